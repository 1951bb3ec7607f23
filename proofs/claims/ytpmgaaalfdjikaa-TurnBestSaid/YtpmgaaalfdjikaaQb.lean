/- TurnRounds: the last rounds of a movement that Made returns are a list of rounds. No condition. -/
import Derived.Test.YtpmgaaalfdjikaaPm
import Derived.Test.YtpmgaaalfdjikaaQa
namespace Go.Proofs.Ytpmgaaalfdjikaa
open Go.RowKit
set_option linter.unusedSimpArgs false
set_option linter.unusedVariables false

def W5 : WC × List VRes := ((.seq (.reg [(.stm (.eff (.box 2 (.t 0)) none)), (.set [(4, (.c (.v (.bool false))))] [4])]) (.seq (.seq (.reg [(.set [(16, (.ap .inot [(.ap (.call 12) [])]))] [15, 16])]) (.cond (.t 16) (.seq (.reg [(.set [(4, (.c (.v (.bool false))))] [4])]) .ret) .skip)) (.seq (.reg [(.set [(17, (.ap (.load 3 true) [(.t 2)]))] [17]), (.stm (.eff (.callq 18 13 [(.t 17)]) none)), (.stm (.eff (.box 5 (.c (.agg [(.v (.int .i64 0)), (.v (.int .i64 0)), (.v (.int .i64 0)), (.v (.int .i64 0)), (.v (.int .i64 0)), .nil]))) none)), (.stm (.eff (.store 6 (.t 5) (.t 18)) none))]) (.seq (.reg [(.set [(6, (.ap (.call 19) [(.t 1), (.ap (.ibin .add) [(.ap (.load 1 false) [(.ap (.fld 1) [(.t 5)])]), (.c (.v (.int .i64 1)))])]))] [19, 20, 21, 22, 23, 6])]) (.seq (.reg [(.set [(25, (.ap (.load 6 true) [(.t 5)])), (26, (.t 6))] [25, 26]), (.stm (.eff (.callq 27 20 [(.t 25), (.t 26)]) none)), (.set [(7, (.ap (.ext 0) [(.t 27)])), (8, (.ap (.ext 1) [(.t 27)]))] [24, 28, 29, 7, 8])]) (.seq (.reg [(.set [(31, (.ap (.load 6 true) [(.t 5)])), (32, (.t 7))] [31, 32]), (.stm (.eff (.callq 33 17 [(.t 31), (.t 32)]) none)), (.set [(34, (.ap (.ext 0) [(.t 33)])), (35, (.ap (.ext 1) [(.t 33)]))] [30, 34, 35]), (.stm (.eff (.box 9 (.c (.agg [(.v (.int .i64 0)), (.v (.int .i64 0)), (.v (.int .i64 0)), (.v (.int .i64 0)), (.v (.int .i64 0)), .nil]))) none)), (.stm (.eff (.store 6 (.t 9) (.t 34)) none)), (.set [(10, (.t 35))] [10])]) (.seq (.reg [(.set [(37, (.ap (.load 6 true) [(.t 5)])), (39, (.ap (.mx2 false) [(.t 1), (.c (.v (.int .i64 (-1))))]))] [37, 38, 39]), (.stm (.eff (.callq 40 20 [(.t 37), (.t 39)]) none)), (.set [(11, (.ap (.ext 0) [(.t 40)])), (12, (.ap (.ext 1) [(.t 40)]))] [36, 41, 42, 11, 12])]) (.seq (.reg [(.set [(44, (.ap (.load 6 true) [(.t 5)])), (49, (.ap (.mx2 true) [(.t 1), (.ap (.ibin .add) [(.ap (.load 1 false) [(.ap (.fld 1) [(.t 5)])]), (.c (.v (.int .i64 1)))])]))] [44, 45, 46, 47, 48, 49]), (.stm (.eff (.callq 50 20 [(.t 44), (.t 49)]) none)), (.set [(13, (.ap (.ext 0) [(.t 50)])), (14, (.ap (.ext 1) [(.t 50)]))] [43, 51, 52, 13, 14])]) (.seq (.reg [(.set [(4, (.ite (.ite (.ite (.ite (.ap (.ibin .eql) [(.ap (.ibin .add) [(.t 8), (.t 10)]), (.c (.v (.int .i64 0)))]) (.ap (.ibin .eql) [(.ap .llen [(.t 7)]), (.t 6)]) (.c (.v (.bool false)))) (.ite (.ap (.ibin .eql) [(.t 6), (.c (.v (.int .i64 0)))]) (.c (.v (.bool true))) (.ite (.ap (.ibin .eql) [(.ap (.load 1 false) [(.ap (.idx 3 1) [(.t 7), (.ap (.ibin .sub) [(.t 6), (.c (.v (.int .i64 1)))])])]), (.ap (.ibin .sub) [(.ap (.load 1 false) [(.ap (.fld 1) [(.t 5)])]), (.c (.v (.int .i64 1)))])]) (.ap (.ibin .eql) [(.ap (.load 1 false) [(.ap (.idx 3 1) [(.t 7), (.c (.v (.int .i64 0)))])]), (.ap (.ibin .sub) [(.ap (.load 1 false) [(.ap (.fld 1) [(.t 5)])]), (.t 6)])]) (.c (.v (.bool false))))) (.c (.v (.bool false)))) (.ap (.ibin .eql) [(.t 12), (.c (.v (.int .i64 2)))]) (.c (.v (.bool false)))) (.ap (.ibin .eql) [(.t 14), (.c (.v (.int .i64 2)))]) (.c (.v (.bool false)))))] [53, 54, 55, 56, 57, 58, 59, 60, 61, 62, 63, 64, 65, 66, 67, 68, 69, 70, 71, 72, 73, 74, 75, 76, 77, 78, 79, 80, 81, 82, 83, 84, 85, 86, 87, 88, 89, 90, 91, 92, 93, 94, 95, 4])]) .ret))))))))), [(.t 4)])
theorem is5 : IsFn Try.prog frOf 5 Try.f5 W5 := ⟨by kernel_rfl, by kernel_rfl, by kernel_rfl⟩
theorem nt5 : Try.f5.ntmps = 96 := by kernel_rfl


def S12 : List D → Option D
  | [] => some (bv true)
  | _ => none
theorem s12 : OkP 12 S12 := fun ds d h => by
  unfold S12 at h
  split at h <;> cases h
  exact c12
theorem rowsL_takeN (n : Nat) (l : List Row) : (rowsL l).take n = rowsL (l.take n) := by simp [rowsL, List.map_take]
theorem lastL_len (r : Int) (n : Nat) : (lastL r n).length = n := lastF_len r n n
@[simp] theorem lastL_take (r : Int) (n : Nat) : (lastL r n).take n = lastL r n := List.take_of_length_le (by rw [lastL_len]; exact Nat.le_refl _)
theorem lastL_at (r : Int) (n k : Nat) (h : k < (lastL r n).length) : (lastL r n)[k] = r - n + k := by simp [lastL, lastF]
theorem listOK_iff (r : Int) : ∀ (l : List Int) (p : Int), listOK r p l = true ↔ ((∀ x ∈ l, p < x) ∧ l.Pairwise (· < ·)) ∧ ∀ x ∈ l, x < r
  | [], p => by simp [listOK]
  | x :: l, p => by
    rw [listOK_cons, listOK_iff r l x, List.pairwise_cons]
    constructor
    · rintro ⟨h1, h2, ⟨h3, h4⟩, h5⟩
      refine ⟨⟨fun y hy => ?_, h3, h4⟩, fun y hy => ?_⟩
      · rcases List.mem_cons.1 hy with rfl | hy
        · exact h1
        · have := h3 y hy; omega
      · rcases List.mem_cons.1 hy with rfl | hy
        · exact h2
        · exact h5 y hy
    · rintro ⟨⟨h1, h2, h3⟩, h4⟩
      exact ⟨h1 x (by simp), h4 x (by simp), ⟨h2, h3⟩, fun y hy => h4 y (by simp [hy])⟩
theorem lastL_ok (r : Int) (n : Nat) (h : (n : Int) ≤ r) : listOK r (-1) (lastL r n) = true := by
  rw [listOK_iff]
  refine ⟨⟨fun x hx => ?_, ?_⟩, fun x hx => ?_⟩
  · obtain ⟨k, hk, rfl⟩ := List.getElem_of_mem hx
    rw [lastL_at]; omega
  · rw [List.pairwise_iff_getElem]
    intro i j hi hj hij
    rw [lastL_at, lastL_at]; omega
  · obtain ⟨k, hk, rfl⟩ := List.getElem_of_mem hx
    rw [lastL_at]
    rw [lastL_len] at hk
    omega

/-- What a sketch makes, in plain parts. -/
structure MadeOK (T R : Nat) (all : List Row) (len : Nat) : Prop where
  t : 2 ≤ T ∧ T ≤ 6
  r : 1 ≤ R ∧ R ≤ T
  pos : 1 ≤ len
  le : len ≤ all.length
  fit : fitB ⟨T, R, T, 1, 2, all.take len⟩ = true
theorem Sk.madeOK (x : Sk) : MadeOK x.T x.R x.sl.all x.sl.len := by
  obtain ⟨a1, a2, a3, a4⟩ := x.range
  obtain ⟨b1, b2, b3⟩ := x.sl_ok
  exact ⟨⟨a1, a2⟩, ⟨a3, a4⟩, b1, b2, made_fit x⟩
@[simp] theorem mkEnv_p (ps : List (Nat × (List D → Option D))) (qs : List (Nat × (List D → Option (D × Mem)))) (ms : List (Nat × (Mem → List D → Option (D × Mem)))) (f : Nat) (ds : List D) : (mkEnv ps qs ms).p f ds = (look ps f).bind fun s => s ds := rfl
@[simp] theorem mkEnv_q (ps : List (Nat × (List D → Option D))) (qs : List (Nat × (List D → Option (D × Mem)))) (ms : List (Nat × (Mem → List D → Option (D × Mem)))) (f : Nat) (ds : List D) : (mkEnv ps qs ms).q f ds = (look qs f).bind fun s => s ds := rfl
@[simp] theorem mkEnv_m (ps : List (Nat × (List D → Option D))) (qs : List (Nat × (List D → Option (D × Mem)))) (ms : List (Nat × (Mem → List D → Option (D × Mem)))) (f : Nat) (m : Mem) (ds : List D) : (mkEnv ps qs ms).m f m ds = (look ms f).bind fun s => s m ds := rfl
abbrev FP := List D → Option D
abbrev FQ := List D → Option (D × Mem)
def mdA (T R : Nat) (all : List Row) (len : Nat) (lim : Option Nat) (σ : St) : Prop :=
  σ.s 5 = .ptr [6, 0] 0 ∧ σ.m [6, 0] = some (.box [iv T, iv R, iv T, iv 1, iv 2, .sl [19, 0] 5 0 len lim]) ∧ ∃ g, σ.m [19, 0] = some (.row g 53 (rowsL all))
def lsA (R K : Nat) (σ : St) : Prop := (K = 0 ∧ σ.s 7 = .nil) ∨ (0 < K ∧ σ.s 7 = .sl [28, 0] 1 0 K none ∧ ∃ g, σ.m [28, 0] = some (.row g 3 (ints (lastL R K))))
theorem c5w (p12 p19 : FP) (q13 q20 q17 : FQ) (x : Sk) (T R : Nat) (all : List Row) (len : Nat) (lim : Option Nat) (hm : MadeOK T R all len) (n : Int) (K : Nat) (hK : 0 ≤ (K : Int) ∧ (K : Int) < R + 1)
    (h12 : p12 [] = some (bv true)) (h19 : p19 [iv n, iv ((R : Int) + 1)] = some (iv K))
    (h13 : q13 [.agg [.v (.int .u8 x.t), .v (.int .u8 x.r), .list (bytes x.miss)]] = some (.agg [iv T, iv R, iv T, iv 1, iv 2, .sl [] 5 0 len lim], rowMem 53 (rowsL all)))
    (h20n : K = 0 → q20 [.agg [iv T, iv R, iv T, iv 1, iv 2, .list (rowsL (all.take len))], iv 0] = some (.tup [.nil, iv 0], noMem))
    (h20 : 0 < K → q20 [.agg [iv T, iv R, iv T, iv 1, iv 2, .list (rowsL (all.take len))], iv K] = some (.tup [.sl [] 1 0 K none, iv 0], rowMem 3 (ints (lastL R K))))
    (R1 R2 : List Row) (w1 w2 : Int) (h17n : K = 0 → q17 [.agg [iv T, iv R, iv T, iv 1, iv 2, .list (rowsL (all.take len))], .list []] = some (.tup [.agg [iv T, iv R, iv T, iv 1, iv w1, .sl [] 5 0 len none], iv 0], rowMem 53 (rowsL R1)))
    (h17 : 0 < K → q17 [.agg [iv T, iv R, iv T, iv 1, iv 2, .list (rowsL (all.take len))], .list (ints (lastL R K))] = some (.tup [.agg [iv T, iv R, iv T, iv 1, iv w2, .sl [] 5 0 len none], iv 0], rowMem 53 (rowsL R2)))
    (h20b : ∀ z : Int, z < 0 → q20 [.agg [iv T, iv R, iv T, iv 1, iv 2, .list (rowsL (all.take len))], iv z] = some (.tup [.nil, iv 2], noMem))
    (h20c : ∀ z : Int, (R : Int) < z → q20 [.agg [iv T, iv R, iv T, iv 1, iv 2, .list (rowsL (all.take len))], iv z] = some (.tup [.nil, iv 2], noMem)) :
    wwp (mkEnv [(12, p12), (19, p19)] [(13, q13), (20, q20), (17, q17)] []) W5.1 (fun e s => okExit e ∧ resV W5.2 s = some (bv true)) (initV [.agg x.cells, iv n]) := by
  obtain ⟨⟨t1, t2⟩, ⟨r1, r2⟩, pos, le, fit⟩ := hm
  have hw1 : IntKind.i64.wrap ((R : Int) + 1) = (R : Int) + 1 := wrap_in (by omega) (by omega)
  simp only [W5]
  refine wwp_cut (fun σ => σ.s 1 = iv n ∧ σ.s 2 = .ptr [3, 0] 0 ∧ σ.m [3, 0] = some (.box x.cells) ∧ σ.c 18 = 0 ∧ σ.c 5 = 0 ∧ σ.c 27 = 0 ∧ σ.c 33 = 0 ∧ σ.c 9 = 0) (by simp [Sk.cells]) ?_
  rintro σ ⟨h1, h2, m3, k1, k2, k3, k4, k5⟩
  refine wwp_cutG (fun σ => σ.s 1 = iv n ∧ σ.s 2 = .ptr [3, 0] 0 ∧ σ.m [3, 0] = some (.box x.cells) ∧ σ.c 18 = 0 ∧ σ.c 5 = 0 ∧ σ.c 27 = 0 ∧ σ.c 33 = 0 ∧ σ.c 9 = 0) (by simp [h12, h1, h2, m3, k1, k2, k3, k4, k5]) ?_
  clear h1 h2 m3 k1 k2 k3 k4 k5 σ
  rintro σ ⟨h1, h2, m3, k1, k2, k3, k4, k5⟩
  refine wwp_cut (fun σ => σ.s 1 = iv n ∧ mdA T R all len lim σ ∧ σ.c 27 = 0 ∧ σ.c 33 = 0 ∧ σ.c 9 = 0) (by simp [mdA, h1, h2, m3, k1, k2, k3, k4, k5, Sk.cells, h13]) ?_
  clear h1 h2 m3 k1 k2 k3 k4 k5 σ
  rintro σ ⟨h1, ⟨h5, m6, g, m19⟩, k3, k4, k5⟩
  refine wwp_cut (fun σ => σ.s 1 = iv n ∧ mdA T R all len lim σ ∧ σ.c 27 = 0 ∧ σ.c 33 = 0 ∧ σ.c 9 = 0 ∧ σ.s 6 = iv K) (by simp [mdA, h1, h5, m6, m19, k3, k4, k5, hw1, h19]) ?_
  clear h1 h5 m6 m19 g k3 k4 k5 σ
  rintro σ ⟨h1, ⟨h5, m6, g, m19⟩, k3, k4, k5, h6⟩
  refine wwp_cut (fun σ => σ.s 1 = iv n ∧ mdA T R all len lim σ ∧ σ.c 33 = 0 ∧ σ.c 9 = 0 ∧ σ.s 6 = iv K ∧ lsA R K σ ∧ σ.s 8 = iv 0) ?_ ?_
  · rcases Nat.eq_zero_or_pos K with h0 | h0
    · have := h20n h0
      subst h0
      simp [mdA, lsA, h1, h5, m6, m19, k3, k4, k5, h6, le, rowsL_takeN, this]
    · simp [mdA, lsA, h1, h5, m6, m19, k3, k4, k5, h6, le, rowsL_takeN, h20 h0, h0]
  clear h1 h5 m6 m19 g k3 k4 k5 h6 σ
  rintro σ ⟨h1, ⟨h5, m6, g, m19⟩, k4, k5, h6, hls, h8⟩
  refine wwp_cut (fun σ => σ.s 1 = iv n ∧ mdA T R all len lim σ ∧ σ.s 6 = iv K ∧ lsA R K σ ∧ σ.s 8 = iv 0 ∧ σ.s 10 = iv 0) ?_ ?_
  · rcases hls with ⟨h0, h7⟩ | ⟨h0, h7, g', m28⟩
    · have := h17n h0
      subst h0
      simp [mdA, lsA, h1, h5, m6, m19, k4, k5, h6, h7, h8, le, rowsL_takeN, this]
    · simp [mdA, lsA, h1, h5, m6, m19, k4, k5, h6, h7, h8, m28, le, rowsL_takeN, ints_takeN, lastL_len, h17 h0, h0]
  clear h1 h5 m6 m19 g k4 k5 h6 h8 hls σ
  rintro σ ⟨h1, ⟨h5, m6, g, m19⟩, h6, hls, h8, h10⟩
  have e7 := h20b (if -1 < n then -1 else n) (by split <;> omega)
  have e8 := h20c (if n < (R : Int) + 1 then (R : Int) + 1 else n) (by split <;> omega)
  refine wwp_cut (fun σ => σ.s 1 = iv n ∧ mdA T R all len lim σ ∧ σ.s 6 = iv K ∧ lsA R K σ ∧ σ.s 8 = iv 0 ∧ σ.s 10 = iv 0 ∧ σ.s 12 = iv 2) ?_ ?_
  · rcases hls with ⟨h0, h7⟩ | ⟨h0, h7, g', m28⟩
    · simp [mdA, lsA, h1, h5, m6, m19, h6, h7, h8, h10, le, rowsL_takeN, e7, h0]
    · simp [mdA, lsA, h1, h5, m6, m19, h6, h7, h8, h10, m28, le, rowsL_takeN, e7, h0]
  clear h1 h5 m6 m19 g h6 h8 h10 hls σ
  rintro σ ⟨h1, ⟨h5, m6, g, m19⟩, h6, hls, h8, h10, h12'⟩
  refine wwp_cut (fun σ => mdA T R all len lim σ ∧ σ.s 6 = iv K ∧ lsA R K σ ∧ σ.s 8 = iv 0 ∧ σ.s 10 = iv 0 ∧ σ.s 12 = iv 2 ∧ σ.s 14 = iv 2) ?_ ?_
  · rcases hls with ⟨h0, h7⟩ | ⟨h0, h7, g', m28⟩
    · simp [mdA, lsA, h1, h5, m6, m19, h6, h7, h8, h10, h12', hw1, le, rowsL_takeN, e8, h0]
    · simp [mdA, lsA, h1, h5, m6, m19, h6, h7, h8, h10, h12', m28, hw1, le, rowsL_takeN, e8, h0]
  clear h1 h5 m6 m19 g h6 h8 h10 h12' hls σ
  rintro σ ⟨⟨h5, m6, g, m19⟩, h6, hls, h8, h10, h12', h14⟩
  rcases hls with ⟨h0, h7⟩ | ⟨h0, h7, g', m28⟩
  · simp [h5, m6, m19, h6, h7, h8, h10, h12', h14, h0]
  · obtain ⟨j, rfl⟩ : ∃ j, K = j + 1 := ⟨K - 1, by omega⟩
    have hwj : IntKind.i64.wrap (j : Int) = j := wrap_in (by omega) (by omega)
    have hwR : IntKind.i64.wrap ((R : Int) - 1) = (R : Int) - 1 := wrap_in (by omega) (by omega)
    have hwK : IntKind.i64.wrap ((R : Int) - (j + 1)) = (R : Int) - (j + 1) := wrap_in (by omega) (by omega)
    have a1 : (ints (lastL R (j + 1)))[j]? = some [iv ((R : Int) - 1)] := by
      rw [ints_at (by rw [lastL_len]; omega), lastL_at]
      congr 4; omega
    have a2 : (ints (lastL R (j + 1)))[0]? = some [iv ((R : Int) - (j + 1))] := by
      rw [ints_at (by rw [lastL_len]; omega), lastL_at]
      congr 4; omega
    have b1 : ¬ (j : Int) < 0 := by omega
    have b2 : (j : Int) < j + 1 := by omega
    have b3 : ((j : Int) + 1 == 0) = false := by simp; omega
    simp [h5, m6, m19, h6, h7, h8, h10, h12', h14, m28, hwj, hwR, hwK, a1, a2, b1, b2, b3]
end Go.Proofs.Ytpmgaaalfdjikaa
