/- TurnSums: the walk. Lemmas; no condition. -/
import Derived.Test.YtpmgaaalfdjikaaSb
import Derived.Test.YtpmgaaalfdjikaaSe
namespace Go.Proofs.Ytpmgaaalfdjikaa
open Go.RowKit
set_option linter.unusedSimpArgs false
set_option linter.unusedVariables false

def W10 : WC × List VRes := ((.seq (.reg [(.stm (.eff (.box 2 (.t 0)) none)), (.set [(4, (.c (.v (.bool false))))] [4])]) (.seq (.seq (.reg [(.set [(27, (.ap .inot [(.ap (.call 12) [])]))] [26, 27])]) (.cond (.t 27) (.seq (.reg [(.set [(4, (.c (.v (.bool false))))] [4])]) .ret) .skip)) (.seq (.reg [(.set [(28, (.ap (.load 3 true) [(.t 2)]))] [28]), (.stm (.eff (.callq 29 13 [(.t 28)]) none)), (.stm (.eff (.box 5 (.c (.agg [(.v (.int .i64 0)), (.v (.int .i64 0)), (.v (.int .i64 0)), (.v (.int .i64 0)), (.v (.int .i64 0)), .nil]))) none)), (.stm (.eff (.store 6 (.t 5) (.t 29)) none))]) (.seq (.drw [[(.op 31 (.load 6 true) [(.t 5)] none), (.op 32 (.load 6 true) [(.t 5)] none), (.op 33 .mv [(.t 1)] none), (.eff (.callq 34 14 [(.t 32), (.t 33)]) none), (.eff (.callq 35 17 [(.t 31), (.t 34)]) none), (.op 30 .mv [(.t 35)] none), (.op 36 (.ext 0) [(.t 30)] none), (.op 37 (.ext 1) [(.t 30)] none), (.eff (.box 6 (.c (.agg [(.v (.int .i64 0)), (.v (.int .i64 0)), (.v (.int .i64 0)), (.v (.int .i64 0)), (.v (.int .i64 0)), .nil]))) none), (.eff (.store 6 (.t 6) (.t 36)) none), (.op 7 .mv [(.t 37)] none)], [(.op 31 (.load 6 true) [(.t 5)] none), (.op 32 (.load 6 true) [(.t 5)] none), (.op 33 .mv [(.t 1)] none), (.eff (.callq 34 14 [(.t 32), (.t 33)]) none), (.eff (.box 6 (.c (.agg [(.v (.int .i64 0)), (.v (.int .i64 0)), (.v (.int .i64 0)), (.v (.int .i64 0)), (.v (.int .i64 0)), .nil]))) none), (.eff (.callq 35 17 [(.t 31), (.t 34)]) none), (.op 30 .mv [(.t 35)] none), (.op 36 (.ext 0) [(.t 30)] none), (.op 37 (.ext 1) [(.t 30)] none), (.eff (.store 6 (.t 6) (.t 36)) none), (.op 7 .mv [(.t 37)] none)], [(.op 31 (.load 6 true) [(.t 5)] none), (.op 32 (.load 6 true) [(.t 5)] none), (.op 33 .mv [(.t 1)] none), (.eff (.box 6 (.c (.agg [(.v (.int .i64 0)), (.v (.int .i64 0)), (.v (.int .i64 0)), (.v (.int .i64 0)), (.v (.int .i64 0)), .nil]))) none), (.eff (.callq 34 14 [(.t 32), (.t 33)]) none), (.eff (.callq 35 17 [(.t 31), (.t 34)]) none), (.op 30 .mv [(.t 35)] none), (.op 36 (.ext 0) [(.t 30)] none), (.op 37 (.ext 1) [(.t 30)] none), (.eff (.store 6 (.t 6) (.t 36)) none), (.op 7 .mv [(.t 37)] none)]]) (.seq (.reg [(.set [(39, (.ap (.load 6 true) [(.t 6)]))] [39]), (.stm (.eff (.callq 40 26 [(.t 39)]) none)), (.set [(8, (.ap (.ext 0) [(.t 40)])), (9, (.ap (.ext 1) [(.t 40)]))] [38, 41, 42, 8, 9])]) (.seq (.drw [[(.op 44 (.load 6 true) [(.t 6)] none), (.op 45 (.load 6 true) [(.t 5)] none), (.eff (.callq 46 14 [(.t 45), (.c (.v (.int .u16 32767)))]) none), (.eff (.callq 47 17 [(.t 44), (.t 46)]) none), (.op 43 .mv [(.t 47)] none), (.op 48 (.ext 0) [(.t 43)] none), (.op 49 (.ext 1) [(.t 43)] none), (.eff (.box 10 (.c (.agg [(.v (.int .i64 0)), (.v (.int .i64 0)), (.v (.int .i64 0)), (.v (.int .i64 0)), (.v (.int .i64 0)), .nil]))) none), (.eff (.store 6 (.t 10) (.t 48)) none), (.op 11 .mv [(.t 49)] none)], [(.op 44 (.load 6 true) [(.t 6)] none), (.op 45 (.load 6 true) [(.t 5)] none), (.eff (.callq 46 14 [(.t 45), (.c (.v (.int .u16 32767)))]) none), (.eff (.box 10 (.c (.agg [(.v (.int .i64 0)), (.v (.int .i64 0)), (.v (.int .i64 0)), (.v (.int .i64 0)), (.v (.int .i64 0)), .nil]))) none), (.eff (.callq 47 17 [(.t 44), (.t 46)]) none), (.op 43 .mv [(.t 47)] none), (.op 48 (.ext 0) [(.t 43)] none), (.op 49 (.ext 1) [(.t 43)] none), (.eff (.store 6 (.t 10) (.t 48)) none), (.op 11 .mv [(.t 49)] none)], [(.op 44 (.load 6 true) [(.t 6)] none), (.op 45 (.load 6 true) [(.t 5)] none), (.eff (.box 10 (.c (.agg [(.v (.int .i64 0)), (.v (.int .i64 0)), (.v (.int .i64 0)), (.v (.int .i64 0)), (.v (.int .i64 0)), .nil]))) none), (.eff (.callq 46 14 [(.t 45), (.c (.v (.int .u16 32767)))]) none), (.eff (.callq 47 17 [(.t 44), (.t 46)]) none), (.op 43 .mv [(.t 47)] none), (.op 48 (.ext 0) [(.t 43)] none), (.op 49 (.ext 1) [(.t 43)] none), (.eff (.store 6 (.t 10) (.t 48)) none), (.op 11 .mv [(.t 49)] none)]]) (.seq (.reg [(.set [(51, (.ap (.load 6 true) [(.t 10)]))] [51]), (.stm (.eff (.callq 52 26 [(.t 51)]) none)), (.set [(12, (.ap (.ext 0) [(.t 52)])), (13, (.ap (.ext 1) [(.t 52)]))] [50, 53, 54, 12, 13])]) (.seq (.seq (.reg [(.set [(68, (.ite (.ap (.ibin .neq) [(.ap (.ibin .add) [(.ap (.ibin .add) [(.ap (.ibin .add) [(.t 7), (.t 9)]), (.t 11)]), (.t 13)]), (.c (.v (.int .i64 0)))]) (.c (.v (.bool true))) (.ap .inot [(.ap (.call 30) [(.t 8), (.t 12)])])))] [55, 56, 57, 58, 59, 60, 61, 62, 63, 64, 65, 66, 67, 68])]) (.cond (.t 68) (.seq (.reg [(.set [(4, (.c (.v (.bool false))))] [4])]) .ret) .skip)) (.seq (.reg [(.set [(14, (.c (.v (.int .i64 0))))] [14])]) (.seq (.seq (.reg [(.set [(69, (.t 8)), (70, (.ap .llen [(.t 8)])), (71, (.c (.v (.int .i64 0))))] [69, 70, 71])]) (.block 0 (.loop (.seq (.reg [(.set [(72, (.ap (.ibin .lss) [(.t 71), (.t 70)]))] [72])]) (.seq (.cond (.t 72) .skip (.exit 0)) (.seq (.block 1 (.seq (.reg [(.set [(15, (.t 71)), (16, (.ap (.load 1 false) [(.ap (.idx 34 1) [(.t 69), (.t 71)])]))] [73, 74, 75, 15, 16])]) (.seq (.seq (.reg [(.set [(87, (.ite (.ap (.ibin .neq) [(.ap .llen [(.t 16)]), (.ap .llen [(.t 8)])]) (.c (.v (.bool true))) (.ap (.ibin .neq) [(.ap (.load 1 false) [(.ap (.idx 3 1) [(.t 16), (.t 15)])]), (.c (.v (.int .i64 0)))])))] [76, 77, 78, 79, 80, 81, 82, 83, 84, 85, 86, 87])]) (.cond (.t 87) (.seq (.reg [(.set [(4, (.c (.v (.bool false))))] [4])]) .ret) .skip)) (.seq (.reg [(.set [(17, (.c (.v (.int .i64 0))))] [17])]) (.seq (.seq (.reg [(.set [(88, (.t 16)), (89, (.ap .llen [(.t 16)])), (90, (.c (.v (.int .i64 0))))] [88, 89, 90])]) (.block 2 (.loop (.seq (.reg [(.set [(91, (.ap (.ibin .lss) [(.t 90), (.t 89)]))] [91])]) (.seq (.cond (.t 91) .skip (.exit 2)) (.seq (.block 3 (.seq (.reg [(.set [(18, (.t 90)), (19, (.ap (.load 1 false) [(.ap (.idx 3 1) [(.t 88), (.t 90)])]))] [92, 93, 94, 18, 19])]) (.seq (.reg [(.set [(20, (.ap (.ext 0) [(.ap (.call 25) [(.ap (.load 6 true) [(.t 6)]), (.ap (.ibin .add) [(.t 15), (.c (.v (.int .i64 1)))]), (.ap (.ibin .add) [(.t 18), (.c (.v (.int .i64 1)))])])])), (21, (.ap (.ext 1) [(.ap (.call 25) [(.ap (.load 6 true) [(.t 6)]), (.ap (.ibin .add) [(.t 15), (.c (.v (.int .i64 1)))]), (.ap (.ibin .add) [(.t 18), (.c (.v (.int .i64 1)))])])]))] [96, 97, 98, 99, 100, 101, 95, 102, 103, 20, 21])]) (.seq (.seq (.reg [(.set [(125, (.ite (.ite (.ap (.ibin .neq) [(.t 19), (.ap (.load 1 false) [(.ap (.idx 3 1) [(.ap (.load 1 false) [(.ap (.idx 34 1) [(.t 8), (.t 18)])]), (.t 15)])])]) (.c (.v (.bool true))) (.ap (.beq true) [(.ap (.ibin .eql) [(.t 21), (.c (.v (.int .i64 0)))]), (.ap (.ibin .neq) [(.t 15), (.t 18)])])) (.c (.v (.bool true))) (.ap (.ibin .neq) [(.t 20), (.t 19)])))] [104, 105, 106, 107, 108, 109, 110, 111, 112, 113, 114, 115, 116, 117, 118, 119, 120, 121, 122, 123, 124, 125])]) (.cond (.t 125) (.seq (.reg [(.set [(4, (.c (.v (.bool false))))] [4])]) .ret) .skip)) (.seq (.reg [(.set [(17, (.ap (.ibin .add) [(.t 17), (.t 19)]))] [126, 127, 128, 17])]) (.reg [(.set [(14, (.ap (.ibin .add) [(.t 14), (.ap (.ibin .mul) [(.t 19), (.t 19)])]))] [129, 130, 131, 132, 133, 14])])))))) (.reg [(.set [(90, (.ap (.ibin .add) [(.t 90), (.c (.v (.int .i64 1)))]))] [134, 90])]))))))) (.seq (.reg [(.set [(22, (.ap (.ext 0) [(.ap (.call 31) [(.ap (.load 6 true) [(.t 6)]), (.ap (.ibin .add) [(.t 15), (.c (.v (.int .i64 1)))])])])), (23, (.ap (.ext 1) [(.ap (.call 31) [(.ap (.load 6 true) [(.t 6)]), (.ap (.ibin .add) [(.t 15), (.c (.v (.int .i64 1)))])])]))] [136, 137, 138, 139, 135, 140, 141, 22, 23])]) (.seq (.reg [(.set [(147, (.ite (.t 23) (.ap (.ibin .neq) [(.t 17), (.t 22)]) (.c (.v (.bool false)))))] [142, 143, 144, 145, 146, 147])]) (.cond (.t 147) (.seq (.reg [(.set [(4, (.c (.v (.bool false))))] [4])]) .ret) .skip)))))))) (.reg [(.set [(71, (.ap (.ibin .add) [(.t 71), (.c (.v (.int .i64 1)))]))] [148, 71])]))))))) (.seq (.reg [(.set [(24, (.ap (.ext 0) [(.ap (.call 18) [(.ap (.load 6 true) [(.t 6)])])])), (25, (.ap (.ext 1) [(.ap (.call 18) [(.ap (.load 6 true) [(.t 6)])])]))] [150, 151, 149, 152, 153, 24, 25])]) (.seq (.reg [(.set [(4, (.ite (.ap (.ibin .eql) [(.t 25), (.c (.v (.int .i64 0)))]) (.ap (.ibin .eql) [(.ap (.ibin .mul) [(.c (.v (.int .i64 2))), (.t 24)]), (.t 14)]) (.c (.v (.bool false)))))] [154, 155, 156, 157, 158, 159, 160, 161, 4])]) .ret)))))))))))), [(.t 4)])
theorem is10 : IsFn Try.prog frOf 10 Try.f10 W10 := ⟨by kernel_rfl, by kernel_rfl, by kernel_rfl⟩
theorem nt10 : Try.f10.ntmps = 162 := by kernel_rfl


/-- A table in a slot: nil, or a row of slices. -/
def tbD (a n : Nat) : D := if n = 0 then .nil else .sl [a, 0] 1 0 n none
def TbM (m : Mem) (a n : Nat) (Ls : List (List Int)) : Prop := 0 < n → (∃ g, m [a, 0] = some (.row g 34 (hdsF (fun j => [a, 0, j + 1]) 0 Ls))) ∧ LsF (fun j => [a, 0, j + 1]) (fun j => [a, 0, 0, j]) m 0 Ls
@[simp] theorem tbD_def (a n : Nat) : (tbD a n).isDef = true := by unfold tbD; split <;> rfl
@[simp] theorem tbD_len (a n : Nat) : (tbD a n).lenD = some n := by
  unfold tbD
  split
  · rename_i h; subst h; rfl
  · rfl
theorem tb_view {m : Mem} {a n : Nat} {Ls : List (List Int)} (h : TbM m a n Ls) (hl : Ls.length = n) : viewA m (tbD a n) = some (.list (lists Ls)) := by
  unfold tbD
  split
  · rename_i h0
    have : Ls = [] := List.eq_nil_of_length_eq_zero (by omega)
    subst this
    rfl
  · rename_i hne
    obtain ⟨⟨g, h1⟩, h2⟩ := h (by omega)
    have hfl := hdsF_len (fun j => [a, 0, j + 1]) Ls 0
    have hv := view_listsF (n := 4) h2
    simp [h1, hfl, hl, List.take_of_length_le, hv]
theorem TbM.old {m m' : Mem} {a n : Nat} {Ls : List (List Int)} (h : TbM m a n Ls) (h0 : ∀ g es, m [a, 0] = some (.row g 34 es) → m' [a, 0] = some (.row g 34 es)) (h1 : ∀ j es, m [a, 0, j + 1] = some (.row [a, 0, 0, j] 3 es) → m' [a, 0, j + 1] = some (.row [a, 0, 0, j] 3 es)) : TbM m' a n Ls := fun hn => by
  obtain ⟨⟨g, h2⟩, h3⟩ := h hn
  exact ⟨⟨g, h0 g _ h2⟩, h3.old fun i _ es e => h1 (0 + i) es e⟩
theorem TbM.adopt {σ : St} {x : Nat} {d : D} {n : Nat} {Ls : List (List Int)} (hc : σ.c x = 0) : TbM (σ.adopt x d (tableMem Ls)).m (x + 1) n Ls := fun _ => by
  refine ⟨⟨[x + 1, 0, 0], ?_⟩, fun i L hi hL => ?_⟩
  · simp [St.adopt, hc, tableMem, HO.ren, hdsF_ren]
  · have e : tableMem Ls [0 + i + 1] = some (.row [0, 0 + i] 3 (ints L)) := by simp only [Nat.zero_add, tableMem, hi, Option.bind_some, if_neg hL]
    show (if x + 1 = x + 1 ∧ 0 = σ.c x then (tableMem Ls [0 + i + 1]).map (HO.ren fun t => (x + 1) :: σ.c x :: t) else σ.m [x + 1, 0, 0 + i + 1]) = _
    rw [e, hc, if_pos ⟨rfl, rfl⟩]
    simp [HO.ren]
theorem c10w (p12 p18 p25 p30 p31 : FP) (q13 q14 q17 q26 : FQ) (x : Sk) (T R : Nat) (all : List Row) (len : Nat) (lim : Option Nat) (hm : MadeOK T R all len) (b n : Nat) (hn : n ≤ 49) (L1 L2 : List Int) (RM RA RE : List Row) (hRM : RM = all.take len) (hRA : RA.length = len) (hRE : RE.length = len)
    (wa we u : Int) (C : Nat → Nat → Int) (S : Nat → Int) (O : Nat → Bool) (Ls : List (List Int)) (hLs : Ls = (List.range n).map fun p => (List.range n).map (C p))
    (h12 : p12 [] = some (bv true))
    (h13 : q13 [.agg [.v (.int .u8 x.t), .v (.int .u8 x.r), .list (bytes x.miss)]] = some (.agg [iv T, iv R, iv T, iv 1, iv 2, .sl [] 5 0 len lim], rowMem 53 (rowsL all)))
    (h14a : q14 [.agg [iv T, iv R, iv T, iv 1, iv 2, .list (rowsL RM)], .v (.int .u16 b)] = some (hd [] L1, hdMem L1))
    (h14b : q14 [.agg [iv T, iv R, iv T, iv 1, iv 2, .list (rowsL RM)], .v (.int .u16 32767)] = some (hd [] L2, hdMem L2))
    (h17a : q17 [.agg [iv T, iv R, iv T, iv 1, iv 2, .list (rowsL RM)], .list (ints L1)] = some (.tup [.agg [iv T, iv R, iv T, iv 1, iv wa, .sl [] 5 0 len none], iv 0], rowMem 53 (rowsL RA)))
    (h17e : q17 [.agg [iv T, iv R, iv T, iv 1, iv wa, .list (rowsL RA)], .list (ints L2)] = some (.tup [.agg [iv T, iv R, iv T, iv 1, iv we, .sl [] 5 0 len none], iv 0], rowMem 53 (rowsL RE)))
    (h26a0 : n = 0 → q26 [.agg [iv T, iv R, iv T, iv 1, iv wa, .list (rowsL RA)]] = some (.tup [.nil, iv 0], noMem)) (h26a : 0 < n → q26 [.agg [iv T, iv R, iv T, iv 1, iv wa, .list (rowsL RA)]] = some (.tup [.sl [] 1 0 n none, iv 0], tableMem Ls))
    (h26e0 : n = 0 → q26 [.agg [iv T, iv R, iv T, iv 1, iv we, .list (rowsL RE)]] = some (.tup [.nil, iv 0], noMem)) (h26e : 0 < n → q26 [.agg [iv T, iv R, iv T, iv 1, iv we, .list (rowsL RE)]] = some (.tup [.sl [] 1 0 n none, iv 0], tableMem Ls))
    (h30 : p30 [.list (lists Ls), .list (lists Ls)] = some (bv true))
    (h25 : ∀ p q : Nat, p < n → q < n → p25 [.agg [iv T, iv R, iv T, iv 1, iv wa, .list (rowsL RA)], iv ((p : Int) + 1), iv ((q : Int) + 1)] = some (.tup [iv (C p q), iv (if p = q then 2 else 0)]))
    (hdia : ∀ p, p < n → C p p = 0) (hsym : ∀ p q, p < n → q < n → C p q = C q p) (hbd : ∀ p q, p < n → q < n → -1000000 ≤ C p q ∧ C p q ≤ 1000000)
    (h31 : ∀ p : Nat, p < n → p31 [.agg [iv T, iv R, iv T, iv 1, iv wa, .list (rowsL RA)], iv ((p : Int) + 1)] = some (.tup [iv (S p), bv (O p)]))
    (hO : ∀ p, p < n → O p = true → ((List.range n).map (C p)).sum = S p)
    (h18 : p18 [.agg [iv T, iv R, iv T, iv 1, iv wa, .list (rowsL RA)]] = some (.tup [iv u, iv 0])) (hu : 2 * u = ((List.range n).map fun p => ((List.range n).map fun q => C p q * C p q).sum).sum) :
    wwp (mkEnv [(12, p12), (18, p18), (25, p25), (30, p30), (31, p31)] [(13, q13), (14, q14), (17, q17), (26, q26)] []) W10.1 (fun e s => okExit e ∧ resV W10.2 s = some (bv true)) (initV [.agg x.cells, .v (.int .u16 b)]) := by
  obtain ⟨⟨t1, t2⟩, ⟨r1, r2⟩, pos, le, fit⟩ := hm
  have tkA : (rowsL RA).take len = rowsL RA := List.take_of_length_le (by simp [hRA])
  have tkE : (rowsL RE).take len = rowsL RE := List.take_of_length_le (by simp [hRE])
  have tk0 : (rowsL all).take len = rowsL RM := by rw [rowsL_takeN, hRM]
  have hLl : Ls.length = n := by rw [hLs]; simp
  have hLne : ∀ L ∈ Ls, 0 < n → L ≠ [] := fun L hL h0 => by
    rw [hLs] at hL
    obtain ⟨p, _, rfl⟩ := List.mem_map.1 hL
    simp; omega
  simp only [W10]
  refine wwp_cutW (wf_init _) (fun σ => σ.s 1 = .v (.int .u16 b) ∧ σ.s 2 = .ptr [3, 0] 0 ∧ σ.m [3, 0] = some (.box x.cells) ∧ σ.c 29 = 0 ∧ σ.c 5 = 0 ∧ σ.c 34 = 0 ∧ σ.c 35 = 0 ∧ σ.c 6 = 0 ∧ σ.c 40 = 0 ∧ σ.c 46 = 0 ∧ σ.c 47 = 0 ∧ σ.c 10 = 0 ∧ σ.c 52 = 0) (by simp [Sk.cells]) ?_
  rintro σ W ⟨h1, h2, m3, k1, k2, k3, k4, k5, k6, k7, k8, k9, ka⟩
  refine wwp_condW W (fun σ => σ.s 1 = .v (.int .u16 b) ∧ σ.s 2 = .ptr [3, 0] 0 ∧ σ.m [3, 0] = some (.box x.cells) ∧ σ.c 29 = 0 ∧ σ.c 5 = 0 ∧ σ.c 34 = 0 ∧ σ.c 35 = 0 ∧ σ.c 6 = 0 ∧ σ.c 40 = 0 ∧ σ.c 46 = 0 ∧ σ.c 47 = 0 ∧ σ.c 10 = 0 ∧ σ.c 52 = 0)
    (by simp [h12, h1, h2, m3, k1, k2, k3, k4, k5, k6, k7, k8, k9, ka]) ?_
  clear W h1 h2 m3 k1 k2 k3 k4 k5 k6 k7 k8 k9 ka σ
  rintro σ W ⟨h1, h2, m3, k1, k2, k3, k4, k5, k6, k7, k8, k9, ka⟩
  refine wwp_cutW W (fun σ => σ.s 1 = .v (.int .u16 b) ∧ MvAt σ 5 [30, 0] T R 2 len lim all ∧ σ.c 34 = 0 ∧ σ.c 35 = 0 ∧ σ.c 6 = 0 ∧ σ.c 40 = 0 ∧ σ.c 46 = 0 ∧ σ.c 47 = 0 ∧ σ.c 10 = 0 ∧ σ.c 52 = 0)
    (by simp [MvAt, h1, h2, m3, k1, k2, k3, k4, k5, k6, k7, k8, k9, ka, Sk.cells, h13]) ?_
  clear W h1 h2 m3 k1 k2 k3 k4 k5 k6 k7 k8 k9 ka σ
  rintro σ W ⟨h1, ⟨h5, m6, g, m30⟩, k3, k4, k5, k6, k7, k8, k9, ka⟩
  refine wwp_drwW W ?_ (fun σ => MvAt σ 5 [30, 0] T R 2 len lim all ∧ MvAt σ 6 [36, 0] T R wa len none RA ∧ σ.s 7 = iv 0 ∧ σ.c 40 = 0 ∧ σ.c 46 = 0 ∧ σ.c 47 = 0 ∧ σ.c 10 = 0 ∧ σ.c 52 = 0) ?_ ?_
  · intro l hl
    simp only [List.mem_cons, List.not_mem_nil, or_false] at hl
    rcases hl with rfl | rfl
    · exact ahead_at 4 8 6 _ rfl (by omega) rfl rfl
    · exact ahead_at 3 8 6 _ rfl (by omega) rfl rfl
  · refine runs_take 4 (fun σ => MvAt σ 5 [30, 0] T R 2 len lim all ∧ σ.s 31 = .agg [iv T, iv R, iv T, iv 1, iv 2, .sl [30, 0] 5 0 len lim] ∧ σ.s 34 = hd [35, 0] L1 ∧ IA σ.m [35, 0] L1 ∧ σ.c 35 = 0 ∧ σ.c 6 = 0 ∧ σ.c 40 = 0 ∧ σ.c 46 = 0 ∧ σ.c 47 = 0 ∧ σ.c 10 = 0 ∧ σ.c 52 = 0) ?_ ?_
    · simp [-D.ren, MvAt, h1, h5, m6, m30, le, tk0, k3, k4, k5, k6, k7, k8, k9, ka, h14a]
      exact fun hne => ⟨[35, 0, 0], by simp [hdMem, hne, k3]⟩
    clear W h1 h5 m6 m30 g k3 k4 k5 k6 k7 k8 k9 ka σ
    rintro σ ⟨⟨h5, m6, g, m30⟩, h31', h34, i34, k4, k5, k6, k7, k8, k9, ka⟩
    have v34 := hd_view i34
    simp [MvAt, h5, m6, m30, h31', h34, v34, le, tk0, k4, k5, k6, k7, k8, k9, ka, h17a]
  clear W h1 h5 m6 m30 g k3 k4 k5 k6 k7 k8 k9 ka σ
  rintro σ W ⟨⟨h5, m6, g, m30⟩, ⟨h6, m7, ga, m36⟩, h7, k6, k7, k8, k9, ka⟩
  refine wwp_cutW W (fun σ => MvAt σ 5 [30, 0] T R 2 len lim all ∧ MvAt σ 6 [36, 0] T R wa len none RA ∧ σ.s 7 = iv 0 ∧ σ.s 8 = tbD 41 n ∧ TbM σ.m 41 n Ls ∧ σ.s 9 = iv 0 ∧ σ.c 46 = 0 ∧ σ.c 47 = 0 ∧ σ.c 10 = 0 ∧ σ.c 52 = 0) ?_ ?_
  · rcases Nat.eq_zero_or_pos n with h0 | h0
    · simp [MvAt, h5, m6, m30, h6, m7, m36, h7, hRA, tkA, k6, k7, k8, k9, ka, h26a0 h0, tbD, h0]
      exact fun h => by omega
    · have n0 : ¬ n = 0 := by omega
      simp [MvAt, h5, m6, m30, h6, m7, m36, h7, hRA, tkA, k6, k7, k8, k9, ka, h26a h0, tbD, n0]
      exact TbM.adopt (by simp [k6])
  clear W h5 m6 m30 g h6 m7 m36 ga h7 k6 k7 k8 k9 ka σ
  rintro σ W ⟨⟨h5, m6, g, m30⟩, ⟨h6, m7, ga, m36⟩, h7, h8, tb, h9, k7, k8, k9, ka⟩
  refine wwp_drwW W ?_ (fun σ => MvAt σ 6 [36, 0] T R wa len none RA ∧ σ.s 7 = iv 0 ∧ σ.s 8 = tbD 41 n ∧ TbM σ.m 41 n Ls ∧ σ.s 9 = iv 0 ∧ MvAt σ 10 [48, 0] T R we len none RE ∧ σ.s 11 = iv 0 ∧ σ.c 52 = 0) ?_ ?_
  · intro l hl
    simp only [List.mem_cons, List.not_mem_nil, or_false] at hl
    rcases hl with rfl | rfl
    · exact ahead_at 3 7 10 _ rfl (by omega) rfl rfl
    · exact ahead_at 2 7 10 _ rfl (by omega) rfl rfl
  · refine runs_take 3 (fun σ => MvAt σ 6 [36, 0] T R wa len none RA ∧ σ.s 7 = iv 0 ∧ σ.s 8 = tbD 41 n ∧ TbM σ.m 41 n Ls ∧ σ.s 9 = iv 0 ∧ σ.s 44 = .agg [iv T, iv R, iv T, iv 1, iv wa, .sl [36, 0] 5 0 len none] ∧ σ.s 46 = hd [47, 0] L2 ∧ IA σ.m [47, 0] L2 ∧ σ.c 47 = 0 ∧ σ.c 10 = 0 ∧ σ.c 52 = 0) ?_ ?_
    · simp [-D.ren, MvAt, h5, m6, m30, h6, m7, m36, h7, h8, h9, le, tk0, k7, k8, k9, ka, h14b]
      exact ⟨tb.old (fun g es h => by simp [h]) (fun j es h => by simp [h]), fun hne => ⟨[47, 0, 0], by simp [hdMem, hne, k7]⟩⟩
    clear W h5 m6 m30 g h6 m7 m36 ga h7 h8 tb h9 k7 k8 k9 ka σ
    rintro σ ⟨⟨h6, m7, ga, m36⟩, h7, h8, tb, h9, h44, h46, i46, k8, k9, ka⟩
    have v46 := hd_view i46
    simp [MvAt, h6, m7, m36, h7, h8, h9, h44, h46, v46, hRA, tkA, k8, k9, ka, h17e]
    exact tb.old (fun g es h => by simp [h]) (fun j es h => by simp [h])
  clear W h5 m6 m30 g h6 m7 m36 ga h7 h8 tb h9 k7 k8 k9 ka σ
  rintro σ W ⟨⟨h6, m7, ga, m36⟩, h7, h8, tb, h9, ⟨h10, m11, ge, m48⟩, h11, ka⟩
  refine wwp_cutW W (fun σ => MvAt σ 6 [36, 0] T R wa len none RA ∧ σ.s 7 = iv 0 ∧ σ.s 8 = tbD 41 n ∧ TbM σ.m 41 n Ls ∧ σ.s 9 = iv 0 ∧ σ.s 11 = iv 0 ∧ σ.s 12 = tbD 53 n ∧ TbM σ.m 53 n Ls ∧ σ.s 13 = iv 0) ?_ ?_
  · rcases Nat.eq_zero_or_pos n with h0 | h0
    · simp [MvAt, h6, m7, m36, h7, h8, h9, h10, m11, m48, h11, hRE, tkE, ka, h26e0 h0]
      refine ⟨fun h => by omega, by simp [tbD, h0], fun h => by omega⟩
    · have n0 : ¬ n = 0 := by omega
      simp [MvAt, h6, m7, m36, h7, h8, h9, h10, m11, m48, h11, hRE, tkE, ka, h26e h0]
      exact ⟨tb.old (fun g es h => by simp [h]) (fun j es h => by simp [h]), by simp [tbD, n0], TbM.adopt (by simp [ka])⟩
  clear W h6 m7 m36 ga h7 h8 tb h9 h10 m11 m48 ge h11 ka σ
  rintro σ W ⟨⟨h6, m7, ga, m36⟩, h7, h8, tb, h9, h11, h12', tb2, h13'⟩
  have v8 := tb_view tb hLl
  have v12 := tb_view tb2 hLl
  refine wwp_condW W (fun σ => MvAt σ 6 [36, 0] T R wa len none RA ∧ σ.s 8 = tbD 41 n ∧ TbM σ.m 41 n Ls) ?_ ?_
  · simp [MvAt, h6, m7, m36, h7, h8, h9, h11, h12', h13', v8, v12, h30]
    exact tb
  clear W h6 m7 m36 ga h7 h8 tb h9 h11 h12' tb2 h13' v8 v12 σ
  rintro σ W ⟨⟨h6, m7, ga, m36⟩, h8, tb⟩
  obtain ⟨M, hM⟩ : ∃ M, M = σ.m := ⟨_, rfl⟩
  rw [← hM] at m7 m36 tb
  refine wwp_cut (fun σ => σ.m = M ∧ σ.s 6 = .ptr [7, 0] 0 ∧ σ.s 8 = tbD 41 n ∧ σ.s 14 = iv 0) (by simp [h6, h8, hM]) ?_
  clear W h6 h8 hM σ
  rintro σ ⟨hM, h6, h8, h14⟩
  obtain ⟨tot, htot⟩ : ∃ tot : Nat → Int, tot = fun k => ((List.range k).map fun p => ((List.range n).map fun q => C p q * C p q).sum).sum := ⟨_, rfl⟩
  refine wwp_cutG (fun σ => σ.m = M ∧ σ.s 6 = .ptr [7, 0] 0 ∧ σ.s 14 = iv (tot n)) ?_ ?_
  · refine wwp_cut (fun σ => σ.m = M ∧ σ.s 6 = .ptr [7, 0] 0 ∧ σ.s 8 = tbD 41 n ∧ σ.s 14 = iv 0 ∧ σ.s 69 = tbD 41 n ∧ σ.s 70 = iv n ∧ σ.s 71 = iv 0) (by simp [h6, h8, hM, h14]) ?_
    clear hM h6 h8 h14 σ
    rintro σ ⟨hM, h6, h8, h14, h69, h70, h71⟩
    simp only [wwp_block]
    refine wwp_loop (fun σ => ∃ k : Nat, k ≤ n ∧ σ.m = M ∧ σ.s 6 = .ptr [7, 0] 0 ∧ σ.s 8 = tbD 41 n ∧ σ.s 14 = iv (tot k) ∧ σ.s 69 = tbD 41 n ∧ σ.s 70 = iv n ∧ σ.s 71 = iv k) (fun σ => cnt n (σ.s 71)) ?_ ?_
    · exact ⟨0, by omega, hM, h6, h8, by rw [htot]; simpa using h14, h69, h70, h71⟩
    · clear hM h6 h8 h14 h69 h70 h71 σ
      rintro σ W ⟨k, hk, hM, h6, h8, h14, h69, h70, h71⟩
      by_cases hlt : k < n
      · have hmu : cnt n (σ.s 71) = n - k := by simp [h71]
        simp only [hmu]
        clear hmu
        have n0 : ¬ n = 0 := by omega
        have etb : tbD 41 n = .sl [41, 0] 1 0 n none := if_neg n0
        obtain ⟨⟨g, m41⟩, hls⟩ := tb (by omega)
        have row : ∀ p, p < n → Ls[p]? = some ((List.range n).map (C p)) := fun p hp => by rw [hLs]; simp [hp]
        have hdat : ∀ p, p < n → (hdsF (fun j => [41, 0, j + 1]) 0 Ls)[p]? = some [.sl [41, 0, p + 1] 1 0 n none] := fun p hp => by
          have e1 := hdsF_at (fun j => [41, 0, j + 1]) Ls 0 p (by omega)
          have e2 : Ls[p]'(by omega) = (List.range n).map (C p) := (List.getElem?_eq_some_iff.1 (row p hp)).2
          rw [e1, e2]
          simp [hd, n0]
        have mrow : ∀ p, p < n → M [41, 0, p + 1] = some (.row [41, 0, 0, p] 3 (ints ((List.range n).map (C p)))) := fun p hp => by
          have := hls p _ (row p hp) (by simp; omega)
          simpa using this
        have cell : ∀ p q, q < n → (ints ((List.range n).map (C p)))[q]? = some [iv (C p q)] := fun p q hq => by
          rw [ints_at (by simpa using hq)]; simp
        have hw1 : IntKind.i64.wrap ((k : Int) + 1) = (k : Int) + 1 := wrap_succ (show k ≤ 1000000000 by omega)
        refine wwp_on (fun σ => σ.m = M ∧ σ.s 6 = .ptr [7, 0] 0 ∧ σ.s 8 = tbD 41 n ∧ σ.s 14 = iv (tot k) ∧ σ.s 69 = tbD 41 n ∧ σ.s 70 = iv n ∧ σ.s 71 = iv k) (by simp [hM, h6, h8, h14, h69, h70, h71, hlt]) ?_
        clear W hM h6 h8 h14 h69 h70 h71 σ
        rintro σ ⟨hM, h6, h8, h14, h69, h70, h71⟩
        refine wwp_body (fun σ => σ.m = M ∧ σ.s 6 = .ptr [7, 0] 0 ∧ σ.s 8 = tbD 41 n ∧ σ.s 14 = iv (tot (k + 1)) ∧ σ.s 69 = tbD 41 n ∧ σ.s 70 = iv n ∧ σ.s 71 = iv k) ?_ ?_
        · refine wwp_cut (fun σ => σ.m = M ∧ σ.s 6 = .ptr [7, 0] 0 ∧ σ.s 8 = tbD 41 n ∧ σ.s 14 = iv (tot k) ∧ σ.s 69 = tbD 41 n ∧ σ.s 70 = iv n ∧ σ.s 71 = iv k ∧ σ.s 15 = iv k ∧ σ.s 16 = .sl [41, 0, k + 1] 1 0 n none) ?_ ?_
          · rw [etb] at h8 h69 ⊢
            simp [hM, h6, h8, h14, h69, h70, h71, m41, hdat k hlt, hlt]
          clear hM h6 h8 h14 h69 h70 h71 σ
          rintro σ ⟨hM, h6, h8, h14, h69, h70, h71, h15, h16⟩
          refine wwp_cutG (fun σ => σ.m = M ∧ σ.s 6 = .ptr [7, 0] 0 ∧ σ.s 8 = tbD 41 n ∧ σ.s 14 = iv (tot k) ∧ σ.s 69 = tbD 41 n ∧ σ.s 70 = iv n ∧ σ.s 71 = iv k ∧ σ.s 15 = iv k ∧ σ.s 16 = .sl [41, 0, k + 1] 1 0 n none) (by simp [hM, h6, h8, h14, h69, h70, h71, h15, h16, mrow k hlt, hdia k hlt, hlt]) ?_
          clear hM h6 h8 h14 h69 h70 h71 h15 h16 σ
          rintro σ ⟨hM, h6, h8, h14, h69, h70, h71, h15, h16⟩
          refine wwp_cut (fun σ => σ.m = M ∧ σ.s 6 = .ptr [7, 0] 0 ∧ σ.s 8 = tbD 41 n ∧ σ.s 14 = iv (tot k) ∧ σ.s 69 = tbD 41 n ∧ σ.s 70 = iv n ∧ σ.s 71 = iv k ∧ σ.s 15 = iv k ∧ σ.s 16 = .sl [41, 0, k + 1] 1 0 n none ∧ σ.s 17 = iv 0) (by simp [hM, h6, h8, h14, h69, h70, h71, h15, h16]) ?_
          clear hM h6 h8 h14 h69 h70 h71 h15 h16 σ
          rintro σ ⟨hM, h6, h8, h14, h69, h70, h71, h15, h16, h17⟩
          obtain ⟨ps, hps⟩ : ∃ ps : Nat → Int, ps = fun q => ((List.range q).map (C k)).sum := ⟨_, rfl⟩
          obtain ⟨sq, hsq⟩ : ∃ sq : Nat → Int, sq = fun q => ((List.range q).map fun j => C k j * C k j).sum := ⟨_, rfl⟩
          have ps_succ : ∀ q, ps (q + 1) = ps q + C k q := fun q => by rw [hps]; simp [List.range_succ]
          have sq_succ : ∀ q, sq (q + 1) = sq q + C k q * C k q := fun q => by rw [hsq]; simp [List.range_succ]
          have ps_bd : ∀ q, q ≤ n → -49000000 ≤ ps q ∧ ps q ≤ 49000000 := fun q hq => by
            have h1 := sum_bound (C k) 1000000 (List.range q) fun j hj => by
              have := hbd k j hlt (by have := List.mem_range.1 hj; omega)
              omega
            have h2 : (List.range q).length * 1000000 ≤ 49 * 1000000 := Nat.mul_le_mul_right _ (by rw [List.length_range]; omega)
            rw [hps]
            simp only
            omega
          have sqr_bd : ∀ p, p < n → ∀ q, q ≤ n → 0 ≤ ((List.range q).map fun j => C p j * C p j).sum ∧ ((List.range q).map fun j => C p j * C p j).sum ≤ 49000000000000 := fun p hp q hq => by
            have h1 := sum_nonneg (fun j => C p j * C p j) 1000000000000 (List.range q) fun j hj => by
              have := sq_bound (hbd p j hp (by have := List.mem_range.1 hj; omega))
              omega
            have h2 : (List.range q).length * 1000000000000 ≤ 49 * 1000000000000 := Nat.mul_le_mul_right _ (by rw [List.length_range]; omega)
            omega
          have sq_bd : ∀ q, q ≤ n → 0 ≤ sq q ∧ sq q ≤ 49000000000000 := fun q hq => by rw [hsq]; exact sqr_bd k hlt q hq
          have tot_bd : 0 ≤ tot k ∧ tot k ≤ 2401000000000000 := by
            have h1 := sum_nonneg (fun p => ((List.range n).map fun q => C p q * C p q).sum) 49000000000000 (List.range k) fun p hp => by
              have := sqr_bd p (by have := List.mem_range.1 hp; omega) n (Nat.le_refl _)
              omega
            have h2 : (List.range k).length * 49000000000000 ≤ 49 * 49000000000000 := Nat.mul_le_mul_right _ (by rw [List.length_range]; omega)
            rw [htot]
            simp only
            omega
          have tot_succ : tot (k + 1) = tot k + sq n := by rw [htot, hsq]; simp [List.range_succ]
          refine wwp_cutG (fun σ => σ.m = M ∧ σ.s 6 = .ptr [7, 0] 0 ∧ σ.s 8 = tbD 41 n ∧ σ.s 14 = iv (tot (k + 1)) ∧ σ.s 69 = tbD 41 n ∧ σ.s 70 = iv n ∧ σ.s 71 = iv k ∧ σ.s 15 = iv k ∧ σ.s 17 = iv (ps n)) ?_ ?_
          · refine wwp_cut (fun σ => σ.m = M ∧ σ.s 6 = .ptr [7, 0] 0 ∧ σ.s 8 = tbD 41 n ∧ σ.s 14 = iv (tot k) ∧ σ.s 69 = tbD 41 n ∧ σ.s 70 = iv n ∧ σ.s 71 = iv k ∧ σ.s 15 = iv k ∧ σ.s 17 = iv 0 ∧ σ.s 88 = .sl [41, 0, k + 1] 1 0 n none ∧ σ.s 89 = iv n ∧ σ.s 90 = iv 0)
              (by simp [hM, h6, h8, h14, h69, h70, h71, h15, h16, h17]) ?_
            clear hM h6 h8 h14 h69 h70 h71 h15 h16 h17 σ
            rintro σ ⟨hM, h6, h8, h14, h69, h70, h71, h15, h17, h88, h89, h90⟩
            simp only [wwp_block]
            refine wwp_loop (fun σ => ∃ q : Nat, q ≤ n ∧ σ.m = M ∧ σ.s 6 = .ptr [7, 0] 0 ∧ σ.s 8 = tbD 41 n ∧ σ.s 14 = iv (tot k + sq q) ∧ σ.s 69 = tbD 41 n ∧ σ.s 70 = iv n ∧ σ.s 71 = iv k ∧ σ.s 15 = iv k ∧ σ.s 17 = iv (ps q) ∧ σ.s 88 = .sl [41, 0, k + 1] 1 0 n none ∧ σ.s 89 = iv n ∧ σ.s 90 = iv q) (fun σ => cnt n (σ.s 90)) ?_ ?_
            · exact ⟨0, by omega, hM, h6, h8, by rw [hsq]; simpa using h14, h69, h70, h71, h15, by rw [hps]; simpa using h17, h88, h89, h90⟩
            · clear hM h6 h8 h14 h69 h70 h71 h15 h17 h88 h89 h90 σ
              rintro σ W ⟨q, hq, hM, h6, h8, h14, h69, h70, h71, h15, h17, h88, h89, h90⟩
              by_cases hqt : q < n
              · have hmu : cnt n (σ.s 90) = n - q := by simp [h90]
                simp only [hmu]
                clear hmu
                have hw2 : IntKind.i64.wrap ((q : Int) + 1) = (q : Int) + 1 := wrap_succ (show q ≤ 1000000000 by omega)
                have e25 := h25 k q hlt hqt
                have cb := hbd k q hlt hqt
                have sb := sq_bound cb
                have p1 := ps_bd q hq
                have p2 := sq_bd q hq
                have wa1 : IntKind.i64.wrap (ps q + C k q) = ps (q + 1) := by rw [wrap_in (by omega) (by omega), ps_succ]
                have wa2 : IntKind.i64.wrap (tot k + sq q + C k q * C k q) = tot k + sq (q + 1) := by rw [wrap_in (by omega) (by omega), sq_succ]; omega
                have wa3 : IntKind.i64.wrap (C k q * C k q) = C k q * C k q := wrap_in (by omega) (by omega)
                have esym : C q k = C k q := hsym q k hqt hlt
                have ckq := cell k q hqt
                have cqk := cell q k hlt
                rw [esym] at cqk
                refine wwp_on (fun σ => σ.m = M ∧ σ.s 6 = .ptr [7, 0] 0 ∧ σ.s 8 = tbD 41 n ∧ σ.s 14 = iv (tot k + sq q) ∧ σ.s 69 = tbD 41 n ∧ σ.s 70 = iv n ∧ σ.s 71 = iv k ∧ σ.s 15 = iv k ∧ σ.s 17 = iv (ps q) ∧ σ.s 88 = .sl [41, 0, k + 1] 1 0 n none ∧ σ.s 89 = iv n ∧ σ.s 90 = iv q)
                  (by simp [hM, h6, h8, h14, h69, h70, h71, h15, h17, h88, h89, h90, hqt]) ?_
                clear W hM h6 h8 h14 h69 h70 h71 h15 h17 h88 h89 h90 σ
                rintro σ ⟨hM, h6, h8, h14, h69, h70, h71, h15, h17, h88, h89, h90⟩
                refine wwp_body (fun σ => σ.m = M ∧ σ.s 6 = .ptr [7, 0] 0 ∧ σ.s 8 = tbD 41 n ∧ σ.s 14 = iv (tot k + sq (q + 1)) ∧ σ.s 69 = tbD 41 n ∧ σ.s 70 = iv n ∧ σ.s 71 = iv k ∧ σ.s 15 = iv k ∧ σ.s 17 = iv (ps (q + 1)) ∧ σ.s 88 = .sl [41, 0, k + 1] 1 0 n none ∧ σ.s 89 = iv n ∧ σ.s 90 = iv q) ?_ ?_
                · refine wwp_cut (fun σ => σ.m = M ∧ σ.s 6 = .ptr [7, 0] 0 ∧ σ.s 8 = tbD 41 n ∧ σ.s 14 = iv (tot k + sq q) ∧ σ.s 69 = tbD 41 n ∧ σ.s 70 = iv n ∧ σ.s 71 = iv k ∧ σ.s 15 = iv k ∧ σ.s 17 = iv (ps q) ∧ σ.s 88 = .sl [41, 0, k + 1] 1 0 n none ∧ σ.s 89 = iv n ∧ σ.s 90 = iv q ∧ σ.s 18 = iv q ∧ σ.s 19 = iv (C k q))
                    (by simp [hM, h6, h8, h14, h69, h70, h71, h15, h17, h88, h89, h90, mrow k hlt, ckq, hqt]) ?_
                  clear hM h6 h8 h14 h69 h70 h71 h15 h17 h88 h89 h90 σ
                  rintro σ ⟨hM, h6, h8, h14, h69, h70, h71, h15, h17, h88, h89, h90, h18', h19⟩
                  refine wwp_cut (fun σ => σ.m = M ∧ σ.s 6 = .ptr [7, 0] 0 ∧ σ.s 8 = tbD 41 n ∧ σ.s 14 = iv (tot k + sq q) ∧ σ.s 69 = tbD 41 n ∧ σ.s 70 = iv n ∧ σ.s 71 = iv k ∧ σ.s 15 = iv k ∧ σ.s 17 = iv (ps q) ∧ σ.s 88 = .sl [41, 0, k + 1] 1 0 n none ∧ σ.s 89 = iv n ∧ σ.s 90 = iv q ∧ σ.s 18 = iv q ∧ σ.s 19 = iv (C k q) ∧
                    σ.s 20 = iv (C k q) ∧ σ.s 21 = iv (if k = q then 2 else 0))
                    (by simp [hM, h6, h8, h14, h69, h70, h71, h15, h17, h88, h89, h90, h18', h19, m7, m36, hRA, tkA, hw1, hw2, e25]) ?_
                  clear hM h6 h8 h14 h69 h70 h71 h15 h17 h88 h89 h90 h18' h19 σ
                  rintro σ ⟨hM, h6, h8, h14, h69, h70, h71, h15, h17, h88, h89, h90, h18', h19, h20, h21⟩
                  refine wwp_cutG (fun σ => σ.m = M ∧ σ.s 6 = .ptr [7, 0] 0 ∧ σ.s 8 = tbD 41 n ∧ σ.s 14 = iv (tot k + sq q) ∧ σ.s 69 = tbD 41 n ∧ σ.s 70 = iv n ∧ σ.s 71 = iv k ∧ σ.s 15 = iv k ∧ σ.s 17 = iv (ps q) ∧ σ.s 88 = .sl [41, 0, k + 1] 1 0 n none ∧ σ.s 89 = iv n ∧ σ.s 90 = iv q ∧ σ.s 19 = iv (C k q)) ?_ ?_
                  · rw [etb] at h8 h69 ⊢
                    by_cases hkq : k = q
                    · subst hkq
                      simp at h21
                      simp [hM, h6, h8, h14, h69, h70, h71, h15, h17, h88, h89, h90, h18', h19, h20, h21, m41, hdat k hlt, mrow k hlt, hlt, cqk]
                    · have hkq' : ¬ (k : Int) = q := by omega
                      have hbn : ((k : Int) != (q : Int)) = true := by rw [bne_iff_ne]; exact hkq'
                      rw [if_neg hkq] at h21
                      simp [hM, h6, h8, h14, h69, h70, h71, h15, h17, h88, h89, h90, h18', h19, h20, h21, m41, hdat q hqt, mrow q hqt, hlt, hqt, esym, hbn]
                  clear hM h6 h8 h14 h69 h70 h71 h15 h17 h88 h89 h90 h18' h19 h20 h21 σ
                  rintro σ ⟨hM, h6, h8, h14, h69, h70, h71, h15, h17, h88, h89, h90, h19⟩
                  simp [hM, h6, h8, h14, h69, h70, h71, h15, h17, h88, h89, h90, h19, wa1, wa2, wa3]
                · clear hM h6 h8 h14 h69 h70 h71 h15 h17 h88 h89 h90 σ
                  rintro σ ⟨hM, h6, h8, h14, h69, h70, h71, h15, h17, h88, h89, h90⟩
                  simp [hM, h6, h8, h14, h69, h70, h71, h15, h17, h88, h89, h90, hw2]
                  exact ⟨⟨q + 1, by omega, rfl, rfl, rfl⟩, by omega⟩
              · have hqn : q = n := by omega
                subst hqn
                refine wwp_off ?_
                simp [hM, h6, h8, h14, h69, h70, h71, h15, h17, h88, h89, h90, tot_succ]
          · clear hM h6 h8 h14 h69 h70 h71 h15 h16 h17 σ
            rintro σ ⟨hM, h6, h8, h14, h69, h70, h71, h15, h17⟩
            refine wwp_cut (fun σ => σ.m = M ∧ σ.s 6 = .ptr [7, 0] 0 ∧ σ.s 8 = tbD 41 n ∧ σ.s 14 = iv (tot (k + 1)) ∧ σ.s 69 = tbD 41 n ∧ σ.s 70 = iv n ∧ σ.s 71 = iv k ∧ σ.s 17 = iv (ps n) ∧ σ.s 22 = iv (S k) ∧ σ.s 23 = bv (O k))
              (by simp [hM, h6, h8, h14, h69, h70, h71, h15, h17, m7, m36, hRA, tkA, hw1, h31 k hlt]) ?_
            clear hM h6 h8 h14 h69 h70 h71 h15 h17 σ
            rintro σ ⟨hM, h6, h8, h14, h69, h70, h71, h17, h22, h23⟩
            cases ho : O k with
            | false =>
              rw [ho] at h23
              simp [hM, h6, h8, h14, h69, h70, h71, h17, h22, h23]
            | true =>
              have e := hO k hlt ho
              have e2 : ps n = S k := by rw [hps]; exact e
              rw [ho] at h23
              rw [e2] at h17
              simp [hM, h6, h8, h14, h69, h70, h71, h17, h22, h23]
        · clear hM h6 h8 h14 h69 h70 h71 σ
          rintro σ ⟨hM, h6, h8, h14, h69, h70, h71⟩
          simp [hM, h6, h8, h14, h69, h70, h71, hw1]
          exact ⟨⟨k + 1, by omega, rfl, rfl⟩, by omega⟩
      · have hkn : k = n := by omega
        subst hkn
        refine wwp_off ?_
        simp [hM, h6, h14, h70, h71]
  · clear hM h6 h8 h14 σ
    rintro σ ⟨hM, h6, h14⟩
    have hub : tot n = 2 * u := by rw [htot, hu]
    have ub : 0 ≤ u ∧ u ≤ 2401000000000000 := by
      have h1 := sum_nonneg (fun p => ((List.range n).map fun q => C p q * C p q).sum) 49000000000000 (List.range n) fun p hp => by
        have h1 := sum_nonneg (fun j => C p j * C p j) 1000000000000 (List.range n) fun j hj => by
          have := sq_bound (hbd p j (List.mem_range.1 hp) (List.mem_range.1 hj))
          omega
        have h2 : (List.range n).length * 1000000000000 ≤ 49 * 1000000000000 := Nat.mul_le_mul_right _ (by rw [List.length_range]; omega)
        omega
      have h2 : (List.range n).length * 49000000000000 ≤ 49 * 49000000000000 := Nat.mul_le_mul_right _ (by rw [List.length_range]; omega)
      omega
    have wu : IntKind.i64.wrap (2 * u) = 2 * u := wrap_in (by omega) (by omega)
    rw [hub] at h14
    simp [hM, h6, h14, m7, m36, hRA, tkA, h18, wu]
end Go.Proofs.Ytpmgaaalfdjikaa
