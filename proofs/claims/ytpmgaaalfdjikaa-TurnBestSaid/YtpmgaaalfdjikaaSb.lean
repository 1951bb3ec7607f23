/- TurnKeeps: the walk. Lemmas; no condition. -/
import Derived.Test.YtpmgaaalfdjikaaSa
namespace Go.Proofs.Ytpmgaaalfdjikaa
open Go.RowKit
set_option linter.unusedSimpArgs false
set_option linter.unusedVariables false

def W9 : WC × List VRes := ((.seq (.reg [(.stm (.eff (.box 3 (.t 0)) none)), (.set [(6, (.c (.v (.bool false))))] [6])]) (.seq (.seq (.reg [(.set [(23, (.ap .inot [(.ap (.call 12) [])]))] [22, 23])]) (.cond (.t 23) (.seq (.reg [(.set [(6, (.c (.v (.bool false))))] [6])]) .ret) .skip)) (.seq (.reg [(.set [(24, (.ap (.load 3 true) [(.t 3)]))] [24]), (.stm (.eff (.callq 25 13 [(.t 24)]) none)), (.stm (.eff (.box 7 (.c (.agg [(.v (.int .i64 0)), (.v (.int .i64 0)), (.v (.int .i64 0)), (.v (.int .i64 0)), (.v (.int .i64 0)), .nil]))) none)), (.stm (.eff (.store 6 (.t 7) (.t 25)) none))]) (.seq (.reg [(.set [(26, (.ap (.load 6 true) [(.t 7)])), (27, (.t 1)), (29, (.ap (.load 6 true) [(.t 7)])), (32, (.ap (.ibin .andNot) [(.t 2), (.t 1)]))] [26, 27, 29, 30, 31, 32]), (.stm (.eff (.callq 28 14 [(.t 26), (.t 27)]) none)), (.stm (.eff (.callq 33 14 [(.t 29), (.t 32)]) none)), (.set [(8, (.t 28)), (9, (.t 33))] [8, 9])]) (.seq (.reg [(.set [(35, (.ap (.load 6 true) [(.t 7)])), (36, (.t 8))] [35, 36]), (.stm (.eff (.callq 37 17 [(.t 35), (.t 36)]) none)), (.set [(38, (.ap (.ext 0) [(.t 37)])), (39, (.ap (.ext 1) [(.t 37)]))] [34, 38, 39]), (.stm (.eff (.box 10 (.c (.agg [(.v (.int .i64 0)), (.v (.int .i64 0)), (.v (.int .i64 0)), (.v (.int .i64 0)), (.v (.int .i64 0)), .nil]))) none)), (.stm (.eff (.store 6 (.t 10) (.t 38)) none)), (.set [(11, (.t 39))] [11])]) (.seq (.reg [(.set [(41, (.ap (.load 6 true) [(.t 10)])), (42, (.t 8))] [41, 42]), (.stm (.eff (.callq 43 17 [(.t 41), (.t 42)]) none)), (.set [(44, (.ap (.ext 0) [(.t 43)])), (45, (.ap (.ext 1) [(.t 43)]))] [40, 44, 45]), (.stm (.eff (.box 12 (.c (.agg [(.v (.int .i64 0)), (.v (.int .i64 0)), (.v (.int .i64 0)), (.v (.int .i64 0)), (.v (.int .i64 0)), .nil]))) none)), (.stm (.eff (.store 6 (.t 12) (.t 44)) none)), (.set [(13, (.t 45))] [13])]) (.seq (.reg [(.set [(47, (.ap (.load 6 true) [(.t 10)])), (48, (.t 9))] [47, 48]), (.stm (.eff (.callq 49 17 [(.t 47), (.t 48)]) none)), (.set [(50, (.ap (.ext 0) [(.t 49)])), (51, (.ap (.ext 1) [(.t 49)]))] [46, 50, 51]), (.stm (.eff (.box 14 (.c (.agg [(.v (.int .i64 0)), (.v (.int .i64 0)), (.v (.int .i64 0)), (.v (.int .i64 0)), (.v (.int .i64 0)), .nil]))) none)), (.stm (.eff (.store 6 (.t 14) (.t 50)) none)), (.set [(15, (.t 51))] [15])]) (.seq (.drw [[(.op 53 (.load 6 true) [(.t 7)] none), (.op 54 (.load 6 true) [(.t 7)] none), (.op 55 .mv [(.t 1)] none), (.op 56 .mv [(.t 2)] none), (.op 57 (.ibin .or) [(.t 55), (.t 56)] none), (.eff (.callq 58 14 [(.t 54), (.t 57)]) none), (.eff (.callq 59 17 [(.t 53), (.t 58)]) none), (.op 52 .mv [(.t 59)] none), (.op 60 (.ext 0) [(.t 52)] none), (.op 61 (.ext 1) [(.t 52)] none), (.eff (.box 16 (.c (.agg [(.v (.int .i64 0)), (.v (.int .i64 0)), (.v (.int .i64 0)), (.v (.int .i64 0)), (.v (.int .i64 0)), .nil]))) none), (.eff (.store 6 (.t 16) (.t 60)) none), (.op 17 .mv [(.t 61)] none)], [(.op 53 (.load 6 true) [(.t 7)] none), (.op 54 (.load 6 true) [(.t 7)] none), (.op 55 .mv [(.t 1)] none), (.op 56 .mv [(.t 2)] none), (.op 57 (.ibin .or) [(.t 55), (.t 56)] none), (.eff (.callq 58 14 [(.t 54), (.t 57)]) none), (.eff (.box 16 (.c (.agg [(.v (.int .i64 0)), (.v (.int .i64 0)), (.v (.int .i64 0)), (.v (.int .i64 0)), (.v (.int .i64 0)), .nil]))) none), (.eff (.callq 59 17 [(.t 53), (.t 58)]) none), (.op 52 .mv [(.t 59)] none), (.op 60 (.ext 0) [(.t 52)] none), (.op 61 (.ext 1) [(.t 52)] none), (.eff (.store 6 (.t 16) (.t 60)) none), (.op 17 .mv [(.t 61)] none)], [(.op 53 (.load 6 true) [(.t 7)] none), (.op 54 (.load 6 true) [(.t 7)] none), (.op 55 .mv [(.t 1)] none), (.op 56 .mv [(.t 2)] none), (.op 57 (.ibin .or) [(.t 55), (.t 56)] none), (.eff (.box 16 (.c (.agg [(.v (.int .i64 0)), (.v (.int .i64 0)), (.v (.int .i64 0)), (.v (.int .i64 0)), (.v (.int .i64 0)), .nil]))) none), (.eff (.callq 58 14 [(.t 54), (.t 57)]) none), (.eff (.callq 59 17 [(.t 53), (.t 58)]) none), (.op 52 .mv [(.t 59)] none), (.op 60 (.ext 0) [(.t 52)] none), (.op 61 (.ext 1) [(.t 52)] none), (.eff (.store 6 (.t 16) (.t 60)) none), (.op 17 .mv [(.t 61)] none)]]) (.seq (.seq (.reg [(.set [(99, (.ite (.ite (.ite (.ite (.ap (.ibin .neq) [(.ap (.ibin .add) [(.ap (.ibin .add) [(.ap (.ibin .add) [(.t 11), (.t 13)]), (.t 15)]), (.t 17)]), (.c (.v (.int .i64 0)))]) (.c (.v (.bool true))) (.ap .inot [(.ap (.call 27) [(.ap (.load 6 true) [(.t 10)])])])) (.c (.v (.bool true))) (.ap (.ibin .neq) [(.ap .llen [(.ap (.load 1 false) [(.ap (.fld 5) [(.t 10)])])]), (.ap .llen [(.ap (.load 1 false) [(.ap (.fld 5) [(.t 7)])])])])) (.c (.v (.bool true))) (.ap .inot [(.ap (.call 28) [(.ap (.load 1 false) [(.ap (.fld 5) [(.t 12)])]), (.ap (.load 1 false) [(.ap (.fld 5) [(.t 7)])])])])) (.c (.v (.bool true))) (.ap .inot [(.ap (.call 28) [(.ap (.load 1 false) [(.ap (.fld 5) [(.t 14)])]), (.ap (.load 1 false) [(.ap (.fld 5) [(.t 16)])])])])))] [62, 63, 64, 65, 66, 67, 68, 69, 70, 71, 72, 73, 74, 75, 76, 77, 78, 79, 80, 81, 82, 83, 84, 85, 86, 87, 88, 89, 90, 91, 92, 93, 94, 95, 96, 97, 98, 99])]) (.cond (.t 99) (.seq (.reg [(.set [(6, (.c (.v (.bool false))))] [6])]) .ret) .skip)) (.seq (.seq (.reg [(.set [(101, (.ap (.load 1 false) [(.ap (.fld 5) [(.t 10)])])), (102, (.ap .llen [(.ap (.load 1 false) [(.ap (.fld 5) [(.t 10)])])])), (103, (.c (.v (.int .i64 0))))] [100, 101, 102, 103])]) (.block 0 (.loop (.seq (.reg [(.set [(104, (.ap (.ibin .lss) [(.t 103), (.t 102)]))] [104])]) (.seq (.cond (.t 104) .skip (.exit 0)) (.seq (.block 1 (.seq (.reg [(.set [(105, (.t 103)), (107, (.ap (.load 5 true) [(.ap (.idx 53 5) [(.t 101), (.t 103)])]))] [105, 106, 107]), (.stm (.eff (.box 19 (.c (.agg [(.v (.int .i64 0)), (.v (.int .i64 0)), (.v (.int .i64 0)), (.v (.int .i64 0)), (.v (.int .i64 0))]))) none)), (.set [(18, (.t 105))] [18]), (.stm (.eff (.store 5 (.t 19) (.t 107)) none))]) (.seq (.reg [(.set [(112, (.ap (.load 5 true) [(.ap (.idx 53 5) [(.ap (.load 1 false) [(.ap (.fld 5) [(.t 7)])]), (.t 18)])]))] [108, 109, 110, 111, 112]), (.stm (.eff (.box 20 (.c (.agg [(.v (.int .i64 0)), (.v (.int .i64 0)), (.v (.int .i64 0)), (.v (.int .i64 0)), (.v (.int .i64 0))]))) none)), (.stm (.eff (.store 5 (.t 20) (.t 112)) none))]) (.seq (.seq (.reg [(.set [(116, (.ap (.call 29) [(.t 8), (.ap (.load 1 false) [(.ap (.fld 0) [(.t 19)])])]))] [113, 114, 115, 116])]) (.cond (.t 116) (.reg [(.set [(118, (.ap (.load 1 false) [(.ap (.fld 3) [(.t 20)])])), (120, (.ap (.load 1 false) [(.ap (.fld 2) [(.t 20)])])), (121, (.ap (.fld 2) [(.t 20)]))] [117, 118, 119, 120, 121]), (.stm (.eff (.store 1 (.t 121) (.t 118)) none)), (.set [(122, (.ap (.fld 3) [(.t 20)]))] [122]), (.stm (.eff (.store 1 (.t 122) (.t 120)) none))]) .skip)) (.seq (.reg [(.set [(125, (.ap (.aeq true [3, 3, 3, 3, 3]) [(.ap (.load 5 true) [(.t 19)]), (.ap (.load 5 true) [(.t 20)])]))] [123, 124, 125])]) (.cond (.t 125) (.seq (.reg [(.set [(6, (.c (.v (.bool false))))] [6])]) .ret) .skip)))))) (.reg [(.set [(103, (.ap (.ibin .add) [(.t 103), (.c (.v (.int .i64 1)))]))] [126, 103])]))))))) (.seq (.reg [(.set [(21, (.ap (.load 1 false) [(.ap (.fld 4) [(.t 7)])]))] [127, 128, 21])]) (.seq (.seq (.reg [(.set [(131, (.ap (.ibin .gtr) [(.ap .llen [(.t 8)]), (.c (.v (.int .i64 0)))]))] [129, 130, 131])]) (.cond (.t 131) (.reg [(.set [(21, (.c (.v (.int .i64 1))))] [21])]) .skip)) (.seq (.reg [(.set [(6, (.ite (.ite (.ite (.ite (.ap (.ibin .eql) [(.ap (.load 1 false) [(.ap (.fld 4) [(.t 10)])]), (.t 21)]) (.ap (.ibin .eql) [(.ap (.load 1 false) [(.ap (.fld 0) [(.t 10)])]), (.ap (.load 1 false) [(.ap (.fld 0) [(.t 7)])])]) (.c (.v (.bool false)))) (.ap (.ibin .eql) [(.ap (.load 1 false) [(.ap (.fld 1) [(.t 10)])]), (.ap (.load 1 false) [(.ap (.fld 1) [(.t 7)])])]) (.c (.v (.bool false)))) (.ap (.ibin .eql) [(.ap (.load 1 false) [(.ap (.fld 2) [(.t 10)])]), (.ap (.load 1 false) [(.ap (.fld 2) [(.t 7)])])]) (.c (.v (.bool false)))) (.ap (.ibin .eql) [(.ap (.load 1 false) [(.ap (.fld 3) [(.t 10)])]), (.ap (.load 1 false) [(.ap (.fld 3) [(.t 7)])])]) (.c (.v (.bool false)))))] [132, 133, 134, 135, 136, 137, 138, 139, 140, 141, 142, 143, 144, 145, 146, 147, 148, 149, 150, 151, 152, 153, 154, 155, 156, 157, 158, 159, 160, 161, 162, 163, 6])]) .ret))))))))))))), [(.t 6)])
theorem is9 : IsFn Try.prog frOf 9 Try.f9 W9 := ⟨by kernel_rfl, by kernel_rfl, by kernel_rfl⟩
theorem nt9 : Try.f9.ntmps = 164 := by kernel_rfl


/-- A movement in a variable, and its rows. -/
def MvAt (σ : St) (x : Nat) (tr : Tok) (T R w : Int) (len : Nat) (lim : Option Nat) (rows : List Row) : Prop :=
  σ.s x = .ptr [x + 1, 0] 0 ∧ σ.m [x + 1, 0] = some (.box [iv T, iv R, iv T, iv 1, iv w, .sl tr 5 0 len lim]) ∧ ∃ g, σ.m tr = some (.row g 53 (rowsL rows))
theorem c9w (p12 p27 p28 p29 : FP) (q13 q14 q17 : FQ) (x : Sk) (T R : Nat) (all : List Row) (len : Nat) (lim : Option Nat) (hm : MadeOK T R all len) (b1 b2 b21 b12 : Nat)
    (hb21 : bits .andNot .u16 (b2 : Int) (b1 : Int) = b21) (hb12 : bits .or .u16 (b1 : Int) (b2 : Int) = b12) (L1 L2 L12 : List Int) (RM RA RB : List Row) (hRM : RM = all.take len) (hRA : RA.length = len) (hRB : RB.length = len) (wa wk wb wc : Int)
    (h12 : p12 [] = some (bv true))
    (h13 : q13 [.agg [.v (.int .u8 x.t), .v (.int .u8 x.r), .list (bytes x.miss)]] = some (.agg [iv T, iv R, iv T, iv 1, iv 2, .sl [] 5 0 len lim], rowMem 53 (rowsL all)))
    (h14a : q14 [.agg [iv T, iv R, iv T, iv 1, iv 2, .list (rowsL RM)], .v (.int .u16 b1)] = some (hd [] L1, hdMem L1))
    (h14b : q14 [.agg [iv T, iv R, iv T, iv 1, iv 2, .list (rowsL RM)], .v (.int .u16 b21)] = some (hd [] L2, hdMem L2))
    (h14c : q14 [.agg [iv T, iv R, iv T, iv 1, iv 2, .list (rowsL RM)], .v (.int .u16 b12)] = some (hd [] L12, hdMem L12))
    (h17a : q17 [.agg [iv T, iv R, iv T, iv 1, iv 2, .list (rowsL RM)], .list (ints L1)] = some (.tup [.agg [iv T, iv R, iv T, iv 1, iv wa, .sl [] 5 0 len none], iv 0], rowMem 53 (rowsL RA)))
    (h17k : q17 [.agg [iv T, iv R, iv T, iv 1, iv wa, .list (rowsL RA)], .list (ints L1)] = some (.tup [.agg [iv T, iv R, iv T, iv 1, iv wk, .sl [] 5 0 len none], iv 0], rowMem 53 (rowsL RM)))
    (h17b : q17 [.agg [iv T, iv R, iv T, iv 1, iv wa, .list (rowsL RA)], .list (ints L2)] = some (.tup [.agg [iv T, iv R, iv T, iv 1, iv wb, .sl [] 5 0 len none], iv 0], rowMem 53 (rowsL RB)))
    (h17c : q17 [.agg [iv T, iv R, iv T, iv 1, iv 2, .list (rowsL RM)], .list (ints L12)] = some (.tup [.agg [iv T, iv R, iv T, iv 1, iv wc, .sl [] 5 0 len none], iv 0], rowMem 53 (rowsL RB)))
    (h27 : p27 [.agg [iv T, iv R, iv T, iv 1, iv wa, .list (rowsL RA)]] = some (bv true))
    (h28a : p28 [.list (rowsL RM), .list (rowsL RM)] = some (bv true)) (h28b : p28 [.list (rowsL RB), .list (rowsL RB)] = some (bv true))
    (h29 : ∀ v, p29 [.list (ints L1), iv v] = some (bv (L1.contains v)))
    (hrow : ∀ i (h : i < RM.length), RA[i]? = some (turnRow L1 RM[i])) (hwa : wa = if L1.length = 0 then 2 else 1) :
    wwp (mkEnv [(12, p12), (27, p27), (28, p28), (29, p29)] [(13, q13), (14, q14), (17, q17)] []) W9.1 (fun e s => okExit e ∧ resV W9.2 s = some (bv true)) (initV [.agg x.cells, .v (.int .u16 b1), .v (.int .u16 b2)]) := by
  obtain ⟨⟨t1, t2⟩, ⟨r1, r2⟩, pos, le, fit⟩ := hm
  have tkA : (rowsL RA).take len = rowsL RA := List.take_of_length_le (by simp [hRA])
  have tkB : (rowsL RB).take len = rowsL RB := List.take_of_length_le (by simp [hRB])
  have hRMl : RM.length = len := by rw [hRM, List.length_take]; omega
  have hlen36 : len ≤ 1128 := by have := fit_len fit; rw [List.length_take] at this; omega
  have tkM : (rowsL RM).take len = rowsL RM := List.take_of_length_le (by simp [hRMl])
  have tk0 : (rowsL all).take len = rowsL RM := by rw [rowsL_takeN, hRM]
  simp only [W9]
  refine wwp_cutW (wf_init _) (fun σ => σ.s 1 = .v (.int .u16 b1) ∧ σ.s 2 = .v (.int .u16 b2) ∧ σ.s 3 = .ptr [4, 0] 0 ∧ σ.m [4, 0] = some (.box x.cells) ∧ ∀ y, y ≠ 3 → σ.c y = 0) (by simp [Sk.cells]) ?_
  rintro σ W ⟨h1, h2, h3, m4, hc⟩
  refine wwp_condW W (fun σ => σ.s 1 = .v (.int .u16 b1) ∧ σ.s 2 = .v (.int .u16 b2) ∧ σ.s 3 = .ptr [4, 0] 0 ∧ σ.m [4, 0] = some (.box x.cells) ∧ ∀ y, y ≠ 3 → σ.c y = 0) (by simp [h12, h1, h2, h3, m4]; exact hc) ?_
  clear W h1 h2 h3 m4 hc σ
  rintro σ W ⟨h1, h2, h3, m4, hc⟩
  have k1 := hc 25 (by omega)
  have k2 := hc 7 (by omega)
  have k3 := hc 28 (by omega)
  have k4 := hc 33 (by omega)
  have k5 := hc 37 (by omega)
  have k6 := hc 10 (by omega)
  have k7 := hc 43 (by omega)
  have k8 := hc 12 (by omega)
  have k9 := hc 49 (by omega)
  have ka := hc 14 (by omega)
  have kb := hc 58 (by omega)
  have kc := hc 59 (by omega)
  have kd := hc 16 (by omega)
  clear hc
  refine wwp_cutW W (fun σ => σ.s 1 = .v (.int .u16 b1) ∧ σ.s 2 = .v (.int .u16 b2) ∧ MvAt σ 7 [26, 0] T R 2 len lim all ∧ σ.c 28 = 0 ∧ σ.c 33 = 0 ∧ σ.c 37 = 0 ∧ σ.c 10 = 0 ∧ σ.c 43 = 0 ∧ σ.c 12 = 0 ∧ σ.c 49 = 0 ∧ σ.c 14 = 0 ∧ σ.c 58 = 0 ∧ σ.c 59 = 0 ∧ σ.c 16 = 0)
    (by simp [MvAt, h1, h2, h3, m4, k1, k2, k3, k4, k5, k6, k7, k8, k9, ka, kb, kc, kd, Sk.cells, h13]) ?_
  clear W h1 h2 h3 m4 k1 k2 k3 k4 k5 k6 k7 k8 k9 ka kb kc kd σ
  rintro σ W ⟨h1, h2, ⟨h7, m8, g, m26⟩, k3, k4, k5, k6, k7, k8, k9, ka, kb, kc, kd⟩
  refine wwp_cutW W (fun σ => σ.s 1 = .v (.int .u16 b1) ∧ σ.s 2 = .v (.int .u16 b2) ∧ MvAt σ 7 [26, 0] T R 2 len lim all ∧ σ.s 8 = hd [29, 0] L1 ∧ IA σ.m [29, 0] L1 ∧ σ.s 9 = hd [34, 0] L2 ∧ IA σ.m [34, 0] L2 ∧
    σ.c 37 = 0 ∧ σ.c 10 = 0 ∧ σ.c 43 = 0 ∧ σ.c 12 = 0 ∧ σ.c 49 = 0 ∧ σ.c 14 = 0 ∧ σ.c 58 = 0 ∧ σ.c 59 = 0 ∧ σ.c 16 = 0) ?_ ?_
  · simp [-D.ren, MvAt, h1, h2, h7, m8, m26, le, tk0, k3, k4, k5, k6, k7, k8, k9, ka, kb, kc, kd, h14a, h14b, hb21]
    exact ⟨fun hne => ⟨[29, 0, 0], by simp [hdMem, hne, k3]⟩, fun hne => ⟨[34, 0, 0], by simp [hdMem, hne, k4]⟩⟩
  clear W h1 h2 h7 m8 m26 g k3 k4 k5 k6 k7 k8 k9 ka kb kc kd σ
  rintro σ W ⟨h1, h2, ⟨h7, m8, g, m26⟩, h8, i8, h9, i9, k5, k6, k7, k8, k9, ka, kb, kc, kd⟩
  have v8 := hd_view i8
  refine wwp_cutW W (fun σ => σ.s 1 = .v (.int .u16 b1) ∧ σ.s 2 = .v (.int .u16 b2) ∧ MvAt σ 7 [26, 0] T R 2 len lim all ∧ σ.s 8 = hd [29, 0] L1 ∧ IA σ.m [29, 0] L1 ∧ σ.s 9 = hd [34, 0] L2 ∧ IA σ.m [34, 0] L2 ∧
    MvAt σ 10 [38, 0] T R wa len none RA ∧ σ.s 11 = iv 0 ∧ σ.c 43 = 0 ∧ σ.c 12 = 0 ∧ σ.c 49 = 0 ∧ σ.c 14 = 0 ∧ σ.c 58 = 0 ∧ σ.c 59 = 0 ∧ σ.c 16 = 0) ?_ ?_
  · simp [MvAt, h1, h2, h7, m8, m26, h8, h9, v8, le, tk0, k5, k6, k7, k8, k9, ka, kb, kc, kd, h17a]
    exact ⟨fun hne => by obtain ⟨g', hg⟩ := i8 hne; exact ⟨g', by simp [hg]⟩, fun hne => by obtain ⟨g', hg⟩ := i9 hne; exact ⟨g', by simp [hg]⟩⟩
  clear W h1 h2 h7 m8 m26 g h8 i8 h9 i9 v8 k5 k6 k7 k8 k9 ka kb kc kd σ
  rintro σ W ⟨h1, h2, ⟨h7, m8, g, m26⟩, h8, i8, h9, i9, ⟨h10, m11, ga, m38⟩, h11, k7, k8, k9, ka, kb, kc, kd⟩
  have v8 := hd_view i8
  refine wwp_cutW W (fun σ => σ.s 1 = .v (.int .u16 b1) ∧ σ.s 2 = .v (.int .u16 b2) ∧ MvAt σ 7 [26, 0] T R 2 len lim all ∧ σ.s 8 = hd [29, 0] L1 ∧ IA σ.m [29, 0] L1 ∧ σ.s 9 = hd [34, 0] L2 ∧ IA σ.m [34, 0] L2 ∧
    MvAt σ 10 [38, 0] T R wa len none RA ∧ σ.s 11 = iv 0 ∧ MvAt σ 12 [44, 0] T R wk len none RM ∧ σ.s 13 = iv 0 ∧ σ.c 49 = 0 ∧ σ.c 14 = 0 ∧ σ.c 58 = 0 ∧ σ.c 59 = 0 ∧ σ.c 16 = 0) ?_ ?_
  · simp [MvAt, h1, h2, h7, m8, m26, h8, h9, v8, h10, m11, m38, h11, hRA, tkA, k7, k8, k9, ka, kb, kc, kd, h17k]
    exact ⟨fun hne => by obtain ⟨g', hg⟩ := i8 hne; exact ⟨g', by simp [hg]⟩, fun hne => by obtain ⟨g', hg⟩ := i9 hne; exact ⟨g', by simp [hg]⟩⟩
  clear W h1 h2 h7 m8 m26 g h8 i8 h9 i9 v8 h10 m11 ga m38 h11 k7 k8 k9 ka kb kc kd σ
  rintro σ W ⟨h1, h2, ⟨h7, m8, g, m26⟩, h8, i8, h9, i9, ⟨h10, m11, ga, m38⟩, h11, ⟨h12', m13, gk, m44⟩, h13', k9, ka, kb, kc, kd⟩
  have v9 := hd_view i9
  refine wwp_cutW W (fun σ => σ.s 1 = .v (.int .u16 b1) ∧ σ.s 2 = .v (.int .u16 b2) ∧ MvAt σ 7 [26, 0] T R 2 len lim all ∧ σ.s 8 = hd [29, 0] L1 ∧ IA σ.m [29, 0] L1 ∧
    MvAt σ 10 [38, 0] T R wa len none RA ∧ σ.s 11 = iv 0 ∧ MvAt σ 12 [44, 0] T R wk len none RM ∧ σ.s 13 = iv 0 ∧ MvAt σ 14 [50, 0] T R wb len none RB ∧ σ.s 15 = iv 0 ∧ σ.c 58 = 0 ∧ σ.c 59 = 0 ∧ σ.c 16 = 0) ?_ ?_
  · simp [MvAt, h1, h2, h7, m8, m26, h8, h9, v9, h10, m11, m38, h11, h12', m13, m44, h13', hRA, tkA, k9, ka, kb, kc, kd, h17b]
    exact fun hne => by obtain ⟨g', hg⟩ := i8 hne; exact ⟨g', by simp [hg]⟩
  clear W h1 h2 h7 m8 m26 g h8 i8 h9 i9 v9 h10 m11 ga m38 h11 h12' m13 gk m44 h13' k9 ka kb kc kd σ
  rintro σ W ⟨h1, h2, ⟨h7, m8, g, m26⟩, h8, i8, ⟨h10, m11, ga, m38⟩, h11, ⟨h12', m13, gk, m44⟩, h13', ⟨h14', m15, gb, m50⟩, h15, kb, kc, kd⟩
  refine wwp_drwW W ?_ (fun σ => MvAt σ 7 [26, 0] T R 2 len lim all ∧ σ.s 8 = hd [29, 0] L1 ∧ IA σ.m [29, 0] L1 ∧
    MvAt σ 10 [38, 0] T R wa len none RA ∧ σ.s 11 = iv 0 ∧ MvAt σ 12 [44, 0] T R wk len none RM ∧ σ.s 13 = iv 0 ∧ MvAt σ 14 [50, 0] T R wb len none RB ∧ σ.s 15 = iv 0 ∧ MvAt σ 16 [60, 0] T R wc len none RB ∧ σ.s 17 = iv 0) ?_ ?_
  · intro l hl
    simp only [List.mem_cons, List.not_mem_nil, or_false] at hl
    rcases hl with rfl | rfl
    · exact ahead_at 6 10 16 _ rfl (by omega) rfl rfl
    · exact ahead_at 5 10 16 _ rfl (by omega) rfl rfl
  · refine runs_take 6 (fun σ => MvAt σ 7 [26, 0] T R 2 len lim all ∧ σ.s 8 = hd [29, 0] L1 ∧ IA σ.m [29, 0] L1 ∧
      MvAt σ 10 [38, 0] T R wa len none RA ∧ σ.s 11 = iv 0 ∧ MvAt σ 12 [44, 0] T R wk len none RM ∧ σ.s 13 = iv 0 ∧ MvAt σ 14 [50, 0] T R wb len none RB ∧ σ.s 15 = iv 0 ∧
      σ.s 53 = .agg [iv T, iv R, iv T, iv 1, iv 2, .sl [26, 0] 5 0 len lim] ∧ σ.s 58 = hd [59, 0] L12 ∧ IA σ.m [59, 0] L12 ∧ σ.c 59 = 0 ∧ σ.c 16 = 0) ?_ ?_
    · simp [-D.ren, MvAt, h1, h2, h7, m8, m26, h8, h10, m11, m38, h11, h12', m13, m44, h13', h14', m15, m50, h15, le, tk0, kb, kc, kd, hb12, h14c]
      exact ⟨fun hne => by obtain ⟨g', hg⟩ := i8 hne; exact ⟨g', by simp [hg]⟩, fun hne => ⟨[59, 0, 0], by simp [hdMem, hne, kb]⟩⟩
    clear W h1 h2 h7 m8 m26 g h8 i8 h10 m11 ga m38 h11 h12' m13 gk m44 h13' h14' m15 gb m50 h15 kb kc kd σ
    rintro σ ⟨⟨h7, m8, g, m26⟩, h8, i8, ⟨h10, m11, ga, m38⟩, h11, ⟨h12', m13, gk, m44⟩, h13', ⟨h14', m15, gb, m50⟩, h15, h53, h58, i58, kc, kd⟩
    have v58 := hd_view i58
    simp [MvAt, h7, m8, m26, h8, h10, m11, m38, h11, h12', m13, m44, h13', h14', m15, m50, h15, h53, h58, v58, le, tk0, kc, kd, h17c]
    exact fun hne => by obtain ⟨g', hg⟩ := i8 hne; exact ⟨g', by simp [hg]⟩
  clear W h1 h2 h7 m8 m26 g h8 i8 h10 m11 ga m38 h11 h12' m13 gk m44 h13' h14' m15 gb m50 h15 kb kc kd σ
  rintro σ W ⟨⟨h7, m8, g, m26⟩, h8, i8, ⟨h10, m11, ga, m38⟩, h11, ⟨h12', m13, gk, m44⟩, h13', ⟨h14', m15, gb, m50⟩, h15, ⟨h16, m17, gc, m60⟩, h17'⟩
  refine wwp_condW W (fun σ => MvAt σ 7 [26, 0] T R 2 len lim all ∧ σ.s 8 = hd [29, 0] L1 ∧ IA σ.m [29, 0] L1 ∧ MvAt σ 10 [38, 0] T R wa len none RA) ?_ ?_
  · simp [MvAt, h7, m8, m26, h8, h10, m11, m38, h11, h12', m13, m44, h13', h14', m15, m50, h15, h16, m17, m60, h17', le, tk0, tkA, tkB, tkM, hRA, hRB, hRMl, h27, h28a, h28b]
    exact fun hne => by obtain ⟨g', hg⟩ := i8 hne; exact ⟨g', by simp [hg]⟩
  clear W h7 m8 m26 g h8 i8 h10 m11 ga m38 h11 h12' m13 gk m44 h13' h14' m15 gb m50 h15 h16 m17 gc m60 h17' σ
  rintro σ W ⟨⟨h7, m8, g, m26⟩, h8, i8, ⟨h10, m11, ga, m38⟩⟩
  refine wwp_cutG (fun σ => MvAt σ 7 [26, 0] T R 2 len lim all ∧ σ.s 8 = hd [29, 0] L1 ∧ IA σ.m [29, 0] L1 ∧ MvAt σ 10 [38, 0] T R wa len none RA) ?_ ?_
  · refine wwp_cut (fun σ => MvAt σ 7 [26, 0] T R 2 len lim all ∧ σ.s 8 = hd [29, 0] L1 ∧ IA σ.m [29, 0] L1 ∧ MvAt σ 10 [38, 0] T R wa len none RA ∧ σ.s 101 = .sl [38, 0] 5 0 len none ∧ σ.s 102 = iv len ∧ σ.s 103 = iv 0) ?_ ?_
    · simp [MvAt, h7, m8, m26, h8, h10, m11, m38]
      exact fun hne => by obtain ⟨g', hg⟩ := i8 hne; exact ⟨g', by simp [hg]⟩
    clear W h7 m8 m26 g h8 i8 h10 m11 ga m38 σ
    rintro σ ⟨hM, h8, i8, hA, h101, h102, h103⟩
    simp only [wwp_block]
    refine wwp_loop (fun σ => ∃ k : Nat, k ≤ len ∧ MvAt σ 7 [26, 0] T R 2 len lim all ∧ σ.s 8 = hd [29, 0] L1 ∧ IA σ.m [29, 0] L1 ∧ MvAt σ 10 [38, 0] T R wa len none RA ∧ σ.s 101 = .sl [38, 0] 5 0 len none ∧ σ.s 102 = iv len ∧ σ.s 103 = iv k) (fun σ => cnt len (σ.s 103)) ?_ ?_
    · exact ⟨0, by omega, hM, h8, i8, hA, h101, h102, h103⟩
    · clear hM h8 i8 hA h101 h102 h103 σ
      rintro σ hw ⟨k, hk, ⟨h7, m8, g, m26⟩, h8, i8, ⟨h10, m11, ga, m38⟩, h101, h102, h103⟩
      by_cases hlt : k < len
      · have hlM : k < RM.length := by omega
        have ea : (rowsL RA)[k]? = some (turnRow L1 RM[k]).cells := by
          have h1 := hrow k hlM
          rw [rowsL, List.getElem?_map, h1]; rfl
        have em : (rowsL all)[k]? = some RM[k].cells := by
          rw [rowsL_at (show k < all.length by clear hb21 hb12; omega)]
          simp [hRM]
        obtain ⟨y, hy⟩ : ∃ y, y = RM[k] := ⟨_, rfl⟩
        rw [← hy] at ea em
        have hw1 : IntKind.i64.wrap ((k : Int) + 1) = (k : Int) + 1 := wrap_succ (show k ≤ 1000000000 by omega)
        obtain ⟨z, hz⟩ : ∃ z, z = turnRow L1 y := ⟨_, rfl⟩
        rw [← hz] at ea
        have hmu : cnt len (σ.s 103) = len - k := by simp [h103]
        simp only [hmu]
        clear hmu
        refine wwp_on (fun σ => WF σ ∧ MvAt σ 7 [26, 0] T R 2 len lim all ∧ σ.s 8 = hd [29, 0] L1 ∧ IA σ.m [29, 0] L1 ∧ MvAt σ 10 [38, 0] T R wa len none RA ∧ σ.s 101 = .sl [38, 0] 5 0 len none ∧ σ.s 102 = iv len ∧ σ.s 103 = iv k) ?_ ?_
        · simp [MvAt, h7, m8, m26, h8, h10, m11, m38, h101, h102, h103, hlt]
          exact ⟨hw, i8⟩
        clear hw h7 m8 m26 g h8 i8 h10 m11 m38 ga h101 h102 h103 σ
        rintro σ ⟨hw, ⟨h7, m8, g, m26⟩, h8, i8, ⟨h10, m11, ga, m38⟩, h101, h102, h103⟩
        refine wwp_body (fun σ => MvAt σ 7 [26, 0] T R 2 len lim all ∧ σ.s 8 = hd [29, 0] L1 ∧ IA σ.m [29, 0] L1 ∧ MvAt σ 10 [38, 0] T R wa len none RA ∧ σ.s 101 = .sl [38, 0] 5 0 len none ∧ σ.s 102 = iv len ∧ σ.s 103 = iv k) ?_ ?_
        · have n1 := hw.ne m26 19 (σ.c 19) []
          have n2 := hw.ne m38 19 (σ.c 19) []
          refine wwp_cutW hw (fun σ => MvAt σ 7 [26, 0] T R 2 len lim all ∧ σ.s 8 = hd [29, 0] L1 ∧ IA σ.m [29, 0] L1 ∧ MvAt σ 10 [38, 0] T R wa len none RA ∧ σ.s 101 = .sl [38, 0] 5 0 len none ∧ σ.s 102 = iv len ∧ σ.s 103 = iv k ∧ σ.s 18 = iv k ∧
            ∃ i, σ.s 19 = .ptr [20, i] 0 ∧ σ.m [20, i] = some (.box z.cells)) ?_ ?_
          · simp [MvAt, h7, m8, m26, h8, h10, m11, m38, h101, h102, h103, ea, Row.cells, hlt]
            exact fun hne => by obtain ⟨g', hg⟩ := i8 hne; exact ⟨g', by simp [hg]⟩
          clear hw h7 m8 m26 g h8 i8 h10 m11 m38 ga h101 h102 h103 n1 n2 σ
          rintro σ hw ⟨⟨h7, m8, g, m26⟩, h8, i8, ⟨h10, m11, ga, m38⟩, h101, h102, h103, h18, i, h19, m20⟩
          refine wwp_cutW hw (fun σ => MvAt σ 7 [26, 0] T R 2 len lim all ∧ σ.s 8 = hd [29, 0] L1 ∧ IA σ.m [29, 0] L1 ∧ MvAt σ 10 [38, 0] T R wa len none RA ∧ σ.s 101 = .sl [38, 0] 5 0 len none ∧ σ.s 102 = iv len ∧ σ.s 103 = iv k ∧
            (∃ i, σ.s 19 = .ptr [20, i] 0 ∧ σ.m [20, i] = some (.box z.cells)) ∧ ∃ i, σ.s 20 = .ptr [21, i] 0 ∧ σ.m [21, i] = some (.box y.cells)) ?_ ?_
          · simp [MvAt, h7, m8, m26, h8, h10, m11, m38, h101, h102, h103, h18, h19, m20, em, Row.cells, hlt]
            exact fun hne => by obtain ⟨g', hg⟩ := i8 hne; exact ⟨g', by simp [hg]⟩
          clear hw h7 m8 m26 g h8 i8 h10 m11 m38 ga h101 h102 h103 h18 h19 m20 i σ
          rintro σ hw ⟨⟨h7, m8, g, m26⟩, h8, i8, ⟨h10, m11, ga, m38⟩, h101, h102, h103, ⟨i, h19, m20⟩, j, h20, m21⟩
          have v8 := hd_view i8
          refine wwp_cutG (fun σ => MvAt σ 7 [26, 0] T R 2 len lim all ∧ σ.s 8 = hd [29, 0] L1 ∧ IA σ.m [29, 0] L1 ∧ MvAt σ 10 [38, 0] T R wa len none RA ∧ σ.s 101 = .sl [38, 0] 5 0 len none ∧ σ.s 102 = iv len ∧ σ.s 103 = iv k ∧
            (∃ i, σ.s 19 = .ptr [20, i] 0 ∧ σ.m [20, i] = some (.box z.cells)) ∧ ∃ i, σ.s 20 = .ptr [21, i] 0 ∧ σ.m [21, i] = some (.box z.cells)) ?_ ?_
          · have hzr : z.r = y.r := by rw [hz]; unfold turnRow; split <;> rfl
            cases hcn : L1.contains y.r with
            | false =>
              have et : z = y := by rw [hz]; unfold turnRow; rw [hcn]; rfl
              have hmem : y.r ∉ L1 := by simpa using hcn
              subst et
              simp [MvAt, h7, m8, m26, h8, h10, m11, m38, h101, h102, h103, h19, m20, h20, m21, Row.cells, v8, h29, hmem]
              exact fun hne => by obtain ⟨g', hg⟩ := i8 hne; exact ⟨g', by simp [hg]⟩
            | true =>
              have et : z = ⟨y.r, y.t, y.ew, y.ns, y.s⟩ := by rw [hz]; unfold turnRow; rw [hcn]; rfl
              have hmem : y.r ∈ L1 := by simpa using hcn
              subst et
              simp [MvAt, h7, m8, m26, h8, h10, m11, m38, h101, h102, h103, h19, m20, h20, m21, Row.cells, v8, h29, hmem]
              exact fun hne => by obtain ⟨g', hg⟩ := i8 hne; exact ⟨g', by simp [hg]⟩
          · clear hw h7 m8 m26 g h8 i8 h10 m11 m38 ga h101 h102 h103 h19 m20 i h20 m21 j v8 σ
            rintro σ ⟨⟨h7, m8, g, m26⟩, h8, i8, ⟨h10, m11, ga, m38⟩, h101, h102, h103, ⟨i, h19, m20⟩, j, h20, m21⟩
            simp [MvAt, h7, m8, m26, h8, h10, m11, m38, h101, h102, h103, h19, m20, h20, m21, Row.cells]
            exact fun hne => by obtain ⟨g', hg⟩ := i8 hne; exact ⟨g', by simp [hg]⟩
        · clear hw h7 m8 m26 g h8 i8 h10 m11 m38 ga h101 h102 h103 σ
          rintro σ ⟨⟨h7, m8, g, m26⟩, h8, i8, ⟨h10, m11, ga, m38⟩, h101, h102, h103⟩
          simp [MvAt, h7, m8, m26, h8, h10, m11, m38, h101, h102, h103, hw1]
          exact ⟨⟨k + 1, by omega, fun hne => by obtain ⟨g', hg⟩ := i8 hne; exact ⟨g', by simp [hg]⟩, rfl⟩, by omega⟩
      · have hkl : k = len := by omega
        subst hkl
        refine wwp_off ?_
        simp [MvAt, h7, m8, m26, h8, h10, m11, m38, h101, h102, h103]
        exact fun hne => by obtain ⟨g', hg⟩ := i8 hne; exact ⟨g', by simp [hg]⟩
  rintro σ ⟨⟨h7, m8, g, m26⟩, h8, i8, ⟨h10, m11, ga, m38⟩⟩
  by_cases h0 : L1.length = 0
  · rw [if_pos h0] at hwa
    subst hwa
    have hL : L1 = [] := List.eq_nil_of_length_eq_zero h0
    simp [h7, m8, m26, h8, h10, m11, m38, hL]
  · rw [if_neg h0] at hwa
    subst hwa
    have hpos : 0 < L1.length := by omega
    simp [h7, m8, m26, h8, h10, m11, m38, hpos]
end Go.Proofs.Ytpmgaaalfdjikaa
