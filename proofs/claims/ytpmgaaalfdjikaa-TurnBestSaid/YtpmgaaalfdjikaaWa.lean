/- TurnWrong: the walk. Lemmas; no condition. TurnWrong: the walk, from its beginning to its end. Lemmas; no condition. TurnWrong: for every sketch, integer and way the law returns true, and its arguments read as before. No condition. The reference of the turn's chapter: Fit is fitB, IsList is listOK, greatest is great. No condition. The reference's contest of two pairs. No condition. The reference's contest is that of the program: sums over plays. No condition. The reference's Turn. No condition. -/
import Derived.Test.YtpmgaaalfdjikaaSb
import Derived.Test.YtpmgaaalfdjikaaRd
import Derived.Test.YtpmgaaalfdjikaaRows
import Derived.Test.YtpmgaaalfdjikaaSc
import Derived.Test.YtpmgaaalfdjikaaSi
import Derived.Test.YtpmgaaalfdjikaaSg
namespace Go.Proofs.Ytpmgaaalfdjikaa
open Go.RowKit
set_option linter.unusedSimpArgs false
set_option linter.unusedVariables false

def W8 : WC × List VRes := ((.seq (.reg [(.stm (.eff (.box 3 (.t 0)) none)), (.set [(6, (.c (.v (.bool false))))] [6])]) (.seq (.seq (.reg [(.set [(31, (.ap .inot [(.ap (.call 12) [])]))] [30, 31])]) (.cond (.t 31) (.seq (.reg [(.set [(6, (.c (.v (.bool false))))] [6])]) .ret) .skip)) (.seq (.reg [(.set [(36, (.ap (.build [(.v (.int .u8 0)), (.v (.int .u8 0)), .nil] [(0, 1), (1, 1)]) [(.ap (.load 1 false) [(.ap (.fld 0) [(.t 3)])]), (.ap (.load 1 false) [(.ap (.fld 1) [(.t 3)])])]))] [32, 33, 34, 35, 36]), (.stm (.eff (.callq 37 13 [(.t 36)]) none)), (.stm (.eff (.box 7 (.c (.agg [(.v (.int .i64 0)), (.v (.int .i64 0)), (.v (.int .i64 0)), (.v (.int .i64 0)), (.v (.int .i64 0)), .nil]))) none)), (.stm (.eff (.store 6 (.t 7) (.t 37)) none))]) (.seq (.reg [(.set [(38, (.ap (.load 6 true) [(.t 7)]))] [38]), (.stm (.eff (.box 8 (.c (.agg [(.v (.int .i64 0)), (.v (.int .i64 0)), (.v (.int .i64 0)), (.v (.int .i64 0)), (.v (.int .i64 0)), .nil]))) none)), (.stm (.eff (.store 6 (.t 8) (.t 38)) none))]) (.seq (.reg [(.set [(40, (.ap (.load 1 false) [(.ap (.fld 5) [(.t 7)])]))] [39, 40]), (.stm (.eff (.callq 41 24 [(.t 40)]) none)), (.set [(42, (.ap (.fld 5) [(.t 8)]))] [42]), (.stm (.eff (.store 1 (.t 42) (.t 41)) none))]) (.seq (.reg [(.set [(9, (.ap (.ibin .sub) [(.ap .llen [(.ap (.load 1 false) [(.ap (.fld 5) [(.t 8)])])]), (.c (.v (.int .i64 1)))]))] [43, 44, 45, 46, 9])]) (.seq (.seq (.reg [(.set [(48, (.ap (.ibin .rem) [(.t 2), (.c (.v (.int .u8 11)))]))] [47, 48])]) (.block 0 (.seq (.reg [(.set [(55, (.ap (.ibin .eql) [(.t 48), (.c (.v (.int .u8 0)))]))] [56, 55])]) (.cond (.t 55) (.reg [(.set [(58, (.ap (.mx2 false) [(.t 1), (.c (.v (.int .i64 0)))])), (59, (.ap (.fld 0) [(.t 8)]))] [57, 58, 59]), (.stm (.eff (.store 1 (.t 59) (.t 58)) none))]) (.seq (.reg [(.set [(60, (.ap (.ibin .eql) [(.t 48), (.c (.v (.int .u8 1)))]))] [61, 60])]) (.cond (.t 60) (.reg [(.set [(63, (.ap (.mx2 true) [(.t 1), (.c (.v (.int .i64 25)))])), (64, (.ap (.fld 0) [(.t 8)]))] [62, 63, 64]), (.stm (.eff (.store 1 (.t 64) (.t 63)) none))]) (.seq (.reg [(.set [(65, (.ap (.ibin .eql) [(.t 48), (.c (.v (.int .u8 2)))]))] [66, 65])]) (.cond (.t 65) (.reg [(.set [(68, (.ap (.mx2 true) [(.t 1), (.c (.v (.int .i64 48)))])), (69, (.ap (.fld 1) [(.t 8)]))] [67, 68, 69]), (.stm (.eff (.store 1 (.t 69) (.t 68)) none))]) (.seq (.reg [(.set [(70, (.ap (.ibin .eql) [(.t 48), (.c (.v (.int .u8 3)))]))] [71, 70])]) (.cond (.t 70) (.reg [(.set [(78, (.ap (.mx2 true) [(.t 1), (.ap (.load 1 false) [(.ap (.fld 1) [(.t 8)])])])), (80, (.ap (.fld 0) [(.ap (.idx 53 5) [(.ap (.load 1 false) [(.ap (.fld 5) [(.t 8)])]), (.t 9)])]))] [72, 73, 74, 75, 76, 77, 78, 79, 80]), (.stm (.eff (.store 1 (.t 80) (.t 78)) none))]) (.seq (.reg [(.set [(81, (.ap (.ibin .eql) [(.t 48), (.c (.v (.int .u8 4)))]))] [82, 81])]) (.cond (.t 81) (.reg [(.set [(87, (.ap (.mx2 false) [(.t 1), (.c (.v (.int .i64 (-1))))])), (89, (.ap (.fld 1) [(.ap (.idx 53 5) [(.ap (.load 1 false) [(.ap (.fld 5) [(.t 8)])]), (.t 9)])]))] [83, 84, 85, 86, 87, 88, 89]), (.stm (.eff (.store 1 (.t 89) (.t 87)) none))]) (.seq (.reg [(.set [(90, (.ap (.ibin .eql) [(.t 48), (.c (.v (.int .u8 5)))]))] [91, 90])]) (.cond (.t 90) (.reg [(.set [(96, (.ap (.mx2 true) [(.t 1), (.c (.v (.int .i64 50)))])), (98, (.ap (.fld 2) [(.ap (.idx 53 5) [(.ap (.load 1 false) [(.ap (.fld 5) [(.t 8)])]), (.t 9)])]))] [92, 93, 94, 95, 96, 97, 98]), (.stm (.eff (.store 1 (.t 98) (.t 96)) none))]) (.seq (.reg [(.set [(99, (.ap (.ibin .eql) [(.t 48), (.c (.v (.int .u8 6)))]))] [100, 99])]) (.cond (.t 99) (.reg [(.set [(109, (.ap (.load 1 false) [(.ap (.fld 2) [(.ap (.idx 53 5) [(.ap (.load 1 false) [(.ap (.fld 5) [(.t 8)])]), (.t 9)])])])), (111, (.ap (.fld 3) [(.ap (.idx 53 5) [(.ap (.load 1 false) [(.ap (.fld 5) [(.t 8)])]), (.t 9)])]))] [101, 102, 103, 104, 105, 106, 107, 108, 109, 110, 111]), (.stm (.eff (.store 1 (.t 111) (.t 109)) none))]) (.seq (.reg [(.set [(112, (.ap (.ibin .eql) [(.t 48), (.c (.v (.int .u8 7)))]))] [113, 112])]) (.cond (.t 112) (.reg [(.set [(120, (.ap (.mx2 true) [(.t 1), (.ap (.load 1 false) [(.ap (.fld 2) [(.t 8)])])])), (122, (.ap (.fld 4) [(.ap (.idx 53 5) [(.ap (.load 1 false) [(.ap (.fld 5) [(.t 8)])]), (.t 9)])]))] [114, 115, 116, 117, 118, 119, 120, 121, 122]), (.stm (.eff (.store 1 (.t 122) (.t 120)) none))]) (.seq (.reg [(.set [(123, (.ap (.ibin .eql) [(.t 48), (.c (.v (.int .u8 8)))]))] [124, 123])]) (.cond (.t 123) (.reg [(.set [(134, (.ap (.load 1 false) [(.ap (.fld 3) [(.ap (.idx 53 5) [(.ap (.load 1 false) [(.ap (.fld 5) [(.t 8)])]), (.ap (.ibin .sub) [(.t 9), (.c (.v (.int .i64 1)))])])])])), (136, (.ap (.fld 2) [(.ap (.idx 53 5) [(.ap (.load 1 false) [(.ap (.fld 5) [(.t 8)])]), (.t 9)])]))] [125, 126, 127, 128, 129, 130, 131, 132, 133, 134, 135, 136]), (.stm (.eff (.store 1 (.t 136) (.t 134)) none))]) (.seq (.reg [(.set [(137, (.ap (.ibin .eql) [(.t 48), (.c (.v (.int .u8 9)))]))] [138, 137])]) (.cond (.t 137) (.reg [(.set [(148, (.ap (.load 1 false) [(.ap (.fld 1) [(.ap (.idx 53 5) [(.ap (.load 1 false) [(.ap (.fld 5) [(.t 8)])]), (.ap (.ibin .sub) [(.t 9), (.c (.v (.int .i64 1)))])])])])), (150, (.ap (.fld 1) [(.ap (.idx 53 5) [(.ap (.load 1 false) [(.ap (.fld 5) [(.t 8)])]), (.t 9)])]))] [139, 140, 141, 142, 143, 144, 145, 146, 147, 148, 149, 150]), (.stm (.eff (.store 1 (.t 150) (.t 148)) none))]) (.reg [(.set [(50, (.ap (.load 1 false) [(.ap (.fld 5) [(.t 8)])])), (51, (.ap (.build [(.v (.int .i64 0)), (.v (.int .i64 0)), (.v (.int .i64 0)), (.v (.int .i64 0)), (.v (.int .i64 0))] []) []))] [49, 50, 51]), (.stm (.eff (.lit 52 53 5 1 [(.v (.int .i64 0)), (.v (.int .i64 0)), (.v (.int .i64 0)), (.v (.int .i64 0)), (.v (.int .i64 0))] [(0, 5)] [(.t 51)]) none)), (.stm (.eff (.app 53 53 5 (.t 50) (.t 52)) none)), (.set [(54, (.ap (.fld 5) [(.t 8)]))] [54]), (.stm (.eff (.store 1 (.t 54) (.t 53)) none))]))))))))))))))))))))))) (.seq (.reg [(.set [(152, (.ap (.load 6 true) [(.t 8)]))] [152]), (.stm (.eff (.callq 153 17 [(.t 152), (.c .nil)]) none)), (.set [(154, (.ap (.ext 0) [(.t 153)])), (155, (.ap (.ext 1) [(.t 153)]))] [151, 154, 155]), (.stm (.eff (.box 10 (.c (.agg [(.v (.int .i64 0)), (.v (.int .i64 0)), (.v (.int .i64 0)), (.v (.int .i64 0)), (.v (.int .i64 0)), .nil]))) none)), (.stm (.eff (.store 6 (.t 10) (.t 154)) none)), (.set [(11, (.t 155))] [11])]) (.seq (.reg [(.set [(157, (.ap (.load 6 true) [(.t 8)]))] [157]), (.stm (.eff (.callq 158 20 [(.t 157), (.c (.v (.int .i64 0)))]) none)), (.set [(12, (.ap (.ext 0) [(.t 158)])), (13, (.ap (.ext 1) [(.t 158)]))] [156, 159, 160, 12, 13])]) (.seq (.reg [(.set [(14, (.ap (.ext 0) [(.ap (.call 25) [(.ap (.load 6 true) [(.t 8)]), (.c (.v (.int .i64 1))), (.c (.v (.int .i64 2)))])])), (15, (.ap (.ext 1) [(.ap (.call 25) [(.ap (.load 6 true) [(.t 8)]), (.c (.v (.int .i64 1))), (.c (.v (.int .i64 2)))])]))] [162, 163, 161, 164, 165, 14, 15])]) (.seq (.reg [(.set [(167, (.ap (.load 6 true) [(.t 8)]))] [167]), (.stm (.eff (.callq 168 26 [(.t 167)]) none)), (.set [(16, (.ap (.ext 0) [(.t 168)])), (17, (.ap (.ext 1) [(.t 168)]))] [166, 169, 170, 16, 17])]) (.seq (.reg [(.set [(18, (.ap (.ext 0) [(.ap (.call 18) [(.ap (.load 6 true) [(.t 8)])])])), (19, (.ap (.ext 1) [(.ap (.call 18) [(.ap (.load 6 true) [(.t 8)])])]))] [172, 173, 171, 174, 175, 18, 19])]) (.seq (.reg [(.set [(20, (.ap (.ext 0) [(.ap (.call 15) [(.ap (.load 6 true) [(.t 8)]), (.c .nil)])])), (21, (.ap (.ext 1) [(.ap (.call 15) [(.ap (.load 6 true) [(.t 8)]), (.c .nil)])]))] [177, 178, 176, 179, 180, 20, 21])]) (.seq (.seq (.reg [(.set [(181, (.t 11)), (182, (.t 13)), (183, (.t 15)), (184, (.t 17)), (185, (.t 19)), (186, (.t 21))] [181, 182, 183, 184, 185, 186]), (.stm (.eff (.lit 187 36 1 6 [(.v (.int .i64 0)), (.v (.int .i64 0)), (.v (.int .i64 0)), (.v (.int .i64 0)), (.v (.int .i64 0)), (.v (.int .i64 0))] [(0, 1), (1, 1), (2, 1), (3, 1), (4, 1), (5, 1)] [(.t 181), (.t 182), (.t 183), (.t 184), (.t 185), (.t 186)]) none)), (.set [(188, (.ap .llen [(.t 187)])), (189, (.c (.v (.int .i64 0))))] [188, 189])]) (.block 1 (.loop (.seq (.reg [(.set [(190, (.ap (.ibin .lss) [(.t 189), (.t 188)]))] [190])]) (.seq (.cond (.t 190) .skip (.exit 1)) (.seq (.block 2 (.seq (.reg [(.set [(23, (.ap (.load 1 false) [(.ap (.idx 36 1) [(.t 187), (.t 189)])]))] [191, 192, 23])]) (.seq (.reg [(.set [(194, (.ap (.ibin .neq) [(.t 23), (.c (.v (.int .i64 290)))]))] [193, 194])]) (.cond (.t 194) (.seq (.reg [(.set [(6, (.c (.v (.bool false))))] [6])]) .ret) .skip)))) (.reg [(.set [(189, (.ap (.ibin .add) [(.t 189), (.c (.v (.int .i64 1)))]))] [195, 189])]))))))) (.seq (.seq (.reg [(.set [(197, (.ap (.mx2 false) [(.t 1), (.c (.v (.int .i64 (-1))))]))] [196, 197]), (.stm (.eff (.lit 198 3 1 1 [(.v (.int .i64 0))] [(0, 1)] [(.t 197)]) none)), (.set [(202, (.ap (.mx2 true) [(.t 1), (.ap (.load 1 false) [(.ap (.fld 1) [(.t 7)])])]))] [199, 200, 201, 202]), (.stm (.eff (.lit 203 3 1 1 [(.v (.int .i64 0))] [(0, 1)] [(.t 202)]) none)), (.stm (.eff (.lit 204 3 1 2 [(.v (.int .i64 0)), (.v (.int .i64 0))] [(0, 1), (1, 1)] [(.c (.v (.int .i64 0))), (.c (.v (.int .i64 0)))]) none)), (.set [(207, (.ap (.ibin .sub) [(.ap (.load 1 false) [(.ap (.fld 1) [(.t 7)])]), (.c (.v (.int .i64 1)))]))] [205, 206, 207]), (.stm (.eff (.lit 208 3 1 2 [(.v (.int .i64 0)), (.v (.int .i64 0))] [(0, 1), (1, 1)] [(.t 207), (.c (.v (.int .i64 (-1))))]) none)), (.stm (.eff (.lit 209 34 1 4 [.nil, .nil, .nil, .nil] [(0, 1), (1, 1), (2, 1), (3, 1)] [(.t 198), (.t 203), (.t 204), (.t 208)]) none)), (.set [(210, (.ap .llen [(.t 209)])), (211, (.c (.v (.int .i64 0))))] [210, 211])]) (.block 3 (.loop (.seq (.reg [(.set [(212, (.ap (.ibin .lss) [(.t 211), (.t 210)]))] [212])]) (.seq (.cond (.t 212) .skip (.exit 3)) (.seq (.block 4 (.seq (.reg [(.set [(25, (.ap (.load 1 false) [(.ap (.idx 34 1) [(.t 209), (.t 211)])]))] [213, 214, 25])]) (.seq (.reg [(.set [(216, (.ap (.load 6 true) [(.t 7)])), (217, (.t 25))] [216, 217]), (.stm (.eff (.callq 218 17 [(.t 216), (.t 217)]) none)), (.set [(219, (.ap (.ext 0) [(.t 218)])), (220, (.ap (.ext 1) [(.t 218)]))] [215, 219, 220]), (.stm (.eff (.box 26 (.c (.agg [(.v (.int .i64 0)), (.v (.int .i64 0)), (.v (.int .i64 0)), (.v (.int .i64 0)), (.v (.int .i64 0)), .nil]))) none)), (.stm (.eff (.store 6 (.t 26) (.t 219)) none)), (.set [(27, (.t 220))] [27])]) (.seq (.reg [(.set [(222, (.ap (.load 6 true) [(.t 7)])), (223, (.t 25))] [222, 223]), (.stm (.eff (.lit 224 34 1 2 [.nil, .nil] [(0, 1), (1, 1)] [(.c .nil), (.t 223)]) none)), (.set [(28, (.ap (.ext 0) [(.ap (.call 15) [(.t 222), (.t 224)])])), (29, (.ap (.ext 1) [(.ap (.call 15) [(.t 222), (.t 224)])]))] [225, 221, 226, 227, 28, 29])]) (.seq (.reg [(.set [(233, (.ite (.ap (.ibin .neq) [(.t 27), (.c (.v (.int .i64 291)))]) (.c (.v (.bool true))) (.ap (.ibin .neq) [(.t 29), (.c (.v (.int .i64 291)))])))] [228, 229, 230, 231, 232, 233])]) (.cond (.t 233) (.seq (.reg [(.set [(6, (.c (.v (.bool false))))] [6])]) .ret) .skip)))))) (.reg [(.set [(211, (.ap (.ibin .add) [(.t 211), (.c (.v (.int .i64 1)))]))] [234, 211])]))))))) (.seq (.reg [(.set [(240, (.ap (.ext 0) [(.ap (.call 25) [(.ap (.load 6 true) [(.t 7)]), (.ap (.mx2 false) [(.t 1), (.c (.v (.int .i64 0)))]), (.c (.v (.int .i64 1)))])])), (11, (.ap (.ext 1) [(.ap (.call 25) [(.ap (.load 6 true) [(.t 7)]), (.ap (.mx2 false) [(.t 1), (.c (.v (.int .i64 0)))]), (.c (.v (.int .i64 1)))])]))] [236, 237, 238, 239, 235, 240, 241, 11])]) (.seq (.reg [(.set [(251, (.ap (.ext 0) [(.ap (.call 25) [(.ap (.load 6 true) [(.t 7)]), (.c (.v (.int .i64 1))), (.ap (.mx2 true) [(.t 1), (.ap (.ibin .add) [(.ap (.ibin .mul) [(.c (.v (.int .i64 2))), (.ap (.load 1 false) [(.ap (.fld 0) [(.t 7)])])]), (.c (.v (.int .i64 1)))])])])])), (13, (.ap (.ext 1) [(.ap (.call 25) [(.ap (.load 6 true) [(.t 7)]), (.c (.v (.int .i64 1))), (.ap (.mx2 true) [(.t 1), (.ap (.ibin .add) [(.ap (.ibin .mul) [(.c (.v (.int .i64 2))), (.ap (.load 1 false) [(.ap (.fld 0) [(.t 7)])])]), (.c (.v (.int .i64 1)))])])])]))] [243, 244, 245, 246, 247, 248, 249, 250, 242, 251, 252, 13])]) (.seq (.reg [(.set [(256, (.ap (.ext 0) [(.ap (.call 25) [(.ap (.load 6 true) [(.t 7)]), (.c (.v (.int .i64 2))), (.c (.v (.int .i64 2)))])])), (15, (.ap (.ext 1) [(.ap (.call 25) [(.ap (.load 6 true) [(.t 7)]), (.c (.v (.int .i64 2))), (.c (.v (.int .i64 2)))])]))] [254, 255, 253, 256, 257, 15])]) (.seq (.reg [(.set [(259, (.ap (.load 6 true) [(.t 7)]))] [259]), (.stm (.eff (.mks 260 34 1 [.nil] (.c (.v (.int .i64 65))) (.c (.v (.int .i64 65)))) none)), (.set [(262, (.ap (.ext 0) [(.ap (.call 15) [(.t 259), (.t 260)])])), (17, (.ap (.ext 1) [(.ap (.call 15) [(.t 259), (.t 260)])]))] [261, 258, 262, 263, 17])]) (.seq (.reg [(.set [(6, (.ite (.ite (.ite (.ite (.ite (.ap .inot [(.ap (.call 27) [(.ap (.load 6 true) [(.t 8)])])]) (.ap (.call 27) [(.ap (.load 6 true) [(.t 7)])]) (.c (.v (.bool false)))) (.ap (.ibin .eql) [(.t 11), (.c (.v (.int .i64 2)))]) (.c (.v (.bool false)))) (.ap (.ibin .eql) [(.t 13), (.c (.v (.int .i64 2)))]) (.c (.v (.bool false)))) (.ap (.ibin .eql) [(.t 15), (.c (.v (.int .i64 2)))]) (.c (.v (.bool false)))) (.ap (.ibin .eql) [(.t 17), (.c (.v (.int .i64 5)))]) (.c (.v (.bool false)))))] [264, 265, 266, 267, 268, 269, 270, 271, 272, 273, 274, 275, 276, 277, 278, 279, 280, 281, 282, 283, 284, 285, 286, 6])]) .ret)))))))))))))))))))), [(.t 6)])
theorem is8 : IsFn Try.prog frOf 8 Try.f8 W8 := ⟨by kernel_rfl, by kernel_rfl, by kernel_rfl⟩
theorem nt8 : Try.f8.ntmps = 287 := by kernel_rfl


/-- The spoiled movement. -/
def BadAt (T : Nat) (σ : St) : Prop := ∃ (bt br : Int) (tb : Tok) (bl : List Row), σ.s 8 = .ptr [9, 0] 0 ∧ σ.m [9, 0] = some (.box [iv bt, iv br, iv T, iv 1, iv 2, .sl tb 5 0 bl.length none]) ∧ (∃ g, σ.m tb = some (.row g 53 (rowsL bl))) ∧
  (tb = [42, 0] ∨ tb = [54, 0]) ∧ bl.length ≤ 1000000 ∧ fitB ⟨bt, br, T, 1, 2, bl⟩ = false
def GoodAt (T R : Nat) (rows : List Row) (lim : Option Nat) (σ : St) : Prop := σ.s 7 = .ptr [8, 0] 0 ∧ σ.m [8, 0] = some (.box [iv T, iv R, iv T, iv 1, iv 2, .sl [38, 0] 5 0 rows.length lim]) ∧ ∃ g, σ.m [38, 0] = some (.row g 53 (rowsL rows)) ∧ g = [38, 0, 0]
theorem fit_bad {m : Mv} (h : ¬ fitP m) : fitB m = false := by
  cases hf : fitB m with
  | false => rfl
  | true => exact absurd ((fit_iff m).1 hf) h
theorem bad_row {t r s : Int} {l : List Row} {k : Nat} {x : Row} (hk : k < l.length) (hx : ¬ rowP ⟨t, r, s, 1, 2, l.set k x⟩ x) : fitB ⟨t, r, s, 1, 2, l.set k x⟩ = false := fit_bad fun h => hx (h.2.1 x (List.mem_set hk x))
theorem bad_sep {t r s : Int} {l : List Row} {j : Nat} {x : Row} (hk : j + 1 < l.length) (hx : ¬ sep l[j] x) : fitB ⟨t, r, s, 1, 2, l.set (j + 1) x⟩ = false := fit_bad fun h => by
  have h3 := List.pairwise_iff_getElem.1 h.2.2 j (j + 1) (by simp; omega) (by simp; omega) (by omega)
  simp only [List.getElem_set_self] at h3
  rw [List.getElem_set_ne (by omega)] at h3
  exact hx h3

def SW8 : WC := match W8.1 with
  | .seq _ (.seq _ (.seq _ (.seq _ (.seq _ (.seq _ (.seq (.seq _ (.block _ c)) _)))))) => c
  | _ => .skip
theorem c8s (Γ : Env) (w : Nat) (hw : w < 11) (n : Int) (T R j K : Nat) (hK : K = j + 1) (rows : List Row) (x1 x2 : Row) (ht : 2 ≤ T ∧ T ≤ 6) (hr : 1 ≤ R ∧ R ≤ 6) (hj : rows.length = j + 2) (hjl : rows.length = R * T) (hj36 : rows.length ≤ 36) (e1 : rows[j + 1]? = some x1) (e2 : rows[j]? = some x2)
    (f1 : x2.r = x1.r) (f2 : 0 < x2.ew) (f3 : 0 < x1.ns) (lim : Option Nat) (I : St → Prop) (Q : VE → St → Prop)
    (σ : St) (hI : ∀ σ', σ'.s 1 = iv n → GoodAt T R rows lim σ' → BadAt T σ' → (∀ y, y ≠ 52 → y ≠ 53 → σ'.c y = σ.c y) → I σ') (hG : GoodAt T R rows lim σ) (h8 : σ.s 8 = .ptr [9, 0] 0) (m9 : σ.m [9, 0] = some (.box [iv T, iv R, iv T, iv 1, iv 2, .sl [42, 0] 5 0 rows.length none])) (m42 : σ.m [42, 0] = some (.row [42, 0, 0] 53 (rowsL rows)))
    (h9 : σ.s 9 = iv K) (h1 : σ.s 1 = iv n) (h48 : σ.s 48 = .v (.int .u8 w)) (c52 : σ.c 52 = 0) (c53 : σ.c 53 = 0) : wwp Γ SW8 (VE.blk 0 (VE.thn I Q)) σ := by
  obtain ⟨h7, m8, g, m38, rfl⟩ := hG
  have hl1 : j + 1 < rows.length := by omega
  have hK1 : K < rows.length := by omega
  have hl2 : j < rows.length := by omega
  have g1 : rows[j + 1] = x1 := by rw [List.getElem?_eq_getElem hl1] at e1; exact Option.some.inj e1
  have g2 : rows[j] = x2 := by rw [List.getElem?_eq_getElem hl2] at e2; exact Option.some.inj e2
  have hcell1 : (rowsL rows)[K]? = some x1.cells := by subst hK; rw [rowsL_at hl1, g1]
  have hcell2 : (rowsL rows)[j]? = some x2.cells := by rw [rowsL_at hl2, g2]
  have hjz : (K : Int) < (rows.length : Int) := by omega
  have hjz2 : (j : Int) < (rows.length : Int) := by omega
  have wj : IntKind.i64.wrap ((K : Int) - 1) = j := by rw [wrap_in (by omega) (by omega)]; omega
  have mm : rows.length + 1 ≤ maxMade := maxMade_le (by omega)
  have hRl : (R : Int) * T = rows.length := by rw [hjl]; simp
  simp only [SW8, W8]
  have hw' : w = 0 ∨ w = 1 ∨ w = 2 ∨ w = 3 ∨ w = 4 ∨ w = 5 ∨ w = 6 ∨ w = 7 ∨ w = 8 ∨ w = 9 ∨ w = 10 := by omega
  rcases hw' with rfl | rfl | rfl | rfl | rfl | rfl | rfl | rfl | rfl | rfl | rfl
  · simp [h1, h8, m9, m42, h9, h48, h7, m8, m38, hcell1, hcell2, hK1, hl2, hjz, hjz2, wj, c52, c53, mm, Row.cells, hRl]
    refine hI _ (by simp [h1]) (by simp [GoodAt, h7, m8, m38]) ⟨if 0 < n then 0 else n, R, [42, 0], rows, by simp [h8], by simp [m9], ⟨[42, 0, 0], by simp [m42]⟩, .inl rfl, by omega, fit_bad fun h => ?_⟩ (by simp +contextual)
    have := h.1
    unfold boundOK at this
    simp only at this
    split at this <;> omega
  · simp [h1, h8, m9, m42, h9, h48, h7, m8, m38, hcell1, hcell2, hK1, hl2, hjz, hjz2, wj, c52, c53, mm, Row.cells, hRl]
    refine hI _ (by simp [h1]) (by simp [GoodAt, h7, m8, m38]) ⟨if n < 25 then 25 else n, R, [42, 0], rows, by simp [h8], by simp [m9], ⟨[42, 0, 0], by simp [m42]⟩, .inl rfl, by omega, fit_bad fun h => ?_⟩ (by simp +contextual)
    have := h.1
    unfold boundOK at this
    simp only at this
    split at this <;> omega
  · simp [h1, h8, m9, m42, h9, h48, h7, m8, m38, hcell1, hcell2, hK1, hl2, hjz, hjz2, wj, c52, c53, mm, Row.cells, hRl]
    refine hI _ (by simp [h1]) (by simp [GoodAt, h7, m8, m38]) ⟨T, if n < 48 then 48 else n, [42, 0], rows, by simp [h8], by simp [m9], ⟨[42, 0, 0], by simp [m42]⟩, .inl rfl, by omega, fit_bad fun h => ?_⟩ (by simp +contextual)
    have := h.1
    unfold boundOK at this
    simp only at this
    split at this <;> omega
  · simp [h1, h8, m9, m42, h9, h48, h7, m8, m38, hcell1, hcell2, hK1, hl2, hjz, hjz2, wj, c52, c53, mm, Row.cells, hRl]
    refine hI _ (by simp [h1]) (by simp [GoodAt, h7, m8, m38]) ⟨T, R, [42, 0], rows.set (j + 1) { x1 with r := if n < (R : Int) then (R : Int) else n }, by simp [h8], by simp [m9], ⟨[42, 0, 0], by simp [m42, rowsL_set, Row.cells, hK, g1, g2]; try rfl⟩, .inl rfl, by simp; omega, bad_row hl1 fun h => ?_⟩ (by simp +contextual)
    unfold rowP inOK at h
    simp only at h
    split at h <;> omega
  · simp [h1, h8, m9, m42, h9, h48, h7, m8, m38, hcell1, hcell2, hK1, hl2, hjz, hjz2, wj, c52, c53, mm, Row.cells, hRl]
    refine hI _ (by simp [h1]) (by simp [GoodAt, h7, m8, m38]) ⟨T, R, [42, 0], rows.set (j + 1) { x1 with t := if -1 < n then -1 else n }, by simp [h8], by simp [m9], ⟨[42, 0, 0], by simp [m42, rowsL_set, Row.cells, hK, g1, g2]; try rfl⟩, .inl rfl, by simp; omega, bad_row hl1 fun h => ?_⟩ (by simp +contextual)
    unfold rowP inOK at h
    simp only at h
    split at h <;> omega
  · simp [h1, h8, m9, m42, h9, h48, h7, m8, m38, hcell1, hcell2, hK1, hl2, hjz, hjz2, wj, c52, c53, mm, Row.cells, hRl]
    refine hI _ (by simp [h1]) (by simp [GoodAt, h7, m8, m38]) ⟨T, R, [42, 0], rows.set (j + 1) { x1 with ns := if n < 50 then 50 else n }, by simp [h8], by simp [m9], ⟨[42, 0, 0], by simp [m42, rowsL_set, Row.cells, hK, g1, g2]; try rfl⟩, .inl rfl, by simp; omega, bad_row hl1 fun h => ?_⟩ (by simp +contextual)
    unfold rowP inOK at h
    simp only at h
    split at h <;> omega
  · simp [h1, h8, m9, m42, h9, h48, h7, m8, m38, hcell1, hcell2, hK1, hl2, hjz, hjz2, wj, c52, c53, mm, Row.cells, hRl]
    refine hI _ (by simp [h1]) (by simp [GoodAt, h7, m8, m38]) ⟨T, R, [42, 0], rows.set (j + 1) { x1 with ew := x1.ns }, by simp [h8], by simp [m9], ⟨[42, 0, 0], by simp [m42, rowsL_set, Row.cells, hK, g1, g2]; try rfl⟩, .inl rfl, by simp; omega, bad_row hl1 fun h => ?_⟩ (by simp +contextual)
    exact h.2.2.2.2.2 ⟨f3, rfl⟩
  · simp [h1, h8, m9, m42, h9, h48, h7, m8, m38, hcell1, hcell2, hK1, hl2, hjz, hjz2, wj, c52, c53, mm, Row.cells, hRl]
    refine hI _ (by simp [h1]) (by simp [GoodAt, h7, m8, m38]) ⟨T, R, [42, 0], rows.set (j + 1) { x1 with s := if n < (T : Int) then (T : Int) else n }, by simp [h8], by simp [m9], ⟨[42, 0, 0], by simp [m42, rowsL_set, Row.cells, hK, g1, g2]; try rfl⟩, .inl rfl, by simp; omega, bad_row hl1 fun h => ?_⟩ (by simp +contextual)
    unfold rowP inOK at h
    simp only at h
    split at h <;> omega
  · simp [h1, h8, m9, m42, h9, h48, h7, m8, m38, hcell1, hcell2, hK1, hl2, hjz, hjz2, wj, c52, c53, mm, Row.cells, hRl]
    refine hI _ (by simp [h1]) (by simp [GoodAt, h7, m8, m38]) ⟨T, R, [42, 0], rows.set (j + 1) { x1 with ns := x2.ew }, by simp [h8], by simp [m9], ⟨[42, 0, 0], by simp [m42, rowsL_set, Row.cells, hK, g1, g2]; try rfl⟩, .inl rfl, by simp; omega, bad_sep hl1 fun h => ?_⟩ (by simp +contextual)
    unfold sep at h
    simp only [g2] at h
    have := h f1
    omega
  · simp [h1, h8, m9, m42, h9, h48, h7, m8, m38, hcell1, hcell2, hK1, hl2, hjz, hjz2, wj, c52, c53, mm, Row.cells, hRl]
    refine hI _ (by simp [h1]) (by simp [GoodAt, h7, m8, m38]) ⟨T, R, [42, 0], rows.set (j + 1) { x1 with t := x2.t }, by simp [h8], by simp [m9], ⟨[42, 0, 0], by simp [m42, rowsL_set, Row.cells, hK, g1, g2]; try rfl⟩, .inl rfl, by simp; omega, bad_sep hl1 fun h => ?_⟩ (by simp +contextual)
    unfold sep at h
    simp only [g2] at h
    have := h f1
    omega
  · simp [h1, h8, m9, m42, h9, h48, h7, m8, m38, hcell1, hcell2, hK1, hl2, hjz, hjz2, wj, c52, c53, mm, Row.cells, hRl]
    refine hI _ (by simp [h1]) (by simp [GoodAt, h7, m8, m38]) ⟨T, R, [54, 0], rows ++ [Row.zero], by simp [h8], by simp [m9], ⟨[42, 0, 0], by simp [rowsL_append, Row.zero, Row.cells, rowsL, c53]⟩, .inr rfl, by simp; omega, fit_bad fun h => ?_⟩ (by simp +contextual)
    have := h.1.2.2.2.2
    simp only [List.length_append, List.length_singleton, hjl] at this
    rw [Nat.mul_comm] at this
    push_cast at this
    omega
end Go.Proofs.Ytpmgaaalfdjikaa
namespace Go.Proofs.Ytpmgaaalfdjikaa
open Go.RowKit
set_option linter.unusedSimpArgs false
set_option linter.unusedVariables false

def BadT (T : Nat) (bt br : Int) (tb : Tok) (bl : List Row) (σ : St) : Prop := σ.s 8 = .ptr [9, 0] 0 ∧ σ.m [9, 0] = some (.box [iv bt, iv br, iv T, iv 1, iv 2, .sl tb 5 0 bl.length none]) ∧ ∃ g, σ.m tb = some (.row g 53 (rowsL bl))
theorem c8w (p12 p15 p18 p25 p27 : FP) (q13 q17 q20 q24 q26 : FQ) (x : Sk) (T R j : Nat) (RM : List Row) (n : Int) (way : Nat) (x1 x2 : Row) (ht : 2 ≤ T ∧ T ≤ 6) (hr : 1 ≤ R ∧ R ≤ 6) (hj : RM.length = j + 2) (hjl : RM.length = R * T) (hj36 : RM.length ≤ 36) (e1 : RM[j + 1]? = some x1) (e2 : RM[j]? = some x2)
    (f1 : x2.r = x1.r) (f2 : 0 < x2.ew) (f3 : 0 < x1.ns)
    (h12 : p12 [] = some (bv true))
    (h13 : q13 [.agg [.v (.int .u8 x.t), .v (.int .u8 x.r), .list []]] = some (.agg [iv T, iv R, iv T, iv 1, iv 2, .sl [] 5 0 RM.length none], rowMem 53 (rowsL RM)))
    (h24 : q24 [.list (rowsL RM)] = some (.sl [] 5 0 RM.length none, rowMem 53 (rowsL RM)))
    (b17 : ∀ (bt br : Int) (bl : List Row), bl.length ≤ 1000000 → fitB ⟨bt, br, T, 1, 2, bl⟩ = false → q17 [.agg [iv bt, iv br, iv T, iv 1, iv 2, .list (rowsL bl)], .list []] = some (.tup [.agg noMv, iv 290], noMem))
    (b20 : ∀ (bt br : Int) (bl : List Row), bl.length ≤ 1000000 → fitB ⟨bt, br, T, 1, 2, bl⟩ = false → q20 [.agg [iv bt, iv br, iv T, iv 1, iv 2, .list (rowsL bl)], iv 0] = some (.tup [.nil, iv 290], noMem))
    (b25 : ∀ (bt br : Int) (bl : List Row), bl.length ≤ 1000000 → fitB ⟨bt, br, T, 1, 2, bl⟩ = false → p25 [.agg [iv bt, iv br, iv T, iv 1, iv 2, .list (rowsL bl)], iv 1, iv 2] = some (.tup [iv 0, iv 290]))
    (b26 : ∀ (bt br : Int) (bl : List Row), bl.length ≤ 1000000 → fitB ⟨bt, br, T, 1, 2, bl⟩ = false → q26 [.agg [iv bt, iv br, iv T, iv 1, iv 2, .list (rowsL bl)]] = some (.tup [.nil, iv 290], noMem))
    (b18 : ∀ (bt br : Int) (bl : List Row), bl.length ≤ 1000000 → fitB ⟨bt, br, T, 1, 2, bl⟩ = false → p18 [.agg [iv bt, iv br, iv T, iv 1, iv 2, .list (rowsL bl)]] = some (.tup [iv 0, iv 290]))
    (b15 : ∀ (bt br : Int) (bl : List Row), bl.length ≤ 1000000 → fitB ⟨bt, br, T, 1, 2, bl⟩ = false → p15 [.agg [iv bt, iv br, iv T, iv 1, iv 2, .list (rowsL bl)], .list []] = some (.tup [iv 0, iv 290]))
    (b27 : ∀ (bt br : Int) (bl : List Row), bl.length ≤ 1000000 → fitB ⟨bt, br, T, 1, 2, bl⟩ = false → p27 [.agg [iv bt, iv br, iv T, iv 1, iv 2, .list (rowsL bl)]] = some (bv false))
    (g17a : ∀ a : Int, a < 0 ∨ R ≤ a → q17 [.agg [iv T, iv R, iv T, iv 1, iv 2, .list (rowsL RM)], .list [[iv a]]] = some (.tup [.agg noMv, iv 291], noMem))
    (g17b : q17 [.agg [iv T, iv R, iv T, iv 1, iv 2, .list (rowsL RM)], .list [[iv 0], [iv 0]]] = some (.tup [.agg noMv, iv 291], noMem))
    (g17c : q17 [.agg [iv T, iv R, iv T, iv 1, iv 2, .list (rowsL RM)], .list [[iv ((R : Int) - 1)], [iv (-1)]]] = some (.tup [.agg noMv, iv 291], noMem))
    (g15a : ∀ a : Int, a < 0 ∨ R ≤ a → p15 [.agg [iv T, iv R, iv T, iv 1, iv 2, .list (rowsL RM)], .list [[.list []], [.list [[iv a]]]]] = some (.tup [iv 0, iv 291]))
    (g15b : p15 [.agg [iv T, iv R, iv T, iv 1, iv 2, .list (rowsL RM)], .list [[.list []], [.list [[iv 0], [iv 0]]]]] = some (.tup [iv 0, iv 291]))
    (g15c : p15 [.agg [iv T, iv R, iv T, iv 1, iv 2, .list (rowsL RM)], .list [[.list []], [.list [[iv ((R : Int) - 1)], [iv (-1)]]]]] = some (.tup [iv 0, iv 291]))
    (g25 : ∀ p q : Int, p < 1 ∨ 2 * (T : Int) < q ∨ p = q → p25 [.agg [iv T, iv R, iv T, iv 1, iv 2, .list (rowsL RM)], iv p, iv q] = some (.tup [iv 0, iv 2]))
    (g15d : p15 [.agg [iv T, iv R, iv T, iv 1, iv 2, .list (rowsL RM)], .list (List.replicate 65 [.list []])] = some (.tup [iv 0, iv 5]))
    (g27 : p27 [.agg [iv T, iv R, iv T, iv 1, iv 2, .list (rowsL RM)]] = some (bv true)) :
    wwp (mkEnv [(12, p12), (15, p15), (18, p18), (25, p25), (27, p27)] [(13, q13), (17, q17), (20, q20), (24, q24), (26, q26)] []) W8.1 (fun e s => okExit e ∧ resV W8.2 s = some (bv true)) (initV [.agg x.cells, iv n, .v (.int .u8 way)]) := by
  have tk : (rowsL RM).take RM.length = rowsL RM := rowsL_take RM
  simp only [W8]
  refine wwp_cutW (wf_init _) (fun σ => σ.s 1 = iv n ∧ σ.s 2 = .v (.int .u8 way) ∧ σ.s 3 = .ptr [4, 0] 0 ∧ σ.m [4, 0] = some (.box x.cells) ∧ ∀ y, y ≠ 3 → σ.c y = 0) (by simp [Sk.cells]) ?_
  rintro σ W ⟨h1, h2, h3, m4, hc⟩
  refine wwp_condW W (fun σ => σ.s 1 = iv n ∧ σ.s 2 = .v (.int .u8 way) ∧ σ.s 3 = .ptr [4, 0] 0 ∧ σ.m [4, 0] = some (.box x.cells) ∧ ∀ y, y ≠ 3 → σ.c y = 0) (by simp [h12, h1, h2, h3, m4]; exact hc) ?_
  clear W h1 h2 h3 m4 hc σ
  rintro σ W ⟨h1, h2, h3, m4, hc⟩
  have k37 := hc 37 (by omega)
  have k7 := hc 7 (by omega)
  have k8 := hc 8 (by omega)
  have k41 := hc 41 (by omega)
  have k52 := hc 52 (by omega)
  have k53 := hc 53 (by omega)
  have k153 := hc 153 (by omega)
  have k10 := hc 10 (by omega)
  have k158 := hc 158 (by omega)
  have k168 := hc 168 (by omega)
  have k187 := hc 187 (by omega)
  have k198 := hc 198 (by omega)
  have k203 := hc 203 (by omega)
  have k204 := hc 204 (by omega)
  have k208 := hc 208 (by omega)
  have k209 := hc 209 (by omega)
  clear hc
  refine wwp_cutW W (fun σ => σ.s 1 = iv n ∧ σ.s 2 = .v (.int .u8 way) ∧ GoodAt T R RM none σ ∧ σ.c 8 = 0 ∧ σ.c 41 = 0 ∧ σ.c 52 = 0 ∧ σ.c 53 = 0 ∧ σ.c 153 = 0 ∧ σ.c 10 = 0 ∧ σ.c 158 = 0 ∧ σ.c 168 = 0 ∧ σ.c 187 = 0 ∧ σ.c 198 = 0 ∧ σ.c 203 = 0 ∧ σ.c 204 = 0 ∧ σ.c 208 = 0 ∧ σ.c 209 = 0) ?_ ?_
  · simp [GoodAt, BadT, h1, h2, h3, m4, Sk.cells, h13, tk, k37, k7, k8, k41, k52, k53, k153, k10, k158, k168, k187, k198, k203, k204, k208, k209]
  clear W h1 h2 h3 m4 k37 k7 k8 k41 k52 k53 k153 k10 k158 k168 k187 k198 k203 k204 k208 k209 σ
  rintro σ W ⟨h1, h2, ⟨h7, m8, _, m38, rfl⟩, k8, k41, k52, k53, k153, k10, k158, k168, k187, k198, k203, k204, k208, k209⟩
  refine wwp_cutW W (fun σ => σ.s 1 = iv n ∧ σ.s 2 = .v (.int .u8 way) ∧ GoodAt T R RM none σ ∧ σ.s 8 = .ptr [9, 0] 0 ∧ σ.m [9, 0] = some (.box [iv T, iv R, iv T, iv 1, iv 2, .sl [38, 0] 5 0 RM.length none]) ∧ σ.c 41 = 0 ∧ σ.c 52 = 0 ∧ σ.c 53 = 0 ∧ σ.c 153 = 0 ∧ σ.c 10 = 0 ∧ σ.c 158 = 0 ∧ σ.c 168 = 0 ∧ σ.c 187 = 0 ∧ σ.c 198 = 0 ∧ σ.c 203 = 0 ∧ σ.c 204 = 0 ∧ σ.c 208 = 0 ∧ σ.c 209 = 0) ?_ ?_
  · simp [GoodAt, BadT, h1, h2, h7, m8, m38, tk, k8, k41, k52, k53, k153, k10, k158, k168, k187, k198, k203, k204, k208, k209]
  clear W h1 h2 h7 m8 m38 k8 k41 k52 k53 k153 k10 k158 k168 k187 k198 k203 k204 k208 k209 σ
  rintro σ W ⟨h1, h2, ⟨h7, m8, _, m38, rfl⟩, h8, m9, k41, k52, k53, k153, k10, k158, k168, k187, k198, k203, k204, k208, k209⟩
  refine wwp_cutW W (fun σ => σ.s 1 = iv n ∧ σ.s 2 = .v (.int .u8 way) ∧ GoodAt T R RM none σ ∧ σ.s 8 = .ptr [9, 0] 0 ∧ σ.m [9, 0] = some (.box [iv T, iv R, iv T, iv 1, iv 2, .sl [42, 0] 5 0 RM.length none]) ∧ σ.m [42, 0] = some (.row [42, 0, 0] 53 (rowsL RM)) ∧ σ.c 52 = 0 ∧ σ.c 53 = 0 ∧ σ.c 153 = 0 ∧ σ.c 10 = 0 ∧ σ.c 158 = 0 ∧ σ.c 168 = 0 ∧ σ.c 187 = 0 ∧ σ.c 198 = 0 ∧ σ.c 203 = 0 ∧ σ.c 204 = 0 ∧ σ.c 208 = 0 ∧ σ.c 209 = 0) ?_ ?_
  · simp [GoodAt, BadT, h1, h2, h7, m8, m38, h8, m9, tk, h24, k41, k52, k53, k153, k10, k158, k168, k187, k198, k203, k204, k208, k209]
  clear W h1 h2 h7 m8 m38 h8 m9 k41 k52 k53 k153 k10 k158 k168 k187 k198 k203 k204 k208 k209 σ
  rintro σ W ⟨h1, h2, ⟨h7, m8, _, m38, rfl⟩, h8, m9, m42, k52, k53, k153, k10, k158, k168, k187, k198, k203, k204, k208, k209⟩
  have wl : IntKind.i64.wrap ((RM.length : Int) - 1) = ((j + 1 : Nat) : Int) := by rw [wrap_in (by omega) (by omega)]; omega
  refine wwp_cutW W (fun σ => σ.s 1 = iv n ∧ σ.s 2 = .v (.int .u8 way) ∧ GoodAt T R RM none σ ∧ σ.s 8 = .ptr [9, 0] 0 ∧ σ.m [9, 0] = some (.box [iv T, iv R, iv T, iv 1, iv 2, .sl [42, 0] 5 0 RM.length none]) ∧ σ.m [42, 0] = some (.row [42, 0, 0] 53 (rowsL RM)) ∧ σ.s 9 = iv ((j + 1 : Nat) : Int) ∧ σ.c 52 = 0 ∧ σ.c 53 = 0 ∧ σ.c 153 = 0 ∧ σ.c 10 = 0 ∧ σ.c 158 = 0 ∧ σ.c 168 = 0 ∧ σ.c 187 = 0 ∧ σ.c 198 = 0 ∧ σ.c 203 = 0 ∧ σ.c 204 = 0 ∧ σ.c 208 = 0 ∧ σ.c 209 = 0) ?_ ?_
  · simp [GoodAt, BadT, h1, h2, h7, m8, m38, h8, m9, m42, wl, k52, k53, k153, k10, k158, k168, k187, k198, k203, k204, k208, k209]
  clear W h1 h2 h7 m8 m38 h8 m9 m42 k52 k53 k153 k10 k158 k168 k187 k198 k203 k204 k208 k209 σ
  rintro σ W ⟨h1, h2, ⟨h7, m8, _, m38, rfl⟩, h8, m9, m42, h9, k52, k53, k153, k10, k158, k168, k187, k198, k203, k204, k208, k209⟩
  have ww : (way : Int).tmod 11 = ((way % 11 : Nat) : Int) := by rw [Int.tmod_eq_emod_of_nonneg (by omega)]; simp
  refine wwp_seq_assoc ?_
  refine wwp_cutW W (fun σ => σ.s 1 = iv n ∧ σ.s 2 = .v (.int .u8 way) ∧ GoodAt T R RM none σ ∧ σ.s 8 = .ptr [9, 0] 0 ∧ σ.m [9, 0] = some (.box [iv T, iv R, iv T, iv 1, iv 2, .sl [42, 0] 5 0 RM.length none]) ∧ σ.m [42, 0] = some (.row [42, 0, 0] 53 (rowsL RM)) ∧ σ.s 9 = iv ((j + 1 : Nat) : Int) ∧ σ.s 48 = .v (.int .u8 (way % 11 : Nat)) ∧ σ.c 52 = 0 ∧ σ.c 53 = 0 ∧ σ.c 153 = 0 ∧ σ.c 10 = 0 ∧ σ.c 158 = 0 ∧ σ.c 168 = 0 ∧ σ.c 187 = 0 ∧ σ.c 198 = 0 ∧ σ.c 203 = 0 ∧ σ.c 204 = 0 ∧ σ.c 208 = 0 ∧ σ.c 209 = 0) ?_ ?_
  · simp [GoodAt, BadT, h1, h2, h7, m8, m38, h8, m9, m42, h9, ww, k52, k53, k153, k10, k158, k168, k187, k198, k203, k204, k208, k209]
  clear W h1 h2 h7 m8 m38 h8 m9 m42 h9 k52 k53 k153 k10 k158 k168 k187 k198 k203 k204 k208 k209 σ
  rintro σ W ⟨h1, h2, ⟨h7, m8, _, m38, rfl⟩, h8, m9, m42, h9, h48, k52, k53, k153, k10, k158, k168, k187, k198, k203, k204, k208, k209⟩
  refine wwp_body (fun σ => σ.s 1 = iv n ∧ GoodAt T R RM none σ ∧ BadAt T σ ∧ σ.c 153 = 0 ∧ σ.c 10 = 0 ∧ σ.c 158 = 0 ∧ σ.c 168 = 0 ∧ σ.c 187 = 0 ∧ σ.c 198 = 0 ∧ σ.c 203 = 0 ∧ σ.c 204 = 0 ∧ σ.c 208 = 0 ∧ σ.c 209 = 0) ?_ ?_
  · refine c8s _ (way % 11) (Nat.mod_lt _ (by omega)) n T R j (j + 1) rfl RM x1 x2 ht hr hj hjl hj36 e1 e2 f1 f2 f3 none _ _ σ ?_ ⟨h7, m8, _, m38, rfl⟩ h8 m9 m42 h9 h1 h48 k52 k53
    intro σ' a1 a2 a3 a4
    refine ⟨a1, a2, a3, ?_⟩
    rw [a4 153 (by omega) (by omega), a4 10 (by omega) (by omega), a4 158 (by omega) (by omega), a4 168 (by omega) (by omega), a4 187 (by omega) (by omega), a4 198 (by omega) (by omega), a4 203 (by omega) (by omega), a4 204 (by omega) (by omega), a4 208 (by omega) (by omega), a4 209 (by omega) (by omega)]
    exact ⟨k153, k10, k158, k168, k187, k198, k203, k204, k208, k209⟩
  clear W h1 h2 h7 m8 m38 h8 m9 m42 h9 h48 k52 k53 k153 k10 k158 k168 k187 k198 k203 k204 k208 k209 σ
  rintro σ ⟨h1, ⟨h7, m8, _, m38, rfl⟩, ⟨bt, br, tb, bl, h8, m9, ⟨g, mb⟩, htb, hbl, hbf⟩, k153, k10, k158, k168, k187, k198, k203, k204, k208, k209⟩
  have tkb : (rowsL bl).take bl.length = rowsL bl := rowsL_take bl
  have b17 := b17 bt br bl hbl hbf
  have b20 := b20 bt br bl hbl hbf
  have b25 := b25 bt br bl hbl hbf
  have b26 := b26 bt br bl hbl hbf
  have b18 := b18 bt br bl hbl hbf
  have b15 := b15 bt br bl hbl hbf
  have b27 := b27 bt br bl hbl hbf
  refine wwp_cut (fun σ => σ.s 1 = iv n ∧ GoodAt T R RM none σ ∧ BadT T bt br tb bl σ ∧ σ.s 11 = iv 290 ∧ σ.c 158 = 0 ∧ σ.c 168 = 0 ∧ σ.c 187 = 0 ∧ σ.c 198 = 0 ∧ σ.c 203 = 0 ∧ σ.c 204 = 0 ∧ σ.c 208 = 0 ∧ σ.c 209 = 0) ?_ ?_
  · rcases htb with rfl | rfl <;> simp [GoodAt, BadT, h1, h7, m8, m38, h8, m9, mb, k153, k10, k158, k168, k187, k198, k203, k204, k208, k209, b17, tkb, noMv]
  clear h1 h7 m8 m38 h8 m9 g mb  k153 k10 k158 k168 k187 k198 k203 k204 k208 k209 σ
  rintro σ ⟨h1, ⟨h7, m8, _, m38, rfl⟩, ⟨h8, m9, g, mb⟩, h11, k158, k168, k187, k198, k203, k204, k208, k209⟩
  refine wwp_cut (fun σ => σ.s 1 = iv n ∧ GoodAt T R RM none σ ∧ BadT T bt br tb bl σ ∧ σ.s 11 = iv 290 ∧ σ.s 13 = iv 290 ∧ σ.c 168 = 0 ∧ σ.c 187 = 0 ∧ σ.c 198 = 0 ∧ σ.c 203 = 0 ∧ σ.c 204 = 0 ∧ σ.c 208 = 0 ∧ σ.c 209 = 0) ?_ ?_
  · rcases htb with rfl | rfl <;> simp [GoodAt, BadT, h1, h7, m8, m38, h8, m9, mb, h11, k158, k168, k187, k198, k203, k204, k208, k209, b20, tkb, noMv]
  clear h1 h7 m8 m38 h8 m9 g mb h11 k158 k168 k187 k198 k203 k204 k208 k209 σ
  rintro σ ⟨h1, ⟨h7, m8, _, m38, rfl⟩, ⟨h8, m9, g, mb⟩, h11, h13, k168, k187, k198, k203, k204, k208, k209⟩
  refine wwp_cut (fun σ => σ.s 1 = iv n ∧ GoodAt T R RM none σ ∧ BadT T bt br tb bl σ ∧ σ.s 11 = iv 290 ∧ σ.s 13 = iv 290 ∧ σ.s 15 = iv 290 ∧ σ.c 168 = 0 ∧ σ.c 187 = 0 ∧ σ.c 198 = 0 ∧ σ.c 203 = 0 ∧ σ.c 204 = 0 ∧ σ.c 208 = 0 ∧ σ.c 209 = 0) ?_ ?_
  · rcases htb with rfl | rfl <;> simp [GoodAt, BadT, h1, h7, m8, m38, h8, m9, mb, h11, h13, k168, k187, k198, k203, k204, k208, k209, b25, tkb, noMv]
  clear h1 h7 m8 m38 h8 m9 g mb h11 h13 k168 k187 k198 k203 k204 k208 k209 σ
  rintro σ ⟨h1, ⟨h7, m8, _, m38, rfl⟩, ⟨h8, m9, g, mb⟩, h11, h13, h15, k168, k187, k198, k203, k204, k208, k209⟩
  refine wwp_cut (fun σ => σ.s 1 = iv n ∧ GoodAt T R RM none σ ∧ BadT T bt br tb bl σ ∧ σ.s 11 = iv 290 ∧ σ.s 13 = iv 290 ∧ σ.s 15 = iv 290 ∧ σ.s 17 = iv 290 ∧ σ.c 187 = 0 ∧ σ.c 198 = 0 ∧ σ.c 203 = 0 ∧ σ.c 204 = 0 ∧ σ.c 208 = 0 ∧ σ.c 209 = 0) ?_ ?_
  · rcases htb with rfl | rfl <;> simp [GoodAt, BadT, h1, h7, m8, m38, h8, m9, mb, h11, h13, h15, k168, k187, k198, k203, k204, k208, k209, b26, tkb, noMv]
  clear h1 h7 m8 m38 h8 m9 g mb h11 h13 h15 k168 k187 k198 k203 k204 k208 k209 σ
  rintro σ ⟨h1, ⟨h7, m8, _, m38, rfl⟩, ⟨h8, m9, g, mb⟩, h11, h13, h15, h17, k187, k198, k203, k204, k208, k209⟩
  refine wwp_cut (fun σ => σ.s 1 = iv n ∧ GoodAt T R RM none σ ∧ BadT T bt br tb bl σ ∧ σ.s 11 = iv 290 ∧ σ.s 13 = iv 290 ∧ σ.s 15 = iv 290 ∧ σ.s 17 = iv 290 ∧ σ.s 19 = iv 290 ∧ σ.c 187 = 0 ∧ σ.c 198 = 0 ∧ σ.c 203 = 0 ∧ σ.c 204 = 0 ∧ σ.c 208 = 0 ∧ σ.c 209 = 0) ?_ ?_
  · rcases htb with rfl | rfl <;> simp [GoodAt, BadT, h1, h7, m8, m38, h8, m9, mb, h11, h13, h15, h17, k187, k198, k203, k204, k208, k209, b18, tkb, noMv]
  clear h1 h7 m8 m38 h8 m9 g mb h11 h13 h15 h17 k187 k198 k203 k204 k208 k209 σ
  rintro σ ⟨h1, ⟨h7, m8, _, m38, rfl⟩, ⟨h8, m9, g, mb⟩, h11, h13, h15, h17, h19, k187, k198, k203, k204, k208, k209⟩
  refine wwp_cut (fun σ => σ.s 1 = iv n ∧ GoodAt T R RM none σ ∧ BadT T bt br tb bl σ ∧ σ.s 11 = iv 290 ∧ σ.s 13 = iv 290 ∧ σ.s 15 = iv 290 ∧ σ.s 17 = iv 290 ∧ σ.s 19 = iv 290 ∧ σ.s 21 = iv 290 ∧ σ.c 187 = 0 ∧ σ.c 198 = 0 ∧ σ.c 203 = 0 ∧ σ.c 204 = 0 ∧ σ.c 208 = 0 ∧ σ.c 209 = 0) ?_ ?_
  · rcases htb with rfl | rfl <;> simp [GoodAt, BadT, h1, h7, m8, m38, h8, m9, mb, h11, h13, h15, h17, h19, k187, k198, k203, k204, k208, k209, b15, tkb, noMv]
  clear h1 h7 m8 m38 h8 m9 g mb h11 h13 h15 h17 h19 k187 k198 k203 k204 k208 k209 σ
  rintro σ ⟨h1, ⟨h7, m8, _, m38, rfl⟩, ⟨h8, m9, g, mb⟩, h11, h13, h15, h17, h19, h21, k187, k198, k203, k204, k208, k209⟩
  refine wwp_cutG (fun σ => σ.s 1 = iv n ∧ GoodAt T R RM none σ ∧ BadT T bt br tb bl σ ∧ σ.c 198 = 0 ∧ σ.c 203 = 0 ∧ σ.c 204 = 0 ∧ σ.c 208 = 0 ∧ σ.c 209 = 0) ?_ ?_
  · refine wwp_cut (fun σ => σ.s 1 = iv n ∧ GoodAt T R RM none σ ∧ BadT T bt br tb bl σ ∧ σ.c 198 = 0 ∧ σ.c 203 = 0 ∧ σ.c 204 = 0 ∧ σ.c 208 = 0 ∧ σ.c 209 = 0 ∧ σ.s 187 = .sl [188, 0] 1 0 6 none ∧ σ.s 188 = iv 6 ∧ (∃ g, σ.m [188, 0] = some (.row g 36 (List.replicate 6 [iv 290]))) ∧ σ.s 189 = iv 0) ?_ ?_
    · rcases htb with rfl | rfl <;> simp [GoodAt, BadT, List.replicate, h1, h7, m8, m38, h8, m9, mb, k198, k203, k204, k208, k209, h11, h13, h15, h17, h19, h21, k187]
    clear h1 h7 m8 m38 h8 m9 g mb k198 k203 k204 k208 k209 h11 h13 h15 h17 h19 h21 k187 σ
    rintro σ ⟨hJ1, hJ2, hJ3, k198, k203, k204, k208, k209, h187, h188, m188, h189⟩
    simp only [wwp_block]
    refine wwp_loop (fun σ => ∃ k : Nat, k ≤ 6 ∧ σ.s 1 = iv n ∧ GoodAt T R RM none σ ∧ BadT T bt br tb bl σ ∧ σ.c 198 = 0 ∧ σ.c 203 = 0 ∧ σ.c 204 = 0 ∧ σ.c 208 = 0 ∧ σ.c 209 = 0 ∧ σ.s 187 = .sl [188, 0] 1 0 6 none ∧ σ.s 188 = iv 6 ∧ (∃ g, σ.m [188, 0] = some (.row g 36 (List.replicate 6 [iv 290]))) ∧ σ.s 189 = iv k) (fun σ => cnt 6 (σ.s 189)) ?_ ?_
    · exact ⟨0, by omega, hJ1, hJ2, hJ3, k198, k203, k204, k208, k209, h187, h188, m188, h189⟩
    clear hJ1 hJ2 hJ3 k198 k203 k204 k208 k209 h187 h188 m188 h189 σ
    rintro σ hw ⟨k, hk, h1, ⟨h7, m8, _, m38, rfl⟩, ⟨h8, m9, g, mb⟩, k198, k203, k204, k208, k209, h187, h188, ⟨gx, m188⟩, h189⟩
    by_cases hlt : k < 6
    · have er : ∀ h, ([[iv 290], [iv 290], [iv 290], [iv 290], [iv 290], [iv 290]] : List (List D))[k]'h = [iv 290] := fun h => by
        show (List.replicate 6 [iv 290])[k]'_ = _
        exact List.getElem_replicate _
      have hw1 : IntKind.i64.wrap ((k : Int) + 1) = (k : Int) + 1 := wrap_succ (show k ≤ 1000000000 by omega)
      have hmu : cnt 6 (σ.s 189) = 6 - k := by simp [h189]
      simp only [hmu]
      clear hmu
      have hlz : (k : Int) < 6 := by omega
      refine wwp_on (fun σ => σ.s 1 = iv n ∧ GoodAt T R RM none σ ∧ BadT T bt br tb bl σ ∧ σ.c 198 = 0 ∧ σ.c 203 = 0 ∧ σ.c 204 = 0 ∧ σ.c 208 = 0 ∧ σ.c 209 = 0 ∧ σ.s 187 = .sl [188, 0] 1 0 6 none ∧ σ.s 188 = iv 6 ∧ (∃ g, σ.m [188, 0] = some (.row g 36 (List.replicate 6 [iv 290]))) ∧ σ.s 189 = iv k) ?_ ?_
      · rcases htb with rfl | rfl <;> simp [GoodAt, BadT, h1, h7, m8, m38, h8, m9, mb, k198, k203, k204, k208, k209, h187, h188, m188, h189, hlt, hlz]
      clear hw h1 h7 m8 m38 h8 m9 g mb k198 k203 k204 k208 k209 h187 h188 gx m188 h189 σ
      rintro σ ⟨h1, ⟨h7, m8, _, m38, rfl⟩, ⟨h8, m9, g, mb⟩, k198, k203, k204, k208, k209, h187, h188, ⟨gx, m188⟩, h189⟩
      rcases htb with rfl | rfl <;>
      · simp [GoodAt, BadT, h1, h7, m8, m38, h8, m9, mb, k198, k203, k204, k208, k209, h187, h188, m188, h189, hlt, hlz, er, hw1]
        exact ⟨⟨k + 1, by omega, rfl⟩, by omega⟩
    · have hkl : k = 6 := by omega
      subst hkl
      refine wwp_off ?_
      rcases htb with rfl | rfl <;> simp [GoodAt, BadT, h1, h7, m8, m38, h8, m9, mb, k198, k203, k204, k208, k209, h187, h188, m188, h189]
  clear h1 h7 m8 m38 h8 m9 g mb k198 k203 k204 k208 k209 h11 h13 h15 h17 h19 h21 k187 σ
  rintro σ ⟨h1, ⟨h7, m8, _, m38, rfl⟩, ⟨h8, m9, g, mb⟩, k198, k203, k204, k208, k209⟩
  have wR : IntKind.i64.wrap ((R : Int) - 1) = (R : Int) - 1 := wrap_in (by omega) (by omega)
  obtain ⟨a1, ha1⟩ : ∃ a1 : Int, a1 = if -1 < n then -1 else n := ⟨_, rfl⟩
  obtain ⟨a2, ha2⟩ : ∃ a2 : Int, a2 = if n < (R : Int) then (R : Int) else n := ⟨_, rfl⟩
  have ga1 := g17a a1 (by rw [ha1]; split <;> omega)
  have ga2 := g17a a2 (by rw [ha2]; split <;> omega)
  have gb1 := g15a a1 (by rw [ha1]; split <;> omega)
  have gb2 := g15a a2 (by rw [ha2]; split <;> omega)
  refine wwp_cutG (fun σ => σ.s 1 = iv n ∧ GoodAt T R RM none σ ∧ BadT T bt br tb bl σ) ?_ ?_
  · refine wwp_cut (fun σ => σ.s 1 = iv n ∧ GoodAt T R RM none σ ∧ BadT T bt br tb bl σ ∧ σ.s 211 = iv 0 ∧ σ.s 209 = .sl [210, 0] 1 0 4 none ∧ σ.s 210 = iv 4 ∧ (∃ g, σ.m [210, 0] = some (.row g 34 [[.sl [199, 0] 1 0 1 none], [.sl [204, 0] 1 0 1 none], [.sl [205, 0] 1 0 2 none], [.sl [209, 0] 1 0 2 none]])) ∧ (∃ g, σ.m [199, 0] = some (.row g 3 [[iv a1]])) ∧ (∃ g, σ.m [204, 0] = some (.row g 3 [[iv a2]])) ∧ (∃ g, σ.m [205, 0] = some (.row g 3 [[iv 0], [iv 0]])) ∧ ∃ g, σ.m [209, 0] = some (.row g 3 [[iv ((R : Int) - 1)], [iv (-1)]])) ?_ ?_
    · rcases htb with rfl | rfl <;> simp [GoodAt, BadT, h1, h7, m8, m38, h8, m9, mb, k198, k203, k204, k208, k209, wR, ← ha1, ← ha2]
    clear h1 h7 m8 m38 h8 m9 g mb k198 k203 k204 k208 k209 σ
    rintro σ ⟨hJ1, hJ2, hJ3, h211, hY⟩
    simp only [wwp_block]
    refine wwp_loop (fun σ => ∃ k : Nat, k ≤ 4 ∧ σ.s 1 = iv n ∧ GoodAt T R RM none σ ∧ BadT T bt br tb bl σ ∧ σ.s 211 = iv k ∧ σ.s 209 = .sl [210, 0] 1 0 4 none ∧ σ.s 210 = iv 4 ∧ (∃ g, σ.m [210, 0] = some (.row g 34 [[.sl [199, 0] 1 0 1 none], [.sl [204, 0] 1 0 1 none], [.sl [205, 0] 1 0 2 none], [.sl [209, 0] 1 0 2 none]])) ∧ (∃ g, σ.m [199, 0] = some (.row g 3 [[iv a1]])) ∧ (∃ g, σ.m [204, 0] = some (.row g 3 [[iv a2]])) ∧ (∃ g, σ.m [205, 0] = some (.row g 3 [[iv 0], [iv 0]])) ∧ ∃ g, σ.m [209, 0] = some (.row g 3 [[iv ((R : Int) - 1)], [iv (-1)]])) (fun σ => cnt 4 (σ.s 211)) ?_ ?_
    · exact ⟨0, by omega, hJ1, hJ2, hJ3, h211, hY⟩
    clear hJ1 hJ2 hJ3 h211 hY σ
    rintro σ hw ⟨k, hk, h1, ⟨h7, m8, _, m38, rfl⟩, ⟨h8, m9, g, mb⟩, h211, h209, h210, ⟨ga, m210⟩, ⟨gb, m199⟩, ⟨gc, m204⟩, ⟨gd, m205⟩, ge, m209⟩
    by_cases hlt : k < 4
    · have hw1 : IntKind.i64.wrap ((k : Int) + 1) = (k : Int) + 1 := wrap_succ (show k ≤ 1000000000 by omega)
      have hmu : cnt 4 (σ.s 211) = 4 - k := by simp [h211]
      simp only [hmu]
      clear hmu
      have hlz : (k : Int) < 4 := by omega
      refine wwp_on (fun σ => σ.s 1 = iv n ∧ GoodAt T R RM none σ ∧ BadT T bt br tb bl σ ∧ σ.s 211 = iv k ∧ σ.s 209 = .sl [210, 0] 1 0 4 none ∧ σ.s 210 = iv 4 ∧ (∃ g, σ.m [210, 0] = some (.row g 34 [[.sl [199, 0] 1 0 1 none], [.sl [204, 0] 1 0 1 none], [.sl [205, 0] 1 0 2 none], [.sl [209, 0] 1 0 2 none]])) ∧ (∃ g, σ.m [199, 0] = some (.row g 3 [[iv a1]])) ∧ (∃ g, σ.m [204, 0] = some (.row g 3 [[iv a2]])) ∧ (∃ g, σ.m [205, 0] = some (.row g 3 [[iv 0], [iv 0]])) ∧ ∃ g, σ.m [209, 0] = some (.row g 3 [[iv ((R : Int) - 1)], [iv (-1)]])) ?_ ?_
      · rcases htb with rfl | rfl <;> simp [GoodAt, BadT, h1, h7, m8, m38, h8, m9, mb, h211, h209, h210, m210, m199, m204, m205, m209, hlt, hlz]
      clear hw h1 h7 m8 m38 h8 m9 g mb h211 h209 h210 ga m210 gb m199 gc m204 gd m205 ge m209 σ
      rintro σ ⟨h1, ⟨h7, m8, _, m38, rfl⟩, ⟨h8, m9, g, mb⟩, h211, h209, h210, ⟨ga, m210⟩, ⟨gb, m199⟩, ⟨gc, m204⟩, ⟨gd, m205⟩, ge, m209⟩
      refine wwp_body (fun σ => σ.s 1 = iv n ∧ GoodAt T R RM none σ ∧ BadT T bt br tb bl σ ∧ σ.s 211 = iv k ∧ σ.s 209 = .sl [210, 0] 1 0 4 none ∧ σ.s 210 = iv 4 ∧ (∃ g, σ.m [210, 0] = some (.row g 34 [[.sl [199, 0] 1 0 1 none], [.sl [204, 0] 1 0 1 none], [.sl [205, 0] 1 0 2 none], [.sl [209, 0] 1 0 2 none]])) ∧ (∃ g, σ.m [199, 0] = some (.row g 3 [[iv a1]])) ∧ (∃ g, σ.m [204, 0] = some (.row g 3 [[iv a2]])) ∧ (∃ g, σ.m [205, 0] = some (.row g 3 [[iv 0], [iv 0]])) ∧ ∃ g, σ.m [209, 0] = some (.row g 3 [[iv ((R : Int) - 1)], [iv (-1)]])) ?_ ?_
      · have h4 : k = 0 ∨ k = 1 ∨ k = 2 ∨ k = 3 := by omega
        rcases h4 with rfl | rfl | rfl | rfl
        · refine wwp_cut (fun σ => (σ.s 1 = iv n ∧ GoodAt T R RM none σ ∧ BadT T bt br tb bl σ ∧ σ.s 211 = iv (0 : Nat) ∧ σ.s 209 = .sl [210, 0] 1 0 4 none ∧ σ.s 210 = iv 4 ∧ (∃ g, σ.m [210, 0] = some (.row g 34 [[.sl [199, 0] 1 0 1 none], [.sl [204, 0] 1 0 1 none], [.sl [205, 0] 1 0 2 none], [.sl [209, 0] 1 0 2 none]])) ∧ (∃ g, σ.m [199, 0] = some (.row g 3 [[iv a1]])) ∧ (∃ g, σ.m [204, 0] = some (.row g 3 [[iv a2]])) ∧ (∃ g, σ.m [205, 0] = some (.row g 3 [[iv 0], [iv 0]])) ∧ ∃ g, σ.m [209, 0] = some (.row g 3 [[iv ((R : Int) - 1)], [iv (-1)]])) ∧ σ.s 25 = .sl [199, 0] 1 0 1 none) ?_ ?_
          · rcases htb with rfl | rfl <;> simp [GoodAt, BadT, h1, h7, m8, m38, h8, m9, mb, h211, h209, h210, m210, m199, m204, m205, m209]
          clear h1 h7 m8 m38 h8 m9 g mb h211 h209 h210 ga m210 gb m199 gc m204 gd m205 ge m209 σ
          rintro σ ⟨⟨h1, ⟨h7, m8, _, m38, rfl⟩, ⟨h8, m9, g, mb⟩, h211, h209, h210, ⟨ga, m210⟩, ⟨gb, m199⟩, ⟨gc, m204⟩, ⟨gd, m205⟩, ge, m209⟩, h25⟩
          refine wwp_cut (fun σ => (σ.s 1 = iv n ∧ GoodAt T R RM none σ ∧ BadT T bt br tb bl σ ∧ σ.s 211 = iv (0 : Nat) ∧ σ.s 209 = .sl [210, 0] 1 0 4 none ∧ σ.s 210 = iv 4 ∧ (∃ g, σ.m [210, 0] = some (.row g 34 [[.sl [199, 0] 1 0 1 none], [.sl [204, 0] 1 0 1 none], [.sl [205, 0] 1 0 2 none], [.sl [209, 0] 1 0 2 none]])) ∧ (∃ g, σ.m [199, 0] = some (.row g 3 [[iv a1]])) ∧ (∃ g, σ.m [204, 0] = some (.row g 3 [[iv a2]])) ∧ (∃ g, σ.m [205, 0] = some (.row g 3 [[iv 0], [iv 0]])) ∧ ∃ g, σ.m [209, 0] = some (.row g 3 [[iv ((R : Int) - 1)], [iv (-1)]])) ∧ σ.s 25 = .sl [199, 0] 1 0 1 none ∧ σ.s 27 = iv 291) ?_ ?_
          · rcases htb with rfl | rfl <;> simp [GoodAt, BadT, h1, h7, m8, m38, h8, m9, mb, h211, h209, h210, m210, m199, m204, m205, m209, h25, tk, ga1, ga2, g17b, g17c, noMv]
          clear h1 h7 m8 m38 h8 m9 g mb h211 h209 h210 ga m210 gb m199 gc m204 gd m205 ge m209 h25 σ
          rintro σ ⟨⟨h1, ⟨h7, m8, _, m38, rfl⟩, ⟨h8, m9, g, mb⟩, h211, h209, h210, ⟨ga, m210⟩, ⟨gb, m199⟩, ⟨gc, m204⟩, ⟨gd, m205⟩, ge, m209⟩, h25, h27⟩
          refine wwp_cut (fun σ => (σ.s 1 = iv n ∧ GoodAt T R RM none σ ∧ BadT T bt br tb bl σ ∧ σ.s 211 = iv (0 : Nat) ∧ σ.s 209 = .sl [210, 0] 1 0 4 none ∧ σ.s 210 = iv 4 ∧ (∃ g, σ.m [210, 0] = some (.row g 34 [[.sl [199, 0] 1 0 1 none], [.sl [204, 0] 1 0 1 none], [.sl [205, 0] 1 0 2 none], [.sl [209, 0] 1 0 2 none]])) ∧ (∃ g, σ.m [199, 0] = some (.row g 3 [[iv a1]])) ∧ (∃ g, σ.m [204, 0] = some (.row g 3 [[iv a2]])) ∧ (∃ g, σ.m [205, 0] = some (.row g 3 [[iv 0], [iv 0]])) ∧ ∃ g, σ.m [209, 0] = some (.row g 3 [[iv ((R : Int) - 1)], [iv (-1)]])) ∧ σ.s 27 = iv 291 ∧ σ.s 29 = iv 291) ?_ ?_
          · rcases htb with rfl | rfl <;> simp [GoodAt, BadT, h1, h7, m8, m38, h8, m9, mb, h211, h209, h210, m210, m199, m204, m205, m209, h25, h27, tk, gb1, gb2, g15b, g15c]
          clear h1 h7 m8 m38 h8 m9 g mb h211 h209 h210 ga m210 gb m199 gc m204 gd m205 ge m209 h25 h27 σ
          rintro σ ⟨⟨h1, ⟨h7, m8, _, m38, rfl⟩, ⟨h8, m9, g, mb⟩, h211, h209, h210, ⟨ga, m210⟩, ⟨gb, m199⟩, ⟨gc, m204⟩, ⟨gd, m205⟩, ge, m209⟩, h27, h29⟩
          rcases htb with rfl | rfl <;> simp [GoodAt, BadT, h1, h7, m8, m38, h8, m9, mb, h211, h209, h210, m210, m199, m204, m205, m209, h27, h29]
        · refine wwp_cut (fun σ => (σ.s 1 = iv n ∧ GoodAt T R RM none σ ∧ BadT T bt br tb bl σ ∧ σ.s 211 = iv (1 : Nat) ∧ σ.s 209 = .sl [210, 0] 1 0 4 none ∧ σ.s 210 = iv 4 ∧ (∃ g, σ.m [210, 0] = some (.row g 34 [[.sl [199, 0] 1 0 1 none], [.sl [204, 0] 1 0 1 none], [.sl [205, 0] 1 0 2 none], [.sl [209, 0] 1 0 2 none]])) ∧ (∃ g, σ.m [199, 0] = some (.row g 3 [[iv a1]])) ∧ (∃ g, σ.m [204, 0] = some (.row g 3 [[iv a2]])) ∧ (∃ g, σ.m [205, 0] = some (.row g 3 [[iv 0], [iv 0]])) ∧ ∃ g, σ.m [209, 0] = some (.row g 3 [[iv ((R : Int) - 1)], [iv (-1)]])) ∧ σ.s 25 = .sl [204, 0] 1 0 1 none) ?_ ?_
          · rcases htb with rfl | rfl <;> simp [GoodAt, BadT, h1, h7, m8, m38, h8, m9, mb, h211, h209, h210, m210, m199, m204, m205, m209]
          clear h1 h7 m8 m38 h8 m9 g mb h211 h209 h210 ga m210 gb m199 gc m204 gd m205 ge m209 σ
          rintro σ ⟨⟨h1, ⟨h7, m8, _, m38, rfl⟩, ⟨h8, m9, g, mb⟩, h211, h209, h210, ⟨ga, m210⟩, ⟨gb, m199⟩, ⟨gc, m204⟩, ⟨gd, m205⟩, ge, m209⟩, h25⟩
          refine wwp_cut (fun σ => (σ.s 1 = iv n ∧ GoodAt T R RM none σ ∧ BadT T bt br tb bl σ ∧ σ.s 211 = iv (1 : Nat) ∧ σ.s 209 = .sl [210, 0] 1 0 4 none ∧ σ.s 210 = iv 4 ∧ (∃ g, σ.m [210, 0] = some (.row g 34 [[.sl [199, 0] 1 0 1 none], [.sl [204, 0] 1 0 1 none], [.sl [205, 0] 1 0 2 none], [.sl [209, 0] 1 0 2 none]])) ∧ (∃ g, σ.m [199, 0] = some (.row g 3 [[iv a1]])) ∧ (∃ g, σ.m [204, 0] = some (.row g 3 [[iv a2]])) ∧ (∃ g, σ.m [205, 0] = some (.row g 3 [[iv 0], [iv 0]])) ∧ ∃ g, σ.m [209, 0] = some (.row g 3 [[iv ((R : Int) - 1)], [iv (-1)]])) ∧ σ.s 25 = .sl [204, 0] 1 0 1 none ∧ σ.s 27 = iv 291) ?_ ?_
          · rcases htb with rfl | rfl <;> simp [GoodAt, BadT, h1, h7, m8, m38, h8, m9, mb, h211, h209, h210, m210, m199, m204, m205, m209, h25, tk, ga1, ga2, g17b, g17c, noMv]
          clear h1 h7 m8 m38 h8 m9 g mb h211 h209 h210 ga m210 gb m199 gc m204 gd m205 ge m209 h25 σ
          rintro σ ⟨⟨h1, ⟨h7, m8, _, m38, rfl⟩, ⟨h8, m9, g, mb⟩, h211, h209, h210, ⟨ga, m210⟩, ⟨gb, m199⟩, ⟨gc, m204⟩, ⟨gd, m205⟩, ge, m209⟩, h25, h27⟩
          refine wwp_cut (fun σ => (σ.s 1 = iv n ∧ GoodAt T R RM none σ ∧ BadT T bt br tb bl σ ∧ σ.s 211 = iv (1 : Nat) ∧ σ.s 209 = .sl [210, 0] 1 0 4 none ∧ σ.s 210 = iv 4 ∧ (∃ g, σ.m [210, 0] = some (.row g 34 [[.sl [199, 0] 1 0 1 none], [.sl [204, 0] 1 0 1 none], [.sl [205, 0] 1 0 2 none], [.sl [209, 0] 1 0 2 none]])) ∧ (∃ g, σ.m [199, 0] = some (.row g 3 [[iv a1]])) ∧ (∃ g, σ.m [204, 0] = some (.row g 3 [[iv a2]])) ∧ (∃ g, σ.m [205, 0] = some (.row g 3 [[iv 0], [iv 0]])) ∧ ∃ g, σ.m [209, 0] = some (.row g 3 [[iv ((R : Int) - 1)], [iv (-1)]])) ∧ σ.s 27 = iv 291 ∧ σ.s 29 = iv 291) ?_ ?_
          · rcases htb with rfl | rfl <;> simp [GoodAt, BadT, h1, h7, m8, m38, h8, m9, mb, h211, h209, h210, m210, m199, m204, m205, m209, h25, h27, tk, gb1, gb2, g15b, g15c]
          clear h1 h7 m8 m38 h8 m9 g mb h211 h209 h210 ga m210 gb m199 gc m204 gd m205 ge m209 h25 h27 σ
          rintro σ ⟨⟨h1, ⟨h7, m8, _, m38, rfl⟩, ⟨h8, m9, g, mb⟩, h211, h209, h210, ⟨ga, m210⟩, ⟨gb, m199⟩, ⟨gc, m204⟩, ⟨gd, m205⟩, ge, m209⟩, h27, h29⟩
          rcases htb with rfl | rfl <;> simp [GoodAt, BadT, h1, h7, m8, m38, h8, m9, mb, h211, h209, h210, m210, m199, m204, m205, m209, h27, h29]
        · refine wwp_cut (fun σ => (σ.s 1 = iv n ∧ GoodAt T R RM none σ ∧ BadT T bt br tb bl σ ∧ σ.s 211 = iv (2 : Nat) ∧ σ.s 209 = .sl [210, 0] 1 0 4 none ∧ σ.s 210 = iv 4 ∧ (∃ g, σ.m [210, 0] = some (.row g 34 [[.sl [199, 0] 1 0 1 none], [.sl [204, 0] 1 0 1 none], [.sl [205, 0] 1 0 2 none], [.sl [209, 0] 1 0 2 none]])) ∧ (∃ g, σ.m [199, 0] = some (.row g 3 [[iv a1]])) ∧ (∃ g, σ.m [204, 0] = some (.row g 3 [[iv a2]])) ∧ (∃ g, σ.m [205, 0] = some (.row g 3 [[iv 0], [iv 0]])) ∧ ∃ g, σ.m [209, 0] = some (.row g 3 [[iv ((R : Int) - 1)], [iv (-1)]])) ∧ σ.s 25 = .sl [205, 0] 1 0 2 none) ?_ ?_
          · rcases htb with rfl | rfl <;> simp [GoodAt, BadT, h1, h7, m8, m38, h8, m9, mb, h211, h209, h210, m210, m199, m204, m205, m209]
          clear h1 h7 m8 m38 h8 m9 g mb h211 h209 h210 ga m210 gb m199 gc m204 gd m205 ge m209 σ
          rintro σ ⟨⟨h1, ⟨h7, m8, _, m38, rfl⟩, ⟨h8, m9, g, mb⟩, h211, h209, h210, ⟨ga, m210⟩, ⟨gb, m199⟩, ⟨gc, m204⟩, ⟨gd, m205⟩, ge, m209⟩, h25⟩
          refine wwp_cut (fun σ => (σ.s 1 = iv n ∧ GoodAt T R RM none σ ∧ BadT T bt br tb bl σ ∧ σ.s 211 = iv (2 : Nat) ∧ σ.s 209 = .sl [210, 0] 1 0 4 none ∧ σ.s 210 = iv 4 ∧ (∃ g, σ.m [210, 0] = some (.row g 34 [[.sl [199, 0] 1 0 1 none], [.sl [204, 0] 1 0 1 none], [.sl [205, 0] 1 0 2 none], [.sl [209, 0] 1 0 2 none]])) ∧ (∃ g, σ.m [199, 0] = some (.row g 3 [[iv a1]])) ∧ (∃ g, σ.m [204, 0] = some (.row g 3 [[iv a2]])) ∧ (∃ g, σ.m [205, 0] = some (.row g 3 [[iv 0], [iv 0]])) ∧ ∃ g, σ.m [209, 0] = some (.row g 3 [[iv ((R : Int) - 1)], [iv (-1)]])) ∧ σ.s 25 = .sl [205, 0] 1 0 2 none ∧ σ.s 27 = iv 291) ?_ ?_
          · rcases htb with rfl | rfl <;> simp [GoodAt, BadT, h1, h7, m8, m38, h8, m9, mb, h211, h209, h210, m210, m199, m204, m205, m209, h25, tk, ga1, ga2, g17b, g17c, noMv]
          clear h1 h7 m8 m38 h8 m9 g mb h211 h209 h210 ga m210 gb m199 gc m204 gd m205 ge m209 h25 σ
          rintro σ ⟨⟨h1, ⟨h7, m8, _, m38, rfl⟩, ⟨h8, m9, g, mb⟩, h211, h209, h210, ⟨ga, m210⟩, ⟨gb, m199⟩, ⟨gc, m204⟩, ⟨gd, m205⟩, ge, m209⟩, h25, h27⟩
          refine wwp_cut (fun σ => (σ.s 1 = iv n ∧ GoodAt T R RM none σ ∧ BadT T bt br tb bl σ ∧ σ.s 211 = iv (2 : Nat) ∧ σ.s 209 = .sl [210, 0] 1 0 4 none ∧ σ.s 210 = iv 4 ∧ (∃ g, σ.m [210, 0] = some (.row g 34 [[.sl [199, 0] 1 0 1 none], [.sl [204, 0] 1 0 1 none], [.sl [205, 0] 1 0 2 none], [.sl [209, 0] 1 0 2 none]])) ∧ (∃ g, σ.m [199, 0] = some (.row g 3 [[iv a1]])) ∧ (∃ g, σ.m [204, 0] = some (.row g 3 [[iv a2]])) ∧ (∃ g, σ.m [205, 0] = some (.row g 3 [[iv 0], [iv 0]])) ∧ ∃ g, σ.m [209, 0] = some (.row g 3 [[iv ((R : Int) - 1)], [iv (-1)]])) ∧ σ.s 27 = iv 291 ∧ σ.s 29 = iv 291) ?_ ?_
          · rcases htb with rfl | rfl <;> simp [GoodAt, BadT, h1, h7, m8, m38, h8, m9, mb, h211, h209, h210, m210, m199, m204, m205, m209, h25, h27, tk, gb1, gb2, g15b, g15c]
          clear h1 h7 m8 m38 h8 m9 g mb h211 h209 h210 ga m210 gb m199 gc m204 gd m205 ge m209 h25 h27 σ
          rintro σ ⟨⟨h1, ⟨h7, m8, _, m38, rfl⟩, ⟨h8, m9, g, mb⟩, h211, h209, h210, ⟨ga, m210⟩, ⟨gb, m199⟩, ⟨gc, m204⟩, ⟨gd, m205⟩, ge, m209⟩, h27, h29⟩
          rcases htb with rfl | rfl <;> simp [GoodAt, BadT, h1, h7, m8, m38, h8, m9, mb, h211, h209, h210, m210, m199, m204, m205, m209, h27, h29]
        · refine wwp_cut (fun σ => (σ.s 1 = iv n ∧ GoodAt T R RM none σ ∧ BadT T bt br tb bl σ ∧ σ.s 211 = iv (3 : Nat) ∧ σ.s 209 = .sl [210, 0] 1 0 4 none ∧ σ.s 210 = iv 4 ∧ (∃ g, σ.m [210, 0] = some (.row g 34 [[.sl [199, 0] 1 0 1 none], [.sl [204, 0] 1 0 1 none], [.sl [205, 0] 1 0 2 none], [.sl [209, 0] 1 0 2 none]])) ∧ (∃ g, σ.m [199, 0] = some (.row g 3 [[iv a1]])) ∧ (∃ g, σ.m [204, 0] = some (.row g 3 [[iv a2]])) ∧ (∃ g, σ.m [205, 0] = some (.row g 3 [[iv 0], [iv 0]])) ∧ ∃ g, σ.m [209, 0] = some (.row g 3 [[iv ((R : Int) - 1)], [iv (-1)]])) ∧ σ.s 25 = .sl [209, 0] 1 0 2 none) ?_ ?_
          · rcases htb with rfl | rfl <;> simp [GoodAt, BadT, h1, h7, m8, m38, h8, m9, mb, h211, h209, h210, m210, m199, m204, m205, m209]
          clear h1 h7 m8 m38 h8 m9 g mb h211 h209 h210 ga m210 gb m199 gc m204 gd m205 ge m209 σ
          rintro σ ⟨⟨h1, ⟨h7, m8, _, m38, rfl⟩, ⟨h8, m9, g, mb⟩, h211, h209, h210, ⟨ga, m210⟩, ⟨gb, m199⟩, ⟨gc, m204⟩, ⟨gd, m205⟩, ge, m209⟩, h25⟩
          refine wwp_cut (fun σ => (σ.s 1 = iv n ∧ GoodAt T R RM none σ ∧ BadT T bt br tb bl σ ∧ σ.s 211 = iv (3 : Nat) ∧ σ.s 209 = .sl [210, 0] 1 0 4 none ∧ σ.s 210 = iv 4 ∧ (∃ g, σ.m [210, 0] = some (.row g 34 [[.sl [199, 0] 1 0 1 none], [.sl [204, 0] 1 0 1 none], [.sl [205, 0] 1 0 2 none], [.sl [209, 0] 1 0 2 none]])) ∧ (∃ g, σ.m [199, 0] = some (.row g 3 [[iv a1]])) ∧ (∃ g, σ.m [204, 0] = some (.row g 3 [[iv a2]])) ∧ (∃ g, σ.m [205, 0] = some (.row g 3 [[iv 0], [iv 0]])) ∧ ∃ g, σ.m [209, 0] = some (.row g 3 [[iv ((R : Int) - 1)], [iv (-1)]])) ∧ σ.s 25 = .sl [209, 0] 1 0 2 none ∧ σ.s 27 = iv 291) ?_ ?_
          · rcases htb with rfl | rfl <;> simp [GoodAt, BadT, h1, h7, m8, m38, h8, m9, mb, h211, h209, h210, m210, m199, m204, m205, m209, h25, tk, ga1, ga2, g17b, g17c, noMv]
          clear h1 h7 m8 m38 h8 m9 g mb h211 h209 h210 ga m210 gb m199 gc m204 gd m205 ge m209 h25 σ
          rintro σ ⟨⟨h1, ⟨h7, m8, _, m38, rfl⟩, ⟨h8, m9, g, mb⟩, h211, h209, h210, ⟨ga, m210⟩, ⟨gb, m199⟩, ⟨gc, m204⟩, ⟨gd, m205⟩, ge, m209⟩, h25, h27⟩
          refine wwp_cut (fun σ => (σ.s 1 = iv n ∧ GoodAt T R RM none σ ∧ BadT T bt br tb bl σ ∧ σ.s 211 = iv (3 : Nat) ∧ σ.s 209 = .sl [210, 0] 1 0 4 none ∧ σ.s 210 = iv 4 ∧ (∃ g, σ.m [210, 0] = some (.row g 34 [[.sl [199, 0] 1 0 1 none], [.sl [204, 0] 1 0 1 none], [.sl [205, 0] 1 0 2 none], [.sl [209, 0] 1 0 2 none]])) ∧ (∃ g, σ.m [199, 0] = some (.row g 3 [[iv a1]])) ∧ (∃ g, σ.m [204, 0] = some (.row g 3 [[iv a2]])) ∧ (∃ g, σ.m [205, 0] = some (.row g 3 [[iv 0], [iv 0]])) ∧ ∃ g, σ.m [209, 0] = some (.row g 3 [[iv ((R : Int) - 1)], [iv (-1)]])) ∧ σ.s 27 = iv 291 ∧ σ.s 29 = iv 291) ?_ ?_
          · rcases htb with rfl | rfl <;> simp [GoodAt, BadT, h1, h7, m8, m38, h8, m9, mb, h211, h209, h210, m210, m199, m204, m205, m209, h25, h27, tk, gb1, gb2, g15b, g15c]
          clear h1 h7 m8 m38 h8 m9 g mb h211 h209 h210 ga m210 gb m199 gc m204 gd m205 ge m209 h25 h27 σ
          rintro σ ⟨⟨h1, ⟨h7, m8, _, m38, rfl⟩, ⟨h8, m9, g, mb⟩, h211, h209, h210, ⟨ga, m210⟩, ⟨gb, m199⟩, ⟨gc, m204⟩, ⟨gd, m205⟩, ge, m209⟩, h27, h29⟩
          rcases htb with rfl | rfl <;> simp [GoodAt, BadT, h1, h7, m8, m38, h8, m9, mb, h211, h209, h210, m210, m199, m204, m205, m209, h27, h29]
      · clear h1 h7 m8 m38 h8 m9 g mb h211 h209 h210 ga m210 gb m199 gc m204 gd m205 ge m209 σ
        rintro σ ⟨h1, ⟨h7, m8, _, m38, rfl⟩, ⟨h8, m9, g, mb⟩, h211, h209, h210, ⟨ga, m210⟩, ⟨gb, m199⟩, ⟨gc, m204⟩, ⟨gd, m205⟩, ge, m209⟩
        rcases htb with rfl | rfl <;>
        · simp [GoodAt, BadT, h1, h7, m8, m38, h8, m9, mb, h211, h209, h210, m210, m199, m204, m205, m209, hw1]
          exact ⟨⟨k + 1, by omega, rfl⟩, by omega⟩
    · have hkl : k = 4 := by omega
      subst hkl
      refine wwp_off ?_
      rcases htb with rfl | rfl <;> simp [GoodAt, BadT, h1, h7, m8, m38, h8, m9, mb, h211, h209, h210, m210, m199, m204, m205, m209]
  clear h1 h7 m8 m38 h8 m9 g mb k198 k203 k204 k208 k209 σ
  rintro σ ⟨h1, ⟨h7, m8, _, m38, rfl⟩, ⟨h8, m9, g, mb⟩⟩
  have w2 : IntKind.i64.wrap (2 * (T : Int)) = 2 * (T : Int) := wrap_in (by omega) (by omega)
  have w2b : IntKind.i64.wrap (2 * (T : Int) + 1) = 2 * (T : Int) + 1 := wrap_in (by omega) (by omega)
  obtain ⟨a3, ha3⟩ : ∃ a3 : Int, a3 = if 0 < n then 0 else n := ⟨_, rfl⟩
  obtain ⟨a4, ha4⟩ : ∃ a4 : Int, a4 = if n < 2 * (T : Int) + 1 then 2 * (T : Int) + 1 else n := ⟨_, rfl⟩
  have gc1 := g25 a3 1 (.inl (by rw [ha3]; split <;> omega))
  have gc2 := g25 1 a4 (.inr (.inl (by rw [ha4]; split <;> omega)))
  have gc3 := g25 2 2 (.inr (.inr rfl))
  have m65 : (65 : Int) ≤ (maxMade : Int) := by have := maxMade_le (n := 65) (by omega); omega
  simp only [List.reduceReplicate] at g15d
  refine wwp_cut (fun σ => σ.s 1 = iv n ∧ GoodAt T R RM none σ ∧ BadT T bt br tb bl σ ∧ σ.s 11 = iv 2) ?_ ?_
  · rcases htb with rfl | rfl <;> simp [GoodAt, BadT, h1, h7, m8, m38, h8, m9, mb, tk, gc1, ← ha3]
  clear h1 h7 m8 m38 h8 m9 g mb  σ
  rintro σ ⟨h1, ⟨h7, m8, _, m38, rfl⟩, ⟨h8, m9, g, mb⟩, h11⟩
  refine wwp_cut (fun σ => σ.s 1 = iv n ∧ GoodAt T R RM none σ ∧ BadT T bt br tb bl σ ∧ σ.s 11 = iv 2 ∧ σ.s 13 = iv 2) ?_ ?_
  · rcases htb with rfl | rfl <;> simp [GoodAt, BadT, h1, h7, m8, m38, h8, m9, mb, h11, tk, w2, w2b, gc2, ← ha4]
  clear h1 h7 m8 m38 h8 m9 g mb h11 σ
  rintro σ ⟨h1, ⟨h7, m8, _, m38, rfl⟩, ⟨h8, m9, g, mb⟩, h11, h13⟩
  refine wwp_cut (fun σ => σ.s 1 = iv n ∧ GoodAt T R RM none σ ∧ BadT T bt br tb bl σ ∧ σ.s 11 = iv 2 ∧ σ.s 13 = iv 2 ∧ σ.s 15 = iv 2) ?_ ?_
  · rcases htb with rfl | rfl <;> simp [GoodAt, BadT, h1, h7, m8, m38, h8, m9, mb, h11, h13, tk, gc3]
  clear h1 h7 m8 m38 h8 m9 g mb h11 h13 σ
  rintro σ ⟨h1, ⟨h7, m8, _, m38, rfl⟩, ⟨h8, m9, g, mb⟩, h11, h13, h15⟩
  refine wwp_cut (fun σ => σ.s 1 = iv n ∧ GoodAt T R RM none σ ∧ BadT T bt br tb bl σ ∧ σ.s 11 = iv 2 ∧ σ.s 13 = iv 2 ∧ σ.s 15 = iv 2 ∧ σ.s 17 = iv 5) ?_ ?_
  · rcases htb with rfl | rfl <;> simp [GoodAt, BadT, h1, h7, m8, m38, h8, m9, mb, h11, h13, h15, tk, m65, g15d]
  clear h1 h7 m8 m38 h8 m9 g mb h11 h13 h15 σ
  rintro σ ⟨h1, ⟨h7, m8, _, m38, rfl⟩, ⟨h8, m9, g, mb⟩, h11, h13, h15, h17⟩
  rcases htb with rfl | rfl <;> simp [GoodAt, BadT, h1, h7, m8, m38, h8, m9, mb, h11, h13, h15, h17, tk, tkb, b27, g27]
end Go.Proofs.Ytpmgaaalfdjikaa
namespace Go.Proofs.Ytpmgaaalfdjikaa
open Go.RowKit Go.ChangeShapes Go.WideShapes Go.ChangeAt
set_option linter.unusedSimpArgs false
set_option linter.unusedVariables false
set_option linter.constructorNameAsVariable false

def lastOK (T R : Nat) : Bool := match (mitM T R).rows[R * T - 1]?, (mitM T R).rows[R * T - 2]? with
  | some x1, some x2 => decide (x2.r = x1.r ∧ 0 < x2.ew ∧ 0 < x1.ns)
  | _, _ => false
theorem mit_last : ∀ T, T < 7 → ∀ R, R < 7 → 2 ≤ T → 1 ≤ R → lastOK T R = true := by decide +kernel
theorem mit_great : ∀ T, T < 7 → ∀ R, R < 7 → 2 ≤ T → 1 ≤ R → great (mitM T R).rows ≤ 2 * T := by decide +kernel
theorem S24_at (l : List Row) (hne : l ≠ []) (h : l.length ≤ 1000000) : S24 [.list (rowsL l)] = some (.sl [] 5 0 l.length none, rowMem 53 (rowsL l)) := by
  have e : l.isEmpty = false := by cases l with | nil => exact absurd rfl hne | cons => rfl
  rw [S24, asRows_rowsL, Option.bind_some, if_pos h, e]
  rfl
theorem turnR_e {m : Mv} {L : List Int} {e : Int} (h : turnE m L = e) (h0 : e ≠ 0) : turnR m L = (.tup [.agg noMv, iv e], noMem) := by
  unfold turnR
  rw [h, if_neg h0]
theorem bestR_e {m : Mv} {Ls : List (List Int)} {e : Int} (h : bestE m Ls = e) (h0 : e ≠ 0) : bestR m Ls = (0, e) := by
  unfold bestR
  rw [h, if_neg h0]
theorem no_list1 {r a : Int} (h : a < 0 ∨ r ≤ a) : listOK r (-1) [a] = false := by
  simp only [listOK, Bool.and_true]
  rcases h with h | h
  · rw [decide_eq_false (by omega)]; rfl
  · rw [decide_eq_false (p := a < r) (by omega), Bool.and_false]
theorem no_list2 {r : Int} : listOK r (-1) [0, 0] = false := by
  simp [listOK]
theorem no_list3 {r : Int} (h : 0 < r) : listOK r (-1) [r - 1, -1] = false := by
  simp [listOK]; omega
theorem sound8 : Sound Try.prog (mkEnv [(12, S12), (15, S15), (18, S18), (25, S25), (27, S27)] [(13, S13), (17, S17), (20, S20), (24, S24), (26, S26)] []) := sound_mk (by simp [s12, s15, s18, s25, s27]) (by simp [s13, s17, s20, s24, s26]) (by simp)
theorem c8 (x : Sk) (hx : x.ok) (n : Int) (way : Nat) (hway : way < 256) : VCp Try.prog 8 [.agg x.cells, iv n, .v (.int .u8 way)] (bv true) := by
  obtain ⟨a1, a2, a3, a4⟩ := x.range
  obtain ⟨y, hy⟩ : ∃ y : Sk, y = ⟨x.t, x.r, []⟩ := ⟨_, rfl⟩
  have hyo : y.ok := by rw [hy]; exact ⟨hx.1, hx.2.1, by simp, by simp⟩
  have yT : y.T = x.T := by rw [hy]; rfl
  have yR : y.R = x.R := by rw [hy]; rfl
  have h13 := S13_at hyo
  have ysl : y.sl = ⟨(mitM x.T x.R).rows, x.R * x.T, none⟩ := by rw [hy]; rfl
  rw [yT, yR, ysl] at h13
  have hT7 : x.T < 7 := by omega
  have hR7 : x.R < 7 := by omega
  have hfit := mit_fit x.T hT7 x.R hR7 (by omega) (by omega) (by omega)
  have hgr := mit_great x.T hT7 x.R hR7 (by omega) (by omega)
  have hla := mit_last x.T hT7 x.R hR7 (by omega) (by omega)
  have hlen : (mitM x.T x.R).rows.length = x.R * x.T := by
    have := part_len (mitRow x.T) x.T x.R 0
    simp only [mitM]; omega
  have hmv : mitM x.T x.R = ⟨x.T, x.R, x.T, 1, 2, (mitM x.T x.R).rows⟩ := rfl
  obtain ⟨RM, hRM⟩ : ∃ RM, RM = (mitM x.T x.R).rows := ⟨_, rfl⟩
  rw [hmv] at hfit
  simp only [lastOK] at hla
  rw [← hRM] at h13 hfit hgr hla hlen
  have hp : 2 ≤ x.R * x.T := by have : 1 * 2 ≤ x.R * x.T := Nat.mul_le_mul (by omega) (by omega); omega
  have h36 : x.R * x.T ≤ 36 := by have : x.R * x.T ≤ 6 * 6 := Nat.mul_le_mul (by omega) (by omega); omega
  split at hla
  · rename_i x1 x2 e1 e2
    obtain ⟨f1, f2, f3⟩ := of_decide_eq_true hla
    have hne : RM ≠ [] := fun h => by rw [h] at hlen; simp at hlen; omega
    rw [← hlen] at h13
    have b17 : ∀ (bt br : Int) (bl : List Row), fitB ⟨bt, br, x.T, 1, 2, bl⟩ = false → turnE ⟨bt, br, x.T, 1, 2, bl⟩ [] = 290 := fun bt br bl h => by unfold turnE; rw [if_neg (by rw [h]; simp)]
    have b20 : ∀ (bt br : Int) (bl : List Row), fitB ⟨bt, br, x.T, 1, 2, bl⟩ = false → lastE ⟨bt, br, x.T, 1, 2, bl⟩ 0 = 290 := fun bt br bl h => by unfold lastE; rw [if_neg (by rw [h]; simp)]
    have g17 : ∀ L, listOK x.R (-1) L = false → L.length ≤ 1000000 → S17 [.agg [iv x.T, iv x.R, iv x.T, iv 1, iv 2, .list (rowsL RM)], .list (ints L)] = some (.tup [.agg noMv, iv 291], noMem) := fun L h hl => by
      have e := S17_at ⟨x.T, x.R, x.T, 1, 2, RM⟩ L hl
      rw [turnR_e (e := 291) (by unfold turnE; rw [if_pos hfit, if_neg (by rw [h]; simp)]) (by decide)] at e
      exact e
    have g15 : ∀ L, listOK x.R (-1) L = false → L.length ≤ 1000000 → S15 [.agg [iv x.T, iv x.R, iv x.T, iv 1, iv 2, .list (rowsL RM)], .list (lists [[], L])] = some (.tup [iv 0, iv 291]) := fun L h hl => by
      have e := S15_at ⟨x.T, x.R, x.T, 1, 2, RM⟩ [[], L] (by simp) (by intro M hM; simp at hM; rcases hM with rfl | rfl; exact Nat.zero_le _; exact hl)
      rw [bestR_e (e := 291) (by unfold bestE; rw [if_pos hfit, if_neg (by simp), if_neg (by simp), if_neg (by simp [h])]) (by decide)] at e
      exact e
    refine wcontract_p sound8 mixed is8 (by rw [nt8]; simp) (c8w S12 S15 S18 S25 S27 S13 S17 S20 S24 S26 x x.T x.R (x.R * x.T - 2) RM n way x1 x2 ⟨by omega, by omega⟩ ⟨by omega, by omega⟩ (by omega) hlen (by omega) (by rw [show x.R * x.T - 2 + 1 = x.R * x.T - 1 by omega]; exact e1) e2 f1 f2 f3
      rfl ?_ (S24_at RM hne (by omega)) ?_ ?_ ?_ ?_ ?_ ?_ ?_ ?_ ?_ ?_ ?_ ?_ ?_ ?_ ?_ ?_) rfl
    · have hc : y.cells = [.v (.int .u8 x.t), .v (.int .u8 x.r), .list []] := by rw [hy]; rfl
      rw [hc] at h13
      exact h13
    · intro bt br bl hl h
      have e := S17_at ⟨bt, br, x.T, 1, 2, bl⟩ [] (by simp)
      rw [turnR_e (b17 bt br bl h) (by decide)] at e
      exact e
    · intro bt br bl hl h
      have e := S20_at ⟨bt, br, x.T, 1, 2, bl⟩ 0
      unfold lastR at e
      rw [b20 bt br bl h, if_neg (by decide)] at e
      exact e
    · intro bt br bl hl h
      have e := S25_at ⟨bt, br, x.T, 1, 2, bl⟩ 1 2
      unfold contestR at e
      rw [if_neg (by rw [h]; simp)] at e
      exact e
    · intro bt br bl hl h
      have e := S26_at ⟨bt, br, x.T, 1, 2, bl⟩
      unfold tableR at e
      rw [if_neg (by rw [h]; simp)] at e
      exact e
    · intro bt br bl hl h
      have e := S18_at ⟨bt, br, x.T, 1, 2, bl⟩
      unfold unbR at e
      rw [if_neg (by rw [h]; simp)] at e
      exact e
    · intro bt br bl hl h
      have e := S15_at ⟨bt, br, x.T, 1, 2, bl⟩ [] (by simp) (by simp)
      rw [bestR_e (e := 290) (by unfold bestE; rw [if_neg (by rw [h]; simp)]) (by decide)] at e
      exact e
    · intro bt br bl hl h
      have e := S27_at ⟨bt, br, x.T, 1, 2, bl⟩
      rw [h] at e
      exact e
    · intro a ha
      exact g17 [a] (no_list1 ha) (by simp)
    · exact g17 [0, 0] no_list2 (by simp)
    · exact g17 [(x.R : Int) - 1, -1] (no_list3 (by omega)) (by simp)
    · intro a ha
      exact g15 [a] (no_list1 ha) (by simp)
    · exact g15 [0, 0] no_list2 (by simp)
    · exact g15 [(x.R : Int) - 1, -1] (no_list3 (by omega)) (by simp)
    · intro p q h
      have e := S25_at ⟨x.T, x.R, x.T, 1, 2, RM⟩ p q
      unfold contestR at e
      rw [if_pos hfit, if_pos (by simp only; omega)] at e
      exact e
    · have e := S15_at ⟨x.T, x.R, x.T, 1, 2, RM⟩ (List.replicate 65 []) (by rw [List.length_replicate]; omega) (by intro M hM; rw [List.eq_of_mem_replicate hM]; simp)
      rw [bestR_e (e := 5) (by unfold bestE; rw [if_pos hfit, List.length_replicate, if_pos (by omega)]) (by decide)] at e
      exact e
    · have e := S27_at ⟨x.T, x.R, x.T, 1, 2, RM⟩
      rw [hfit] at e
      exact e
  · exact absurd hla (by simp)

theorem argU8 {d : D} (h : ArgTy Try.prog 4 5 d) : ∃ n : Nat, n < 256 ∧ d = .v (.int .u8 n) := by
  simp only [ArgTy, HasTy, Try.underlying5] at h
  obtain ⟨z, h1, h2⟩ := h
  simp only [List.cons.injEq, and_true] at h1
  obtain ⟨c1, c2⟩ := wf_u8 h2
  exact ⟨z.toNat, by omega, by rw [h1, Int.toNat_of_nonneg c1]⟩
theorem params8L : Try.f8.params.toList = [30, 3, 5] := by rw [Try.params8]
set_option maxRecDepth 100000 in
theorem wrong_args (Ds : List D) (h : ArgsTy Try.prog 4 Try.f8.params.toList Ds) : VCp Try.prog 8 Ds (bv true) := by
  rw [params8L] at h
  obtain ⟨d0, r0, rfl, h0, h⟩ := argsTy_cons h
  obtain ⟨d1, r1, rfl, h1, h⟩ := argsTy_cons h
  obtain ⟨d2, r2, rfl, h2, h⟩ := argsTy_cons h
  obtain rfl := argsTy_nil h
  obtain ⟨x, hx, rfl⟩ := argSk h0
  obtain ⟨z, rfl, _⟩ := argI h1
  obtain ⟨a, ha, rfl⟩ := argU8 h2
  exact c8 x hx z a ha
theorem wrong_spec {H : Type} (ds : List (DataW H)) (hl : ds.length = Try.f8.params.size) : Rows.turnWrongSpec.fn H ds = { results := [.lit (.bool true)], args := ds } := by
  rw [Try.params8] at hl
  match ds, hl with
  | [a, b, c], _ => rfl
theorem wrong_tys : ∀ t ∈ Try.f8.params.toList, TyOK t := by
  rw [params8L]
  simp [tyOK30, tyOK3, tyOK5]
set_option maxRecDepth 100000 in
theorem wrong_lifted (os : Os) (started : os.Started) (H : Type) (enc : TypeId × Value → H) :
    ReturnsInHanded {} Try.checked os 8 .any (Rows.turnWrongSpec.pre6 enc Try.prog Try.f8 Rows.turnWrongRow.domain false) (Rows.turnWrongSpec.post enc Try.prog Try.f8 false true false false) := by
  refine returnsInHanded_of_change (C := Try.checked) own started (by kernel_rfl) Try.func8
    (ChangeSpec.witness6 (enc := enc) (C := Try.checked) false ⟨#[], #[.agg #[.int .u8 0, .int .u8 0, .slice none 0 0], .int .i64 0, .int .u8 0], []⟩ 8 (by kernel_rfl) (by kernel_rfl) (by kernel_rfl) (by kernel_rfl)) ?_
  intro W base args ds gs before hval hW _ _
  exact law_contract (P := Try.prog) (fn := Try.f8) (s := Rows.turnWrongSpec) (n := 4) (tb := 4) laidOut rfl wrong_spec (by kernel_rfl) Try.underlying4 wrong_tys wrong_args W base args ds gs before hval hW
/-- The statement. -/
theorem turnWrong_holds : Rows.TurnWrongSaid :=
  OpenClaim.holds_of_wide 8 Try.f8 rfl rfl rfl rfl rfl rfl rfl ⟨rfl, rfl, rfl, rfl, rfl⟩ rfl rfl rfl rfl rfl (by kernel_rfl) Try.func8 (by kernel_rfl)
    (of_decide_eq_true (by kernel_rfl)) (by unfold Func.isWrapper; first | (rw [if_pos (by decide +kernel)]; kernel_rfl) | (rw [if_neg (by decide +kernel)]; exact ⟨rfl, rfl⟩))
    (fun os started H enc _ => wrong_lifted os started H enc)
end Go.Proofs.Ytpmgaaalfdjikaa
namespace Go.Proofs.Ytpmgaaalfdjikaa
open Go.RowKit
set_option linter.unusedSimpArgs false
set_option linter.unusedVariables false

def W68 : WC × List VRes := ((.seq (.reg [(.stm (.eff (.box 2 (.t 0)) none)), (.set [(4, (.c (.v (.bool false))))] [4])]) (.seq (.reg [(.set [(4, (.ite (.ap (.ibin .eql) [(.ap (.load 1 false) [(.ap (.fld 2) [(.t 2)])]), (.t 1)]) (.c (.v (.bool true))) (.ap (.ibin .eql) [(.ap (.load 1 false) [(.ap (.fld 3) [(.t 2)])]), (.t 1)])))] [5, 6, 7, 8, 9, 10, 11, 12, 13, 14, 4])]) .ret)), [(.t 4)])
theorem is68 : IsFn Try.prog frOf 68 Try.f68 W68 := ⟨by kernel_rfl, by kernel_rfl, by kernel_rfl⟩
theorem nt68 : Try.f68.ntmps = 15 := by kernel_rfl
def W76 : WC × List VRes := ((.seq (.reg [(.stm (.eff (.box 2 (.t 0)) none)), (.set [(4, (.c (.v (.bool false))))] [4])]) (.seq (.reg [(.set [(4, (.ite (.ite (.ap (.ibin .gtr) [(.ap (.load 1 false) [(.ap (.fld 2) [(.t 2)])]), (.c (.v (.int .i64 0)))]) (.ap (.ibin .gtr) [(.ap (.load 1 false) [(.ap (.fld 3) [(.t 2)])]), (.c (.v (.int .i64 0)))]) (.c (.v (.bool false)))) (.ap (.ibin .eql) [(.ap (.load 1 false) [(.ap (.fld 4) [(.t 2)])]), (.t 1)]) (.c (.v (.bool false)))))] [5, 6, 7, 8, 9, 10, 11, 12, 13, 14, 15, 16, 17, 18, 4])]) .ret)), [(.t 4)])
theorem is76 : IsFn Try.prog frOf 76 Try.f76 W76 := ⟨by kernel_rfl, by kernel_rfl, by kernel_rfl⟩
theorem nt76 : Try.f76.ntmps = 19 := by kernel_rfl
def W49 : WC × List VRes := ((.seq (.reg [(.stm (.eff (.box 1 (.t 0)) none)), (.set [(2, (.c (.v (.bool false))))] [2])]) (.seq (.seq (.reg [(.set [(35, (.ite (.ite (.ite (.ite (.ap (.ibin .lss) [(.ap (.load 1 false) [(.ap (.fld 0) [(.t 1)])]), (.c (.v (.int .i64 1)))]) (.c (.v (.bool true))) (.ap (.ibin .gtr) [(.ap (.load 1 false) [(.ap (.fld 0) [(.t 1)])]), (.c (.v (.int .i64 24)))])) (.c (.v (.bool true))) (.ap (.ibin .lss) [(.ap (.load 1 false) [(.ap (.fld 1) [(.t 1)])]), (.c (.v (.int .i64 1)))])) (.c (.v (.bool true))) (.ap (.ibin .gtr) [(.ap (.load 1 false) [(.ap (.fld 1) [(.t 1)])]), (.c (.v (.int .i64 47)))])) (.c (.v (.bool true))) (.ap (.ibin .gtr) [(.ap .llen [(.ap (.load 1 false) [(.ap (.fld 5) [(.t 1)])])]), (.ap (.ibin .mul) [(.ap (.load 1 false) [(.ap (.fld 0) [(.t 1)])]), (.ap (.load 1 false) [(.ap (.fld 1) [(.t 1)])])])])))] [7, 8, 9, 10, 11, 12, 13, 14, 15, 16, 17, 18, 19, 20, 21, 22, 23, 24, 25, 26, 27, 28, 29, 30, 31, 32, 33, 34, 35])]) (.cond (.t 35) (.seq (.reg [(.set [(2, (.c (.v (.bool false))))] [2])]) .ret) .skip)) (.seq (.seq (.reg [(.set [(3, (.c (.v (.int .i64 0))))] [3])]) (.block 0 (.loop (.seq (.seq (.reg [(.set [(40, (.ap (.ibin .lss) [(.t 3), (.ap .llen [(.ap (.load 1 false) [(.ap (.fld 5) [(.t 1)])])])]))] [36, 37, 38, 39, 40])]) (.cond (.t 40) .skip (.exit 0))) (.seq (.block 1 (.seq (.reg [(.set [(47, (.ap (.load 5 true) [(.ap (.idx 53 5) [(.ap (.load 1 false) [(.ap (.fld 5) [(.t 1)])]), (.t 3)])]))] [43, 44, 45, 46, 47]), (.stm (.eff (.box 4 (.c (.agg [(.v (.int .i64 0)), (.v (.int .i64 0)), (.v (.int .i64 0)), (.v (.int .i64 0)), (.v (.int .i64 0))]))) none)), (.stm (.eff (.store 5 (.t 4) (.t 47)) none))]) (.seq (.seq (.reg [(.set [(113, (.ite (.ite (.ite (.ite (.ite (.ite (.ite (.ite (.ite (.ite (.ap (.ibin .lss) [(.ap (.load 1 false) [(.ap (.fld 0) [(.t 4)])]), (.c (.v (.int .i64 0)))]) (.c (.v (.bool true))) (.ap (.ibin .geq) [(.ap (.load 1 false) [(.ap (.fld 0) [(.t 4)])]), (.ap (.load 1 false) [(.ap (.fld 1) [(.t 1)])])])) (.c (.v (.bool true))) (.ap (.ibin .lss) [(.ap (.load 1 false) [(.ap (.fld 1) [(.t 4)])]), (.c (.v (.int .i64 0)))])) (.c (.v (.bool true))) (.ap (.ibin .geq) [(.ap (.load 1 false) [(.ap (.fld 1) [(.t 4)])]), (.ap (.load 1 false) [(.ap (.fld 0) [(.t 1)])])])) (.c (.v (.bool true))) (.ap (.ibin .lss) [(.ap (.load 1 false) [(.ap (.fld 4) [(.t 4)])]), (.c (.v (.int .i64 0)))])) (.c (.v (.bool true))) (.ap (.ibin .geq) [(.ap (.load 1 false) [(.ap (.fld 4) [(.t 4)])]), (.ap (.load 1 false) [(.ap (.fld 2) [(.t 1)])])])) (.c (.v (.bool true))) (.ap (.ibin .lss) [(.ap (.load 1 false) [(.ap (.fld 2) [(.t 4)])]), (.c (.v (.int .i64 0)))])) (.c (.v (.bool true))) (.ap (.ibin .gtr) [(.ap (.load 1 false) [(.ap (.fld 2) [(.t 4)])]), (.c (.v (.int .i64 49)))])) (.c (.v (.bool true))) (.ap (.ibin .lss) [(.ap (.load 1 false) [(.ap (.fld 3) [(.t 4)])]), (.c (.v (.int .i64 0)))])) (.c (.v (.bool true))) (.ap (.ibin .gtr) [(.ap (.load 1 false) [(.ap (.fld 3) [(.t 4)])]), (.c (.v (.int .i64 49)))])) (.c (.v (.bool true))) (.ite (.ap (.ibin .eql) [(.ap (.load 1 false) [(.ap (.fld 2) [(.t 4)])]), (.ap (.load 1 false) [(.ap (.fld 3) [(.t 4)])])]) (.ap (.ibin .gtr) [(.ap (.load 1 false) [(.ap (.fld 2) [(.t 4)])]), (.c (.v (.int .i64 0)))]) (.c (.v (.bool false))))))] [48, 49, 50, 51, 52, 53, 54, 55, 56, 57, 58, 59, 60, 61, 62, 63, 64, 65, 66, 67, 68, 69, 70, 71, 72, 73, 74, 75, 76, 77, 78, 79, 80, 81, 82, 83, 84, 85, 86, 87, 88, 89, 90, 91, 92, 93, 94, 95, 96, 97, 98, 99, 100, 101, 102, 103, 104, 105, 106, 107, 108, 109, 110, 111, 112, 113])]) (.cond (.t 113) (.seq (.reg [(.set [(2, (.c (.v (.bool false))))] [2])]) .ret) .skip)) (.seq (.reg [(.set [(5, (.c (.v (.int .i64 0))))] [5])]) (.block 2 (.loop (.seq (.seq (.reg [(.set [(116, (.ap (.ibin .lss) [(.t 5), (.t 3)]))] [114, 115, 116])]) (.cond (.t 116) .skip (.exit 2))) (.seq (.block 3 (.seq (.reg [(.set [(123, (.ap (.load 5 true) [(.ap (.idx 53 5) [(.ap (.load 1 false) [(.ap (.fld 5) [(.t 1)])]), (.t 5)])]))] [119, 120, 121, 122, 123]), (.stm (.eff (.box 6 (.c (.agg [(.v (.int .i64 0)), (.v (.int .i64 0)), (.v (.int .i64 0)), (.v (.int .i64 0)), (.v (.int .i64 0))]))) none)), (.stm (.eff (.store 5 (.t 6) (.t 123)) none))]) (.seq (.reg [(.set [(157, (.ite (.ap (.ibin .eql) [(.ap (.load 1 false) [(.ap (.fld 0) [(.t 6)])]), (.ap (.load 1 false) [(.ap (.fld 0) [(.t 4)])])]) (.ite (.ite (.ap (.ibin .eql) [(.ap (.load 1 false) [(.ap (.fld 1) [(.t 6)])]), (.ap (.load 1 false) [(.ap (.fld 1) [(.t 4)])])]) (.c (.v (.bool true))) (.ite (.ap (.ibin .gtr) [(.ap (.load 1 false) [(.ap (.fld 2) [(.t 6)])]), (.c (.v (.int .i64 0)))]) (.ap (.call 68) [(.ap (.load 5 true) [(.t 4)]), (.ap (.load 1 false) [(.ap (.fld 2) [(.t 6)])])]) (.c (.v (.bool false))))) (.c (.v (.bool true))) (.ite (.ap (.ibin .gtr) [(.ap (.load 1 false) [(.ap (.fld 3) [(.t 6)])]), (.c (.v (.int .i64 0)))]) (.ap (.call 68) [(.ap (.load 5 true) [(.t 4)]), (.ap (.load 1 false) [(.ap (.fld 3) [(.t 6)])])]) (.c (.v (.bool false))))) (.c (.v (.bool false)))))] [124, 125, 126, 127, 128, 129, 130, 131, 132, 133, 134, 135, 136, 137, 138, 139, 140, 141, 142, 143, 144, 145, 146, 147, 148, 149, 150, 151, 152, 153, 154, 155, 156, 157])]) (.cond (.t 157) (.seq (.reg [(.set [(2, (.c (.v (.bool false))))] [2])]) .ret) .skip)))) (.reg [(.set [(5, (.ap (.ibin .add) [(.t 5), (.c (.v (.int .i64 1)))]))] [117, 118, 5])]))))))))) (.reg [(.set [(3, (.ap (.ibin .add) [(.t 3), (.c (.v (.int .i64 1)))]))] [41, 42, 3])])))))) (.seq (.reg [(.set [(2, (.c (.v (.bool true))))] [2])]) .ret)))), [(.t 2)])
theorem is49 : IsFn Try.prog frOf 49 Try.f49 W49 := ⟨by kernel_rfl, by kernel_rfl, by kernel_rfl⟩
theorem nt49 : Try.f49.ntmps = 158 := by kernel_rfl
def W60 : WC × List VRes := ((.seq (.reg [(.stm (.eff (.box 2 (.t 0)) none)), (.set [(4, (.c (.v (.bool false))))] [4])]) (.seq (.seq (.reg [(.set [(5, (.c (.v (.int .i64 0))))] [5])]) (.block 0 (.loop (.seq (.seq (.reg [(.set [(9, (.ap (.ibin .lss) [(.t 5), (.ap .llen [(.t 1)])]))] [6, 7, 8, 9])]) (.cond (.t 9) .skip (.exit 0))) (.seq (.block 1 (.seq (.reg [(.set [(41, (.ite (.ite (.ap (.ibin .lss) [(.ap (.load 1 false) [(.ap (.idx 3 1) [(.t 1), (.t 5)])]), (.c (.v (.int .i64 0)))]) (.c (.v (.bool true))) (.ap (.ibin .geq) [(.ap (.load 1 false) [(.ap (.idx 3 1) [(.t 1), (.t 5)])]), (.ap (.load 1 false) [(.ap (.fld 1) [(.t 2)])])])) (.c (.v (.bool true))) (.ite (.ap (.ibin .gtr) [(.t 5), (.c (.v (.int .i64 0)))]) (.ap (.ibin .leq) [(.ap (.load 1 false) [(.ap (.idx 3 1) [(.t 1), (.t 5)])]), (.ap (.load 1 false) [(.ap (.idx 3 1) [(.t 1), (.ap (.ibin .sub) [(.t 5), (.c (.v (.int .i64 1)))])])])]) (.c (.v (.bool false))))))] [12, 13, 14, 15, 16, 17, 18, 19, 20, 21, 22, 23, 24, 25, 26, 27, 28, 29, 30, 31, 32, 33, 34, 35, 36, 37, 38, 39, 40, 41])]) (.cond (.t 41) (.seq (.reg [(.set [(4, (.c (.v (.bool false))))] [4])]) .ret) .skip))) (.reg [(.set [(5, (.ap (.ibin .add) [(.t 5), (.c (.v (.int .i64 1)))]))] [10, 11, 5])])))))) (.seq (.reg [(.set [(4, (.c (.v (.bool true))))] [4])]) .ret))), [(.t 4)])
theorem is60 : IsFn Try.prog frOf 60 Try.f60 W60 := ⟨by kernel_rfl, by kernel_rfl, by kernel_rfl⟩
theorem nt60 : Try.f60.ntmps = 42 := by kernel_rfl
def W65 : WC × List VRes := ((.seq (.reg [(.stm (.eff (.box 1 (.t 0)) none)), (.set [(2, (.c (.v (.int .i64 0))))] [2])]) (.seq (.reg [(.set [(3, (.c (.v (.int .i64 0))))] [3])]) (.seq (.seq (.reg [(.set [(4, (.c (.v (.int .i64 0))))] [4])]) (.block 0 (.loop (.seq (.seq (.reg [(.set [(9, (.ap (.ibin .lss) [(.t 4), (.ap .llen [(.ap (.load 1 false) [(.ap (.fld 5) [(.t 1)])])])]))] [5, 6, 7, 8, 9])]) (.cond (.t 9) .skip (.exit 0))) (.seq (.block 1 (.seq (.seq (.reg [(.set [(19, (.ap (.ibin .gtr) [(.ap (.load 1 false) [(.ap (.fld 2) [(.ap (.idx 53 5) [(.ap (.load 1 false) [(.ap (.fld 5) [(.t 1)])]), (.t 4)])])]), (.t 3)]))] [12, 13, 14, 15, 16, 17, 18, 19])]) (.cond (.t 19) (.reg [(.set [(3, (.ap (.load 1 false) [(.ap (.fld 2) [(.ap (.idx 53 5) [(.ap (.load 1 false) [(.ap (.fld 5) [(.t 1)])]), (.t 4)])])]))] [20, 21, 22, 23, 24, 25, 3])]) .skip)) (.seq (.reg [(.set [(33, (.ap (.ibin .gtr) [(.ap (.load 1 false) [(.ap (.fld 3) [(.ap (.idx 53 5) [(.ap (.load 1 false) [(.ap (.fld 5) [(.t 1)])]), (.t 4)])])]), (.t 3)]))] [26, 27, 28, 29, 30, 31, 32, 33])]) (.cond (.t 33) (.reg [(.set [(3, (.ap (.load 1 false) [(.ap (.fld 3) [(.ap (.idx 53 5) [(.ap (.load 1 false) [(.ap (.fld 5) [(.t 1)])]), (.t 4)])])]))] [34, 35, 36, 37, 38, 39, 3])]) .skip)))) (.reg [(.set [(4, (.ap (.ibin .add) [(.t 4), (.c (.v (.int .i64 1)))]))] [10, 11, 4])])))))) (.seq (.reg [(.set [(2, (.t 3))] [40, 2])]) .ret)))), [(.t 2)])
theorem is65 : IsFn Try.prog frOf 65 Try.f65 W65 := ⟨by kernel_rfl, by kernel_rfl, by kernel_rfl⟩
theorem nt65 : Try.f65.ntmps = 41 := by kernel_rfl


def S68 : List D → Option D
  | [.agg [.v (.int .i64 _), .v (.int .i64 _), .v (.int .i64 a), .v (.int .i64 b), .v (.int .i64 _)], .v (.int .i64 p)] => some (bv (a == p || b == p))
  | _ => none
theorem c68 (r t a b s p : Int) : VCp Try.prog 68 [.agg [iv r, iv t, iv a, iv b, iv s], iv p] (bv (a == p || b == p)) := by
  refine wcontract_p sound0 mixed is68 (by rw [nt68]; simp) ?_ rfl
  simp [W68]
theorem s68 : OkP 68 S68 := fun ds d h => by
  unfold S68 at h
  split at h
  · obtain rfl := Option.some.inj h
    exact c68 _ _ _ _ _ _
  · cases h
def playB (a b s q : Int) : Bool := decide (0 < a) && decide (0 < b) && s == q
def S76 : List D → Option D
  | [.agg [.v (.int .i64 _), .v (.int .i64 _), .v (.int .i64 a), .v (.int .i64 b), .v (.int .i64 s)], .v (.int .i64 q)] => some (bv (playB a b s q))
  | _ => none
theorem c76 (r t a b s p : Int) : VCp Try.prog 76 [.agg [iv r, iv t, iv a, iv b, iv s], iv p] (bv (playB a b s p)) := by
  refine wcontract_p sound0 mixed is76 (by rw [nt76]; simp) ?_ rfl
  simp [W76, playB]
theorem s76 : OkP 76 S76 := fun ds d h => by
  unfold S76 at h
  split at h
  · obtain rfl := Option.some.inj h
    exact c76 _ _ _ _ _ _
  · cases h

theorem fit_no_row {m : Mv} {k : Nat} (h : k < m.rows.length) (hr : ¬ rowP m m.rows[k]) : fitB m = false := fit_bad fun hf => hr (hf.2.1 _ (List.getElem_mem h))
theorem fit_no_sep {m : Mv} {j k : Nat} (h : k < m.rows.length) (hj : j < k) (hr : ¬ sep (m.rows[j]'(by omega)) m.rows[k]) : fitB m = false := fit_bad fun hf => hr (List.pairwise_iff_getElem.1 hf.2.2 j k (by omega) h hj)
def MvA (m : Mv) (σ : St) : Prop := σ.s 1 = .ptr [2, 0] 0 ∧ σ.m [2, 0] = some (.box [iv m.t, iv m.r, iv m.s, iv m.c, iv m.w, .list (rowsL m.rows)])
theorem c49w (p68 : FP) (m : Mv) (hl : m.rows.length ≤ 1000000) (h68 : ∀ r t a b s p : Int, p68 [.agg [iv r, iv t, iv a, iv b, iv s], iv p] = some (bv (a == p || b == p))) :
    wwp (mkEnv [(68, p68)] [] []) W49.1 (fun e s => okExit e ∧ resV W49.2 s = some (bv (fitB m))) (initV [.agg m.cells]) := by
  have hbi : (decide (m.t < 1) || decide (24 < m.t) || decide (m.r < 1) || decide (47 < m.r) || decide (IntKind.i64.wrap (m.t * m.r) < ↑m.rows.length)) = false ↔ boundOK m := by
    simp only [Bool.or_eq_false_iff, decide_eq_false_iff_not, boundOK]
    have hw : 1 ≤ m.t → m.t ≤ 24 → 1 ≤ m.r → m.r ≤ 47 → IntKind.i64.wrap (m.t * m.r) = m.t * m.r := fun h1 h2 h3 h4 => by
      have e1 : m.t * m.r ≤ 24 * 47 := Int.mul_le_mul h2 h4 (by omega) (by omega)
      have e2 : 0 ≤ m.t * m.r := Int.mul_nonneg (by omega) (by omega)
      exact wrap_in (by omega) (by omega)
    constructor
    · rintro ⟨⟨⟨⟨a, b⟩, c⟩, d⟩, e⟩
      rw [hw (by omega) (by omega) (by omega) (by omega)] at e
      omega
    · rintro ⟨a, b, c, d, e⟩
      rw [hw a b c d]
      omega
  simp only [W49]
  refine wwp_cutW (wf_init _) (MvA m) (by simp [MvA, Mv.cells, Mv.cellsW]) ?_
  rintro σ W ⟨h1, m2⟩
  by_cases hb : boundOK m
  · have hv := hbi.2 hb
    have hlen : m.rows.length ≤ 1128 := by
      obtain ⟨b1, b2, b3, b4, b5⟩ := id hb
      have e1 : m.t * m.r ≤ 24 * 47 := Int.mul_le_mul b2 b4 (by omega) (by omega)
      omega
    refine wwp_condW W (MvA m) (by simp [MvA, h1, m2, hv]) ?_
    clear W h1 m2 hv σ
    rintro σ W ⟨h1, m2⟩
    refine wwp_cutG (fun σ => fitB m = true) ?_ (fun σ hf => by simp [hf])
    refine wwp_cut (fun σ => MvA m σ ∧ σ.s 3 = iv 0) (by simp [MvA, h1, m2]) ?_
    clear W h1 m2 σ
    rintro σ ⟨hM, h3⟩
    simp only [wwp_block]
    refine wwp_loop (fun σ => ∃ k : Nat, k ≤ m.rows.length ∧ MvA m σ ∧ σ.s 3 = iv k ∧ ∀ i (h : i < m.rows.length), i < k → rowP m m.rows[i] ∧ ∀ j (hj : j < i), sep (m.rows[j]'(by omega)) m.rows[i]) (fun σ => cnt m.rows.length (σ.s 3)) ?_ ?_
    · exact ⟨0, by omega, hM, h3, fun i _ h => absurd h (by omega)⟩
    clear hM h3 σ
    rintro σ hw ⟨k, hk, ⟨h1, m2⟩, h3, hok⟩
    refine wwp_seq_assoc ?_
    by_cases hlt : k < m.rows.length
    · have hw1 := wrap_succ (show k ≤ 1000000000 by omega)
      have hmu : cnt m.rows.length (σ.s 3) = m.rows.length - k := by simp [h3]
      simp only [hmu]
      clear hmu
      obtain ⟨x, hx⟩ : ∃ x, x = m.rows[k] := ⟨_, rfl⟩
      have hcell : (rowsL m.rows)[k]? = some x.cells := by rw [rowsL_at hlt, hx]
      have hnr := fit_no_row hlt
      have hns := fun j hj => fit_no_sep (j := j) hlt hj
      rw [← hx] at hnr
      simp only [← hx] at hns
      refine wwp_on (fun σ => WF σ ∧ MvA m σ ∧ σ.s 3 = iv k) (by simp [MvA, h1, m2, h3, hlt]; exact hw) ?_
      clear hw h1 m2 h3 σ
      rintro σ ⟨hw, ⟨h1, m2⟩, h3⟩
      refine wwp_body (fun σ => MvA m σ ∧ σ.s 3 = iv k ∧ rowP m x ∧ ∀ j (hj : j < k), sep (m.rows[j]'(by omega)) x) ?_ ?_
      · refine wwp_cutW hw (fun σ => MvA m σ ∧ σ.s 3 = iv k ∧ ∃ i, σ.s 4 = .ptr [5, i] 0 ∧ σ.m [5, i] = some (.box x.cells)) (by simp [MvA, h1, m2, h3, hlt, hcell, Row.cells, ← hx]) ?_
        clear hw h1 m2 h3 σ
        rintro σ hw ⟨⟨h1, m2⟩, h3, i, h4, m5⟩
        obtain ⟨B, hB⟩ : ∃ B : Bool, B = (decide (x.r < 0) || decide (m.r ≤ x.r) || decide (x.t < 0) || decide (m.t ≤ x.t) || decide (x.s < 0) || decide (m.s ≤ x.s) || decide (x.ns < 0) || decide (49 < x.ns) || decide (x.ew < 0) || decide (49 < x.ew) || x.ns == x.ew && decide (0 < x.ns)) := ⟨_, rfl⟩
        have hBP : B = false ↔ rowP m x := by
          rw [hB]
          simp only [Bool.or_eq_false_iff, Bool.and_eq_false_iff, decide_eq_false_iff_not, beq_eq_false_iff_ne, rowP, inOK]
          omega
        cases hBv : B with
        | true =>
          have hf := hnr (fun h => by rw [hBP.2 h] at hBv; cases hBv)
          rw [hBv] at hB
          simp [h1, m2, h3, h4, m5, Row.cells, ← hB, hf]
        | false =>
          have hP := hBP.1 hBv
          rw [hBv] at hB
          refine wwp_condW hw (fun σ => MvA m σ ∧ σ.s 3 = iv k ∧ ∃ i, σ.s 4 = .ptr [5, i] 0 ∧ σ.m [5, i] = some (.box x.cells)) (by simp [MvA, h1, m2, h3, h4, m5, Row.cells, ← hB]) ?_
          clear hw h1 m2 h3 i h4 m5 hBP σ
          rintro σ hw ⟨⟨h1, m2⟩, h3, i, h4, m5⟩
          refine wwp_cut (fun σ => MvA m σ ∧ σ.s 3 = iv k ∧ (∃ i, σ.s 4 = .ptr [5, i] 0 ∧ σ.m [5, i] = some (.box x.cells)) ∧ σ.s 5 = iv 0) (by simp [MvA, h1, m2, h3, h4, m5]) ?_
          clear hw h1 m2 h3 i h4 m5 σ
          rintro σ ⟨hM, h3, h4, h5⟩
          simp only [wwp_block]
          refine wwp_loop (fun σ => ∃ j : Nat, j ≤ k ∧ MvA m σ ∧ σ.s 3 = iv k ∧ (∃ i, σ.s 4 = .ptr [5, i] 0 ∧ σ.m [5, i] = some (.box x.cells)) ∧ σ.s 5 = iv j ∧ ∀ l (hl : l < j), l < k → ∀ hl', sep (m.rows[l]'hl') x) (fun σ => cnt k (σ.s 5)) ?_ ?_
          · exact ⟨0, by omega, hM, h3, h4, h5, fun l hl => absurd hl (by omega)⟩
          clear hM h3 h4 h5 σ
          rintro σ hw ⟨j, hj, ⟨h1, m2⟩, h3, ⟨i, h4, m5⟩, h5, hsp⟩
          refine wwp_seq_assoc ?_
          by_cases hjk : j < k
          · have hw2 := wrap_succ (show j ≤ 1000000000 by omega)
            have hmu : cnt k (σ.s 5) = k - j := by simp [h5]
            simp only [hmu]
            clear hmu
            have hjl : j < m.rows.length := by omega
            obtain ⟨y, hy⟩ : ∃ y, y = m.rows[j] := ⟨_, rfl⟩
            have hcj : (rowsL m.rows)[j]? = some y.cells := by rw [rowsL_at hjl, hy]
            have hns := hns j hjk
            rw [← hy] at hns
            refine wwp_on (fun σ => WF σ ∧ MvA m σ ∧ σ.s 3 = iv k ∧ (∃ i, σ.s 4 = .ptr [5, i] 0 ∧ σ.m [5, i] = some (.box x.cells)) ∧ σ.s 5 = iv j) (by simp [MvA, h1, m2, h3, h4, m5, h5, hjk]; exact hw) ?_
            clear hw h1 m2 h3 i h4 m5 h5 σ
            rintro σ ⟨hw, ⟨h1, m2⟩, h3, ⟨i, h4, m5⟩, h5⟩
            refine wwp_body (fun σ => MvA m σ ∧ σ.s 3 = iv k ∧ (∃ i, σ.s 4 = .ptr [5, i] 0 ∧ σ.m [5, i] = some (.box x.cells)) ∧ σ.s 5 = iv j ∧ sep y x) ?_ ?_
            · refine wwp_cut (fun σ => MvA m σ ∧ σ.s 3 = iv k ∧ (∃ i, σ.s 4 = .ptr [5, i] 0 ∧ σ.m [5, i] = some (.box x.cells)) ∧ σ.s 5 = iv j ∧ ∃ i, σ.s 6 = .ptr [7, i] 0 ∧ σ.m [7, i] = some (.box y.cells)) (by simp [MvA, h1, m2, h3, h4, m5, h5, hjl, hcj, Row.cells, ← hy]) ?_
              clear hw h1 m2 h3 i h4 m5 h5 σ
              rintro σ ⟨⟨h1, m2⟩, h3, ⟨i, h4, m5⟩, h5, i', h6, m7⟩
              obtain ⟨C, hC⟩ : ∃ C : Bool, C = (y.r == x.r && (y.t == x.t || decide (0 < y.ns) && (x.ns == y.ns || x.ew == y.ns) || decide (0 < y.ew) && (x.ns == y.ew || x.ew == y.ew))) := ⟨_, rfl⟩
              have hCP : C = false ↔ sep y x := by
                rw [hC]
                simp only [Bool.or_eq_false_iff, Bool.and_eq_false_iff, decide_eq_false_iff_not, beq_eq_false_iff_ne, sep]
                omega
              cases hCv : C with
              | true =>
                have hf := hns (fun h => by rw [hCP.2 h] at hCv; cases hCv)
                rw [hCv] at hC
                simp [h1, m2, h3, h4, m5, h5, h6, m7, Row.cells, h68, ← hC, hf]
              | false =>
                have hS := hCP.1 hCv
                rw [hCv] at hC
                simp [MvA, h1, m2, h3, h4, m5, h5, h6, m7, Row.cells, h68, ← hC, hS]
            · clear hw h1 m2 h3 i h4 m5 h5 σ
              rintro σ ⟨⟨h1, m2⟩, h3, ⟨i, h4, m5⟩, h5, hS⟩
              simp [MvA, h1, m2, h3, h4, m5, h5, hw2]
              refine ⟨⟨j + 1, by omega, by omega, fun l hl1 hl2 hl' => ?_⟩, by omega⟩
              by_cases hlj : l < j
              · exact hsp l hlj hl2 hl'
              · obtain rfl : l = j := by omega
                rw [← hy]; exact hS
          · obtain rfl : j = k := by omega
            refine wwp_off ?_
            simp [MvA, h1, m2, h3, h5, hP]
            exact fun l hl => hsp l hl hl _
      · clear hw h1 m2 h3 σ
        rintro σ ⟨⟨h1, m2⟩, h3, hP, hS⟩
        simp [MvA, h1, m2, h3, hw1]
        refine ⟨⟨k + 1, by omega, rfl, fun i hi hik => ?_⟩, by omega⟩
        by_cases hik' : i < k
        · exact hok i hi hik'
        · obtain rfl : i = k := by omega
          rw [← hx]; exact ⟨hP, hS⟩
    · have hkl : k = m.rows.length := by omega
      subst hkl
      refine wwp_off ?_
      have hf : fitB m = true := (fit_iff m).2 ⟨hb, fun x hx => by
        obtain ⟨i, hi, rfl⟩ := List.mem_iff_getElem.1 hx
        exact (hok i hi hi).1, List.pairwise_iff_getElem.2 fun i j hi hj hij => (hok j hj hj).2 i hij⟩
      simp [h1, m2, h3, hf]
  · have hv : (decide (m.t < 1) || decide (24 < m.t) || decide (m.r < 1) || decide (47 < m.r) || decide (IntKind.i64.wrap (m.t * m.r) < ↑m.rows.length)) = true := by
      cases h : (decide (m.t < 1) || decide (24 < m.t) || decide (m.r < 1) || decide (47 < m.r) || decide (IntKind.i64.wrap (m.t * m.r) < ↑m.rows.length)) with
      | true => rfl
      | false => exact absurd (hbi.1 h) hb
    have hf : fitB m = false := fit_bad fun h => hb h.1
    simp [h1, m2, hv, hf]

theorem c49 (m : Mv) (hl : m.rows.length ≤ 1000000) : VCp Try.prog 49 [.agg m.cells] (bv (fitB m)) :=
  wcontract_p (Γ := mkEnv [(68, S68)] [] []) (sound_mk (by simp [s68]) (by simp) (by simp)) mixed is49 (by rw [nt49]; simp) (c49w S68 m hl fun _ _ _ _ _ _ => rfl) rfl
def S49 : List D → Option D
  | [.agg xs] => (asMv xs).bind fun m => if m.rows.length ≤ 1000000 then some (bv (fitB m)) else none
  | _ => none
theorem s49 : OkP 49 S49 := fun ds d h => by
  unfold S49 at h
  split at h
  · rw [Option.bind_eq_some_iff] at h
    obtain ⟨m, hm, h⟩ := h
    split at h <;> cases h
    rw [asMv_eq hm]
    exact c49 m (by assumption)
  · cases h
theorem S49_at (m : Mv) (h : m.rows.length ≤ 1000000) : S49 [.agg m.cells] = some (bv (fitB m)) := by rw [S49, Mv.cells, Mv.cellsW, asMv_cells, Option.bind_some, if_pos h]

theorem c65 (m : Mv) (hl : m.rows.length ≤ 1000000) : VCp Try.prog 65 [.agg m.cells] (iv (great m.rows)) := by
  refine wcontract_p sound0 mixed is65 (by rw [nt65]; simp) ?_ rfl
  simp only [W65]
  refine wwp_cut (MvA m) (by simp [MvA, Mv.cells, Mv.cellsW]) ?_
  rintro σ ⟨h1, m2⟩
  refine wwp_cut (fun σ => MvA m σ ∧ σ.s 3 = iv 0) (by simp [MvA, h1, m2]) ?_
  clear h1 m2 σ
  rintro σ ⟨⟨h1, m2⟩, h3⟩
  refine wwp_cutG (fun σ => σ.s 3 = iv (great m.rows)) ?_ (fun σ hf => by simp [hf])
  refine wwp_cut (fun σ => MvA m σ ∧ σ.s 3 = iv 0 ∧ σ.s 4 = iv 0) (by simp [MvA, h1, m2, h3]) ?_
  clear h1 m2 h3 σ
  rintro σ ⟨hM, h3, h4⟩
  simp only [wwp_block]
  refine wwp_loop (fun σ => ∃ k : Nat, k ≤ m.rows.length ∧ MvA m σ ∧ σ.s 3 = iv (great (m.rows.take k)) ∧ σ.s 4 = iv k) (fun σ => cnt m.rows.length (σ.s 4)) ?_ ?_
  · exact ⟨0, by omega, hM, by simpa [great] using h3, h4⟩
  clear hM h3 h4 σ
  rintro σ hw ⟨k, hk, ⟨h1, m2⟩, h3, h4⟩
  refine wwp_seq_assoc ?_
  by_cases hlt : k < m.rows.length
  · have hw1 := wrap_succ (show k ≤ 1000000000 by omega)
    have hmu : cnt m.rows.length (σ.s 4) = m.rows.length - k := by simp [h4]
    simp only [hmu]
    clear hmu
    have hgs := great_succ hlt
    obtain ⟨x, hx⟩ : ∃ x, x = m.rows[k] := ⟨_, rfl⟩
    have hcell : (rowsL m.rows)[k]? = some x.cells := by rw [rowsL_at hlt, hx]
    rw [← hx] at hgs
    obtain ⟨a, ha⟩ : ∃ a, a = great (m.rows.take k) := ⟨_, rfl⟩
    rw [← ha] at hgs h3
    refine wwp_on (fun σ => MvA m σ ∧ σ.s 3 = iv a ∧ σ.s 4 = iv k) (by simp [MvA, h1, m2, h3, h4, hlt]) ?_
    clear hw h1 m2 h3 h4 σ
    rintro σ ⟨⟨h1, m2⟩, h3, h4⟩
    refine wwp_body (fun σ => MvA m σ ∧ σ.s 3 = iv (great (m.rows.take (k + 1))) ∧ σ.s 4 = iv k) ?_ ?_
    · refine wwp_cutG (fun σ => MvA m σ ∧ σ.s 3 = iv (max a x.ns) ∧ σ.s 4 = iv k) ?_ ?_
      · by_cases h : a < x.ns
        · have e : max a x.ns = x.ns := by omega
          simp [MvA, h1, m2, h3, h4, hlt, hcell, Row.cells, ← hx, h, e]
        · have e : max a x.ns = a := by omega
          simp [MvA, h1, m2, h3, h4, hlt, hcell, Row.cells, ← hx, h, e]
      clear h1 m2 h3 h4 σ
      rintro σ ⟨⟨h1, m2⟩, h3, h4⟩
      rw [hgs]
      by_cases h : max a x.ns < x.ew
      · have e : max (max a x.ns) x.ew = x.ew := by omega
        simp [MvA, h1, m2, h3, h4, hlt, hcell, Row.cells, ← hx, h, e]
      · have e : max (max a x.ns) x.ew = max a x.ns := by omega
        simp [MvA, h1, m2, h3, h4, hlt, hcell, Row.cells, ← hx, h, e]
    · clear h1 m2 h3 h4 σ
      rintro σ ⟨⟨h1, m2⟩, h3, h4⟩
      simp [MvA, h1, m2, h3, h4, hw1]
      exact ⟨⟨k + 1, by omega, rfl, rfl⟩, by omega⟩
  · refine wwp_off ?_
    simp [h1, m2, h3, h4, hlt]
    rw [List.take_of_length_le (by omega)]
def S65 : List D → Option D
  | [.agg xs] => (asMv xs).bind fun m => if m.rows.length ≤ 1000000 then some (iv (great m.rows)) else none
  | _ => none
theorem s65 : OkP 65 S65 := fun ds d h => by
  unfold S65 at h
  split at h
  · rw [Option.bind_eq_some_iff] at h
    obtain ⟨m, hm, h⟩ := h
    split at h <;> cases h
    rw [asMv_eq hm]
    exact c65 m (by assumption)
  · cases h
theorem S65_at (m : Mv) (h : m.rows.length ≤ 1000000) : S65 [.agg m.cells] = some (iv (great m.rows)) := by rw [S65, Mv.cells, Mv.cellsW, asMv_cells, Option.bind_some, if_pos h]

theorem listOK_of {r : Int} {L : List Int} (h : ∀ k (h : k < L.length), 0 ≤ L[k] ∧ L[k] < r ∧ (∀ h0 : 0 < k, L[k - 1] < L[k])) : listOK r (-1) L = true := by
  have key : ∀ n, n ≤ L.length → listOK r (-1) (L.take n) = true := by
    intro n
    induction n with
    | zero => intro _; simp [listOK]
    | succ n ih =>
      intro hn
      have h1 := ih (by omega)
      rw [listOK_iff] at h1 ⊢
      obtain ⟨⟨a1, a2⟩, a3⟩ := h1
      obtain ⟨b1, b2, b3⟩ := h n (by omega)
      rw [List.take_succ_eq_append_getElem (by omega : n < L.length)]
      refine ⟨⟨fun x hx => ?_, List.pairwise_append.2 ⟨a2, by simp, fun x hx y hy => ?_⟩⟩, fun x hx => ?_⟩
      · rcases List.mem_append.1 hx with hx | hx
        · exact a1 x hx
        · rw [List.mem_singleton.1 hx]; omega
      · rw [List.mem_singleton.1 hy]
        obtain ⟨i, hi, rfl⟩ := List.mem_iff_getElem.1 hx
        rw [List.length_take] at hi
        have c1 := b3 (by omega)
        rw [List.getElem_take]
        by_cases hin : i = n - 1
        · subst hin; exact c1
        · have := List.pairwise_iff_getElem.1 a2 i (n - 1) (by rw [List.length_take]; omega) (by rw [List.length_take]; omega) (by omega)
          rw [List.getElem_take, List.getElem_take] at this
          omega
      · rcases List.mem_append.1 hx with hx | hx
        · exact a3 x hx
        · rw [List.mem_singleton.1 hx]; exact b2
  have := key L.length (Nat.le_refl _)
  rwa [List.take_length] at this
theorem listOK_at {r : Int} {L : List Int} (h : listOK r (-1) L = true) {k : Nat} (hk : k < L.length) : 0 ≤ L[k] ∧ L[k] < r ∧ (∀ h0 : 0 < k, L[k - 1] < L[k]) := by
  rw [listOK_iff] at h
  obtain ⟨⟨a1, a2⟩, a3⟩ := h
  have b1 := a1 _ (List.getElem_mem hk)
  refine ⟨by omega, a3 _ (List.getElem_mem hk), fun h0 => List.pairwise_iff_getElem.1 a2 _ _ (by omega) hk (by omega)⟩
theorem c60 (m : Mv) (L : List Int) (hl : L.length ≤ 1000000) : VCp Try.prog 60 [.agg m.cells, .list (ints L)] (bv (listOK m.r (-1) L)) := by
  refine wcontract_p sound0 mixed is60 (by rw [nt60]; simp) ?_ rfl
  simp only [W60]
  refine wwp_cut (fun σ => σ.s 1 = .list (ints L) ∧ σ.s 2 = .ptr [3, 0] 0 ∧ σ.m [3, 0] = some (.box [iv m.t, iv m.r, iv m.s, iv m.c, iv m.w, .list (rowsL m.rows)])) (by simp [Mv.cells, Mv.cellsW]) ?_
  rintro σ ⟨h1, h2, m3⟩
  refine wwp_cutG (fun σ => listOK m.r (-1) L = true) ?_ (fun σ hf => by simp [hf])
  refine wwp_cut (fun σ => σ.s 1 = .list (ints L) ∧ σ.s 2 = .ptr [3, 0] 0 ∧ σ.m [3, 0] = some (.box [iv m.t, iv m.r, iv m.s, iv m.c, iv m.w, .list (rowsL m.rows)]) ∧ σ.s 5 = iv 0) (by simp [h1, h2, m3]) ?_
  clear h1 h2 m3 σ
  rintro σ ⟨h1, h2, m3, h5⟩
  simp only [wwp_block]
  refine wwp_loop (fun σ => ∃ k : Nat, k ≤ L.length ∧ σ.s 1 = .list (ints L) ∧ σ.s 2 = .ptr [3, 0] 0 ∧ σ.m [3, 0] = some (.box [iv m.t, iv m.r, iv m.s, iv m.c, iv m.w, .list (rowsL m.rows)]) ∧ σ.s 5 = iv k ∧
    ∀ i (h : i < L.length), i < k → 0 ≤ L[i] ∧ L[i] < m.r ∧ (∀ h0 : 0 < i, L[i - 1] < L[i])) (fun σ => cnt L.length (σ.s 5)) ?_ ?_
  · exact ⟨0, by omega, h1, h2, m3, h5, fun i _ h => absurd h (by omega)⟩
  clear h1 h2 m3 h5 σ
  rintro σ hw ⟨k, hk, h1, h2, m3, h5, hok⟩
  refine wwp_seq_assoc ?_
  by_cases hlt : k < L.length
  · have hw1 := wrap_succ (show k ≤ 1000000000 by omega)
    have hmu : cnt L.length (σ.s 5) = L.length - k := by simp [h5]
    simp only [hmu]
    clear hmu
    have hbad : listOK m.r (-1) L = true → 0 ≤ L[k] ∧ L[k] < m.r ∧ (∀ h0 : 0 < k, L[k - 1] < L[k]) := fun h => listOK_at h hlt
    refine wwp_on (fun σ => σ.s 1 = .list (ints L) ∧ σ.s 2 = .ptr [3, 0] 0 ∧ σ.m [3, 0] = some (.box [iv m.t, iv m.r, iv m.s, iv m.c, iv m.w, .list (rowsL m.rows)]) ∧ σ.s 5 = iv k) (by simp [h1, h2, m3, h5, hlt]) ?_
    clear hw h1 h2 m3 h5 σ
    rintro σ ⟨h1, h2, m3, h5⟩
    have c1 := ints_at hlt
    obtain ⟨x, hx⟩ : ∃ x, x = L[k] := ⟨_, rfl⟩
    rw [← hx] at c1
    refine wwp_body (fun σ => σ.s 1 = .list (ints L) ∧ σ.s 2 = .ptr [3, 0] 0 ∧ σ.m [3, 0] = some (.box [iv m.t, iv m.r, iv m.s, iv m.c, iv m.w, .list (rowsL m.rows)]) ∧ σ.s 5 = iv k ∧ 0 ≤ x ∧ x < m.r ∧ (∀ h0 : 0 < k, L[k - 1] < x)) ?_ ?_
    · by_cases h0 : k = 0
      · subst h0
        by_cases hP : 0 ≤ x ∧ x < m.r
        · have q1 : ¬ x < 0 := by omega
          have q2 : ¬ m.r ≤ x := by omega
          simp [h1, h2, m3, h5, hlt, c1, ← hx, q1, q2, hP]
        · have hf : listOK m.r (-1) L = false := by
            cases h : listOK m.r (-1) L with
            | false => rfl
            | true => have := hbad h; rw [← hx] at this; exact absurd ⟨this.1, this.2.1⟩ hP
          have hB : (decide (x < 0) || decide (m.r ≤ x)) = true := by simp only [Bool.or_eq_true, decide_eq_true_eq]; omega
          simp [h1, h2, m3, h5, hlt, c1, ← hx, hB, hf]
      · obtain ⟨j, rfl⟩ : ∃ j, k = j + 1 := ⟨k - 1, by omega⟩
        have hj : j < L.length := by omega
        have c2 := ints_at hj
        obtain ⟨y, hy⟩ : ∃ y, y = L[j] := ⟨_, rfl⟩
        rw [← hy] at c2
        have wj : IntKind.i64.wrap (((j + 1 : Nat) : Int) - 1) = j := by rw [wrap_in (by omega) (by omega)]; omega
        have wj2 : IntKind.i64.wrap ((j : Int) + 1 - 1) = j := by rw [wrap_in (by omega) (by omega)]; omega
        have hz : (j : Int) < (L.length : Int) := by omega
        have p0 : (0 : Int) < (j : Int) + 1 := by omega
        simp only [Nat.add_sub_cancel, ← hy] at hbad ⊢
        obtain ⟨K, hK⟩ : ∃ K : Nat, K = j + 1 := ⟨_, rfl⟩
        rw [← hK] at h5 c1 wj hlt ⊢
        have hKz : (0 : Int) < (K : Int) := by omega
        have hK0 : 0 < K := by omega
        have hxK : x = L[K] := by subst hK; exact hx
        by_cases hP : 0 ≤ x ∧ x < m.r ∧ y < x
        · have q1 : ¬ x < 0 := by omega
          have q2 : ¬ m.r ≤ x := by omega
          have q3 : ¬ x ≤ y := by omega
          simp [h1, h2, m3, h5, hlt, hj, c1, c2, ← hxK, ← hy, q1, q2, q3, hP, wj, hz, hKz, hK0]
        · have hf : listOK m.r (-1) L = false := by
            cases h : listOK m.r (-1) L with
            | false => rfl
            | true => have := hbad h; rw [← hx] at this; exact absurd ⟨this.1, this.2.1, this.2.2 (by omega)⟩ hP
          have hB : (decide (x < 0) || decide (m.r ≤ x) || decide (x ≤ y)) = true := by simp only [Bool.or_eq_true, decide_eq_true_eq]; omega
          simp [h1, h2, m3, h5, hlt, hj, c1, c2, ← hxK, ← hy, wj, hz, hKz, hK0, hB, hf]
    · clear h1 h2 m3 h5 σ
      rintro σ ⟨h1, h2, m3, h5, hP1, hP2, hP3⟩
      simp [h1, h2, m3, h5, hw1]
      refine ⟨⟨k + 1, by omega, rfl, fun i hi hik => ?_⟩, by omega⟩
      by_cases hik' : i < k
      · exact hok i hi hik'
      · obtain rfl : i = k := by omega
        rw [← hx]; exact ⟨hP1, hP2, hP3⟩
  · refine wwp_off ?_
    simp [h1, h2, m3, h5, hlt]
    exact listOK_of fun i hi => hok i hi (by omega)
end Go.Proofs.Ytpmgaaalfdjikaa
namespace Go.Proofs.Ytpmgaaalfdjikaa
open Go.RowKit
set_option linter.unusedSimpArgs false
set_option linter.unusedVariables false

def W66 : WC × List VRes := ((.seq (.reg [(.stm (.eff (.box 3 (.t 0)) none)), (.set [(6, (.c (.v (.int .i64 0))))] [6])]) (.seq (.reg [(.set [(7, (.c (.v (.int .i64 0))))] [7])]) (.seq (.seq (.reg [(.set [(8, (.c (.v (.int .i64 0))))] [8])]) (.block 0 (.loop (.seq (.seq (.reg [(.set [(17, (.ap (.ibin .lss) [(.t 8), (.ap .llen [(.ap (.load 1 false) [(.ap (.fld 5) [(.t 3)])])])]))] [13, 14, 15, 16, 17])]) (.cond (.t 17) .skip (.exit 0))) (.seq (.block 1 (.seq (.reg [(.set [(24, (.ap (.load 5 true) [(.ap (.idx 53 5) [(.ap (.load 1 false) [(.ap (.fld 5) [(.t 3)])]), (.t 8)])]))] [20, 21, 22, 23, 24]), (.stm (.eff (.box 9 (.c (.agg [(.v (.int .i64 0)), (.v (.int .i64 0)), (.v (.int .i64 0)), (.v (.int .i64 0)), (.v (.int .i64 0))]))) none)), (.stm (.eff (.store 5 (.t 9) (.t 24)) none))]) (.seq (.seq (.reg [(.set [(35, (.ite (.ap .inot [(.ap (.call 76) [(.ap (.load 5 true) [(.t 9)]), (.ap (.load 1 false) [(.ap (.fld 4) [(.t 9)])])])]) (.c (.v (.bool true))) (.ap .inot [(.ap (.call 68) [(.ap (.load 5 true) [(.t 9)]), (.t 1)])])))] [25, 26, 27, 28, 29, 30, 31, 32, 33, 34, 35])]) (.cond (.t 35) (.exit 1) .skip)) (.seq (.reg [(.set [(10, (.c (.v (.int .i64 0))))] [10])]) (.seq (.seq (.reg [(.set [(11, (.c (.v (.int .i64 0))))] [11])]) (.block 2 (.loop (.seq (.seq (.reg [(.set [(40, (.ap (.ibin .lss) [(.t 11), (.ap .llen [(.ap (.load 1 false) [(.ap (.fld 5) [(.t 3)])])])]))] [36, 37, 38, 39, 40])]) (.cond (.t 40) .skip (.exit 2))) (.seq (.block 3 (.seq (.reg [(.set [(47, (.ap (.load 5 true) [(.ap (.idx 53 5) [(.ap (.load 1 false) [(.ap (.fld 5) [(.t 3)])]), (.t 11)])]))] [43, 44, 45, 46, 47]), (.stm (.eff (.box 12 (.c (.agg [(.v (.int .i64 0)), (.v (.int .i64 0)), (.v (.int .i64 0)), (.v (.int .i64 0)), (.v (.int .i64 0))]))) none)), (.stm (.eff (.store 5 (.t 12) (.t 47)) none))]) (.seq (.seq (.reg [(.set [(52, (.ap .inot [(.ap (.call 76) [(.ap (.load 5 true) [(.t 12)]), (.ap (.load 1 false) [(.ap (.fld 4) [(.t 9)])])])]))] [48, 49, 50, 51, 52])]) (.cond (.t 52) (.exit 3) .skip)) (.seq (.reg [(.set [(10, (.ap (.ibin .add) [(.t 10), (.c (.v (.int .i64 1)))]))] [53, 54, 10])]) (.seq (.reg [(.set [(62, (.ite (.ap (.ibin .neq) [(.t 11), (.t 8)]) (.ap (.call 68) [(.ap (.load 5 true) [(.t 12)]), (.t 2)]) (.c (.v (.bool false)))))] [55, 56, 57, 58, 59, 60, 61, 62])]) (.cond (.t 62) (.seq (.reg [(.set [(71, (.ap (.beq false) [(.ap (.ibin .eql) [(.ap (.load 1 false) [(.ap (.fld 2) [(.t 9)])]), (.t 1)]), (.ap (.ibin .eql) [(.ap (.load 1 false) [(.ap (.fld 2) [(.t 12)])]), (.t 2)])]))] [63, 64, 65, 66, 67, 68, 69, 70, 71])]) (.cond (.t 71) (.reg [(.set [(7, (.ap (.ibin .add) [(.t 7), (.c (.v (.int .i64 1)))]))] [72, 73, 7])]) (.reg [(.set [(7, (.ap (.ibin .sub) [(.t 7), (.c (.v (.int .i64 1)))]))] [74, 75, 7])]))) .skip)))))) (.reg [(.set [(11, (.ap (.ibin .add) [(.t 11), (.c (.v (.int .i64 1)))]))] [41, 42, 11])])))))) (.seq (.reg [(.set [(78, (.ap (.call 68) [(.ap (.load 5 true) [(.t 9)]), (.t 2)]))] [76, 77, 78])]) (.cond (.t 78) (.reg [(.set [(7, (.ap (.ibin .sub) [(.ap (.ibin .add) [(.t 7), (.t 10)]), (.c (.v (.int .i64 1)))]))] [79, 80, 81, 82, 7])]) .skip))))))) (.reg [(.set [(8, (.ap (.ibin .add) [(.t 8), (.c (.v (.int .i64 1)))]))] [18, 19, 8])])))))) (.seq (.reg [(.set [(6, (.t 7))] [83, 6])]) .ret)))), [(.t 6)])
theorem is66 : IsFn Try.prog frOf 66 Try.f66 W66 := ⟨by kernel_rfl, by kernel_rfl, by kernel_rfl⟩
theorem nt66 : Try.f66.ntmps = 84 := by kernel_rfl


def rowAt (l : List Row) (j : Nat) : Row := l.getD j Row.zero
theorem rowAt_eq {l : List Row} {j : Nat} (h : j < l.length) : rowAt l j = l[j] := by simp [rowAt, h]
def sumTo (f : Nat → Int) (k : Nat) : Int := ((List.range k).map f).sum
@[simp] theorem sumTo_0 (f : Nat → Int) : sumTo f 0 = 0 := rfl
theorem sumTo_succ (f : Nat → Int) (k : Nat) : sumTo f (k + 1) = sumTo f k + f k := by simp [sumTo, List.range_succ]
theorem sumTo_bound {f : Nat → Int} {a b : Int} (h : ∀ j, a ≤ f j ∧ f j ≤ b) : ∀ k : Nat, a * k ≤ sumTo f k ∧ sumTo f k ≤ b * k
  | 0 => by simp
  | k + 1 => by
    have h1 := sumTo_bound h k
    have h2 := h k
    rw [sumTo_succ]
    push_cast
    rw [Int.mul_add, Int.mul_add, Int.mul_one, Int.mul_one]
    omega
def inC (x y : Row) : Int := if playB y.ns y.ew y.s x.s then 1 else 0
def inT (x : Row) (i : Nat) (p q : Int) (k : Nat) (y : Row) : Int := if playB y.ns y.ew y.s x.s && (k != i && (y.ns == q || y.ew == q)) then (if ((x.ns == p) == (y.ns == q)) then 1 else -1) else 0
def inS (l : List Row) (x : Row) (i : Nat) (p q : Int) (k : Nat) : Int := sumTo (fun j => inT x i p q j (rowAt l j)) k
def inN (l : List Row) (x : Row) (k : Nat) : Int := sumTo (fun j => inC x (rowAt l j)) k
def outT (l : List Row) (p q : Int) (i : Nat) : Int :=
  if playB (rowAt l i).ns (rowAt l i).ew (rowAt l i).s (rowAt l i).s && ((rowAt l i).ns == p || (rowAt l i).ew == p) then inS l (rowAt l i) i p q l.length + (if (rowAt l i).ns == q || (rowAt l i).ew == q then inN l (rowAt l i) l.length - 1 else 0) else 0
def outS (l : List Row) (p q : Int) (k : Nat) : Int := sumTo (outT l p q) k
theorem inS_bound (l : List Row) (x : Row) (i : Nat) (p q : Int) (k : Nat) : -(k : Int) ≤ inS l x i p q k ∧ inS l x i p q k ≤ k := by
  have := sumTo_bound (f := fun j => inT x i p q j (rowAt l j)) (a := -1) (b := 1) (fun j => by simp only [inT]; split <;> (try split) <;> omega) k
  unfold inS
  omega
theorem inN_bound (l : List Row) (x : Row) (k : Nat) : 0 ≤ inN l x k ∧ inN l x k ≤ k := by
  have := sumTo_bound (f := fun j => inC x (rowAt l j)) (a := 0) (b := 1) (fun j => by simp only [inC]; split <;> omega) k
  unfold inN
  omega
theorem outS_bound {l : List Row} (hl : l.length ≤ 60) (p q : Int) {k : Nat} (hk : k ≤ l.length) : -10000 ≤ outS l p q k ∧ outS l p q k ≤ 10000 := by
  have := sumTo_bound (f := outT l p q) (a := -122) (b := 122) (fun j => by
    have h1 := inS_bound l (rowAt l j) j p q l.length
    have h2 := inN_bound l (rowAt l j) l.length
    unfold outT
    split
    · split <;> omega
    · omega) k
  unfold outS
  omega
def CvA (m : Mv) (p q : Int) (σ : St) : Prop := σ.s 1 = iv p ∧ σ.s 2 = iv q ∧ σ.s 3 = .ptr [4, 0] 0 ∧ σ.m [4, 0] = some (.box [iv m.t, iv m.r, iv m.s, iv m.c, iv m.w, .list (rowsL m.rows)])
theorem c66w (p68 p76 : FP) (m : Mv) (p q : Int) (hl : m.rows.length ≤ 60) (h68 : ∀ r t a b s p : Int, p68 [.agg [iv r, iv t, iv a, iv b, iv s], iv p] = some (bv (a == p || b == p)))
    (h76 : ∀ r t a b s p : Int, p76 [.agg [iv r, iv t, iv a, iv b, iv s], iv p] = some (bv (playB a b s p))) :
    wwp (mkEnv [(68, p68), (76, p76)] [] []) W66.1 (fun e s => okExit e ∧ resV W66.2 s = some (iv (outS m.rows p q m.rows.length))) (initV [.agg m.cells, iv p, iv q]) := by
  simp only [W66]
  refine wwp_cut (CvA m p q) (by simp [CvA, Mv.cells, Mv.cellsW]) ?_
  rintro σ ⟨h1, h2, h3, m4⟩
  refine wwp_cut (fun σ => CvA m p q σ ∧ σ.s 7 = iv 0) (by simp [CvA, h1, h2, h3, m4]) ?_
  clear h1 h2 h3 m4 σ
  rintro σ ⟨⟨h1, h2, h3, m4⟩, h7⟩
  refine wwp_cutG (fun σ => σ.s 7 = iv (outS m.rows p q m.rows.length)) ?_ (fun σ hf => by simp [hf])
  refine wwp_cut (fun σ => CvA m p q σ ∧ σ.s 7 = iv 0 ∧ σ.s 8 = iv 0) (by simp [CvA, h1, h2, h3, m4, h7]) ?_
  clear h1 h2 h3 m4 h7 σ
  rintro σ ⟨hC, h7, h8⟩
  simp only [wwp_block]
  refine wwp_loop (fun σ => ∃ i : Nat, i ≤ m.rows.length ∧ CvA m p q σ ∧ σ.s 7 = iv (outS m.rows p q i) ∧ σ.s 8 = iv i) (fun σ => cnt m.rows.length (σ.s 8)) ?_ ?_
  · exact ⟨0, by omega, hC, h7, h8⟩
  clear hC h7 h8 σ
  rintro σ hw ⟨i, hi, ⟨h1, h2, h3, m4⟩, h7, h8⟩
  refine wwp_seq_assoc ?_
  by_cases hlt : i < m.rows.length
  · have hw1 := wrap_succ (show i ≤ 1000000000 by omega)
    have hmu : cnt m.rows.length (σ.s 8) = m.rows.length - i := by simp [h8]
    simp only [hmu]
    clear hmu
    have hob := outS_bound hl p q (k := i) (by omega)
    have hos : outS m.rows p q (i + 1) = outS m.rows p q i + outT m.rows p q i := sumTo_succ _ _
    obtain ⟨x, hx⟩ : ∃ x, x = m.rows[i] := ⟨_, rfl⟩
    have hra := rowAt_eq hlt
    rw [← hx] at hra
    unfold outT at hos
    rw [hra] at hos
    have hcell : (rowsL m.rows)[i]? = some x.cells := by rw [rowsL_at hlt, hx]
    obtain ⟨A, hA⟩ : ∃ A, A = outS m.rows p q i := ⟨_, rfl⟩
    rw [← hA] at hos h7 hob
    refine wwp_on (fun σ => WF σ ∧ CvA m p q σ ∧ σ.s 7 = iv A ∧ σ.s 8 = iv i) (by simp [CvA, h1, h2, h3, m4, h7, h8, hlt]; exact hw) ?_
    clear hw h1 h2 h3 m4 h7 h8 σ
    rintro σ ⟨hw, ⟨h1, h2, h3, m4⟩, h7, h8⟩
    refine wwp_body (fun σ => CvA m p q σ ∧ σ.s 7 = iv (outS m.rows p q (i + 1)) ∧ σ.s 8 = iv i) ?_ ?_
    · refine wwp_cutW hw (fun σ => CvA m p q σ ∧ σ.s 7 = iv A ∧ σ.s 8 = iv i ∧ ∃ u, σ.s 9 = .ptr [10, u] 0 ∧ σ.m [10, u] = some (.box x.cells)) (by simp [CvA, h1, h2, h3, m4, h7, h8, hlt, hcell, Row.cells, ← hx]) ?_
      clear hw h1 h2 h3 m4 h7 h8 σ
      rintro σ hw ⟨⟨h1, h2, h3, m4⟩, h7, h8, u, h9, m10⟩
      cases hB : playB x.ns x.ew x.s x.s && (x.ns == p || x.ew == p) with
      | false =>
        rw [hB] at hos
        have hB' : (!playB x.ns x.ew x.s x.s || !(x.ns == p || x.ew == p)) = true := by rw [← Bool.not_and, hB]; rfl
        have hos' : outS m.rows p q (i + 1) = A := by rw [hos]; simp
        simp only [Bool.not_or] at hB'
        simp [CvA, h1, h2, h3, m4, h7, h8, h9, m10, Row.cells, h68, h76, hB', hos']
      | true =>
        rw [hB, if_pos rfl] at hos
        have hB2 := Bool.and_eq_true_iff.1 hB
        refine wwp_condW hw (fun σ => CvA m p q σ ∧ σ.s 7 = iv A ∧ σ.s 8 = iv i ∧ ∃ u, σ.s 9 = .ptr [10, u] 0 ∧ σ.m [10, u] = some (.box x.cells)) (by simp [CvA, h1, h2, h3, m4, h7, h8, h9, m10, Row.cells, h68, h76, hB2.1]; exact fun hx => (by simpa using hB2.2 : x.ns = p ∨ x.ew = p).resolve_left hx) ?_
        clear hw h1 h2 h3 m4 h7 h8 u h9 m10 σ
        rintro σ hw ⟨⟨h1, h2, h3, m4⟩, h7, h8, u, h9, m10⟩
        refine wwp_cutW hw (fun σ => CvA m p q σ ∧ σ.s 7 = iv A ∧ σ.s 8 = iv i ∧ (∃ u, σ.s 9 = .ptr [10, u] 0 ∧ σ.m [10, u] = some (.box x.cells)) ∧ σ.s 10 = iv 0) (by simp [CvA, h1, h2, h3, m4, h7, h8, h9, m10]) ?_
        clear hw h1 h2 h3 m4 h7 h8 u h9 m10 σ
        rintro σ hw ⟨⟨h1, h2, h3, m4⟩, h7, h8, ⟨u, h9, m10⟩, h10⟩
        refine wwp_cutG (fun σ => CvA m p q σ ∧ σ.s 7 = iv (A + inS m.rows x i p q m.rows.length) ∧ σ.s 8 = iv i ∧ (∃ u, σ.s 9 = .ptr [10, u] 0 ∧ σ.m [10, u] = some (.box x.cells)) ∧ σ.s 10 = iv (inN m.rows x m.rows.length)) ?_ ?_
        · refine wwp_cut (fun σ => CvA m p q σ ∧ σ.s 7 = iv A ∧ σ.s 8 = iv i ∧ (∃ u, σ.s 9 = .ptr [10, u] 0 ∧ σ.m [10, u] = some (.box x.cells)) ∧ σ.s 10 = iv 0 ∧ σ.s 11 = iv 0) (by simp [CvA, h1, h2, h3, m4, h7, h8, h9, m10, h10]) ?_
          clear hw h1 h2 h3 m4 h7 h8 u h9 m10 h10 σ
          rintro σ ⟨hC, h7, h8, h9, h10, h11⟩
          simp only [wwp_block]
          refine wwp_loop (fun σ => ∃ k : Nat, k ≤ m.rows.length ∧ CvA m p q σ ∧ σ.s 7 = iv (A + inS m.rows x i p q k) ∧ σ.s 8 = iv i ∧ (∃ u, σ.s 9 = .ptr [10, u] 0 ∧ σ.m [10, u] = some (.box x.cells)) ∧ σ.s 10 = iv (inN m.rows x k) ∧ σ.s 11 = iv k) (fun σ => cnt m.rows.length (σ.s 11)) ?_ ?_
          · exact ⟨0, by omega, hC, by simpa [inS] using h7, h8, h9, h10, h11⟩
          clear hC h7 h8 h9 h10 h11 σ
          rintro σ hw ⟨k, hk, ⟨h1, h2, h3, m4⟩, h7, h8, ⟨u, h9, m10⟩, h10, h11⟩
          refine wwp_seq_assoc ?_
          by_cases hkl : k < m.rows.length
          · have hw2 := wrap_succ (show k ≤ 1000000000 by omega)
            have hmu : cnt m.rows.length (σ.s 11) = m.rows.length - k := by simp [h11]
            simp only [hmu]
            clear hmu
            have hb1 := inS_bound m.rows x i p q k
            have hb2 := inN_bound m.rows x k
            have hs1 : inS m.rows x i p q (k + 1) = inS m.rows x i p q k + inT x i p q k (rowAt m.rows k) := sumTo_succ _ _
            have hs2 : inN m.rows x (k + 1) = inN m.rows x k + inC x (rowAt m.rows k) := sumTo_succ _ _
            obtain ⟨y, hy⟩ : ∃ y, y = m.rows[k] := ⟨_, rfl⟩
            have hrk := rowAt_eq hkl
            rw [← hy] at hrk
            rw [hrk] at hs1 hs2
            have hck : (rowsL m.rows)[k]? = some y.cells := by rw [rowsL_at hkl, hy]
            obtain ⟨S, hS⟩ : ∃ S, S = inS m.rows x i p q k := ⟨_, rfl⟩
            obtain ⟨N, hN⟩ : ∃ N, N = inN m.rows x k := ⟨_, rfl⟩
            rw [← hS] at hs1 h7 hb1
            rw [← hN] at hs2 h10 hb2
            refine wwp_on (fun σ => CvA m p q σ ∧ σ.s 7 = iv (A + S) ∧ σ.s 8 = iv i ∧ (∃ u, σ.s 9 = .ptr [10, u] 0 ∧ σ.m [10, u] = some (.box x.cells)) ∧ σ.s 10 = iv N ∧ σ.s 11 = iv k) (by simp [CvA, h1, h2, h3, m4, h7, h8, h9, m10, h10, h11, hkl]) ?_
            clear hw h1 h2 h3 m4 h7 h8 u h9 m10 h10 h11 σ
            rintro σ ⟨⟨h1, h2, h3, m4⟩, h7, h8, ⟨u, h9, m10⟩, h10, h11⟩
            refine wwp_body (fun σ => CvA m p q σ ∧ σ.s 7 = iv (A + inS m.rows x i p q (k + 1)) ∧ σ.s 8 = iv i ∧ (∃ u, σ.s 9 = .ptr [10, u] 0 ∧ σ.m [10, u] = some (.box x.cells)) ∧ σ.s 10 = iv (inN m.rows x (k + 1)) ∧ σ.s 11 = iv k) ?_ ?_
            · refine wwp_cut (fun σ => CvA m p q σ ∧ σ.s 7 = iv (A + S) ∧ σ.s 8 = iv i ∧ (∃ u, σ.s 9 = .ptr [10, u] 0 ∧ σ.m [10, u] = some (.box x.cells)) ∧ σ.s 10 = iv N ∧ σ.s 11 = iv k ∧ ∃ v, σ.s 12 = .ptr [13, v] 0 ∧ σ.m [13, v] = some (.box y.cells)) (by simp [CvA, h1, h2, h3, m4, h7, h8, h9, m10, h10, h11, hkl, hck, Row.cells, ← hy]) ?_
              clear h1 h2 h3 m4 h7 h8 u h9 m10 h10 h11 σ
              rintro σ ⟨⟨h1, h2, h3, m4⟩, h7, h8, ⟨u, h9, m10⟩, h10, h11, v, h12, m13⟩
              cases hP : playB y.ns y.ew y.s x.s with
              | false =>
                have e1 : inS m.rows x i p q (k + 1) = S := by rw [hs1, inT, hP]; simp
                have e2 : inN m.rows x (k + 1) = N := by rw [hs2, inC, hP]; simp
                simp [CvA, h1, h2, h3, m4, h7, h8, h9, m10, h10, h11, h12, m13, Row.cells, h76, hP, e1, e2]
              | true =>
                have e2 : inN m.rows x (k + 1) = N + 1 := by rw [hs2, inC, hP]; simp
                have wN : IntKind.i64.wrap (N + 1) = N + 1 := wrap_in (by omega) (by omega)
                refine wwp_cutG (fun σ => CvA m p q σ ∧ σ.s 7 = iv (A + S) ∧ σ.s 8 = iv i ∧ (∃ u, σ.s 9 = .ptr [10, u] 0 ∧ σ.m [10, u] = some (.box x.cells)) ∧ σ.s 10 = iv N ∧ σ.s 11 = iv k ∧ ∃ v, σ.s 12 = .ptr [13, v] 0 ∧ σ.m [13, v] = some (.box y.cells)) (by simp [CvA, h1, h2, h3, m4, h7, h8, h9, m10, h10, h11, h12, m13, Row.cells, h76, hP]) ?_
                clear h1 h2 h3 m4 h7 h8 u h9 m10 h10 h11 v h12 m13 σ
                rintro σ ⟨⟨h1, h2, h3, m4⟩, h7, h8, ⟨u, h9, m10⟩, h10, h11, v, h12, m13⟩
                by_cases hki : k = i
                · subst hki
                  have e1 : inS m.rows x k p q (k + 1) = S := by rw [hs1, inT]; simp
                  simp [CvA, h1, h2, h3, m4, h7, h8, h9, m10, h10, h11, h12, m13, Row.cells, h68, wN, e1, e2]
                · have hne : ((k : Int) == (i : Int)) = false := by simp; omega
                  have hne5 : ((k : Int) != (i : Int)) = true := by rw [bne, hne]; rfl
                  have hne2 : (k != i) = true := by simp [hki]
                  have hne3 : ¬ (k : Int) = (i : Int) := by omega
                  have hne4 : ¬ (i : Int) = (k : Int) := by omega
                  cases hQ : (y.ns == q || y.ew == q) with
                  | false =>
                    have e1 : inS m.rows x i p q (k + 1) = S := by rw [hs1, inT, hQ]; simp
                    simp [CvA, h1, h2, h3, m4, h7, h8, h9, m10, h10, h11, h12, m13, Row.cells, h68, wN, e1, e2, hne, hne5, hne3, hki, hQ]
                  | true =>
                    cases hE : ((x.ns == p) == (y.ns == q)) with
                    | true =>
                      have e1 : inS m.rows x i p q (k + 1) = S + 1 := by rw [hs1, inT, hP, hQ, hne2, hE]; simp
                      have wS : IntKind.i64.wrap (A + S + 1) = A + (S + 1) := by rw [wrap_in (by omega) (by omega)]; omega
                      simp [CvA, h1, h2, h3, m4, h7, h8, h9, m10, h10, h11, h12, m13, Row.cells, h68, wN, e1, e2, hne, hne5, hne3, hki, hQ, hE, wS]
                    | false =>
                      have e1 : inS m.rows x i p q (k + 1) = S - 1 := by rw [hs1, inT, hP, hQ, hne2, hE]; simp; omega
                      have wS : IntKind.i64.wrap (A + S - 1) = A + (S - 1) := by rw [wrap_in (by omega) (by omega)]; omega
                      simp [CvA, h1, h2, h3, m4, h7, h8, h9, m10, h10, h11, h12, m13, Row.cells, h68, wN, e1, e2, hne, hne5, hne3, hki, hQ, hE, wS]
            · clear h1 h2 h3 m4 h7 h8 u h9 m10 h10 h11 σ
              rintro σ ⟨⟨h1, h2, h3, m4⟩, h7, h8, ⟨u, h9, m10⟩, h10, h11⟩
              simp [CvA, h1, h2, h3, m4, h7, h8, h9, m10, h10, h11, hw2]
              exact ⟨⟨k + 1, by omega, rfl, rfl, rfl⟩, by omega⟩
          · obtain rfl : k = m.rows.length := by omega
            refine wwp_off ?_
            simp [CvA, h1, h2, h3, m4, h7, h8, h9, m10, h10, h11]
        · clear hw h1 h2 h3 m4 h7 h8 u h9 m10 h10 σ
          rintro σ ⟨⟨h1, h2, h3, m4⟩, h7, h8, ⟨u, h9, m10⟩, h10⟩
          have hb1 := inS_bound m.rows x i p q m.rows.length
          have hb2 := inN_bound m.rows x m.rows.length
          obtain ⟨S, hS⟩ : ∃ S, S = inS m.rows x i p q m.rows.length := ⟨_, rfl⟩
          obtain ⟨N, hN⟩ : ∃ N, N = inN m.rows x m.rows.length := ⟨_, rfl⟩
          rw [← hS] at hos h7 hb1
          rw [← hN] at hos h10 hb2
          cases hQ : (x.ns == q || x.ew == q) with
          | true =>
            have e1 : outS m.rows p q (i + 1) = A + S + N - 1 := by rw [hos, hQ]; simp; omega
            have w1 : IntKind.i64.wrap (A + S + N) = A + S + N := wrap_in (by omega) (by omega)
            have w2 : IntKind.i64.wrap (A + S + N - 1) = A + S + N - 1 := wrap_in (by omega) (by omega)
            simp [CvA, h1, h2, h3, m4, h7, h8, h9, m10, h10, Row.cells, h68, hQ, e1, w1, w2]
          | false =>
            have e1 : outS m.rows p q (i + 1) = A + S := by rw [hos, hQ]; simp
            simp [CvA, h1, h2, h3, m4, h7, h8, h9, m10, h10, Row.cells, h68, hQ, e1]
    · clear hw h1 h2 h3 m4 h7 h8 σ
      rintro σ ⟨⟨h1, h2, h3, m4⟩, h7, h8⟩
      simp [CvA, h1, h2, h3, m4, h7, h8, hw1]
      exact ⟨⟨i + 1, by omega, rfl, rfl⟩, by omega⟩
  · obtain rfl : i = m.rows.length := by omega
    refine wwp_off ?_
    simp [h1, h2, h3, m4, h7, h8]
theorem c66 (m : Mv) (p q : Int) (hl : m.rows.length ≤ 60) : VCp Try.prog 66 [.agg m.cells, iv p, iv q] (iv (outS m.rows p q m.rows.length)) :=
  wcontract_p (Γ := mkEnv [(68, S68), (76, S76)] [] []) (sound_mk (by simp [s68, s76]) (by simp) (by simp)) mixed is66 (by rw [nt66]; simp) (c66w S68 S76 m p q hl (fun _ _ _ _ _ _ => rfl) fun _ _ _ _ _ _ => rfl) rfl
end Go.Proofs.Ytpmgaaalfdjikaa
namespace Go.Proofs.Ytpmgaaalfdjikaa
open Go.RowKit
set_option linter.unusedSimpArgs false
set_option linter.unusedVariables false

theorem sumTo_congr {f g : Nat → Int} {k : Nat} (h : ∀ j, j < k → f j = g j) : sumTo f k = sumTo g k := by
  unfold sumTo
  rw [List.map_congr_left fun j hj => h j (List.mem_range.1 hj)]
theorem sumTo_list (g : Row → Int) (l : List Row) : sumTo (fun j => g (rowAt l j)) l.length = (l.map g).sum := by
  unfold sumTo
  congr 1
  refine List.ext_getElem (by simp) fun n h1 h2 => ?_
  simp at h1 h2
  simp [rowAt_eq h2]
def inG (x : Row) (p q : Int) (y : Row) : Int := if y = x then 0 else if playB y.ns y.ew y.s x.s && (y.ns == q || y.ew == q) then (if ((x.ns == p) == (y.ns == q)) then 1 else -1) else 0
theorem inT_inG {x y : Row} {i j : Nat} (p q : Int) (h : j = i ↔ y = x) : inT x i p q j y = inG x p q y := by
  unfold inT inG
  by_cases e : j = i
  · rw [if_pos (h.1 e)]; simp [e]
  · rw [if_neg fun e' => e (h.2 e')]
    have : (j != i) = true := by simp [e]
    rw [this, Bool.true_and]
theorem inS_list {l : List Row} (hn : l.Nodup) {i : Nat} (hi : i < l.length) (p q : Int) : inS l l[i] i p q l.length = (l.map (inG l[i] p q)).sum := by
  rw [← sumTo_list]
  refine sumTo_congr fun j hj => ?_
  rw [rowAt_eq hj]
  refine inT_inG p q ⟨fun e => by subst e; rfl, fun e => ?_⟩
  exact (List.getElem_inj (xs := l) (h₀ := hj) (h₁ := hi) hn).1 e
theorem played_playB (x y : Row) : playB y.ns y.ew y.s x.s = (played y && y.s == x.s) := rfl
theorem inN_list (x : Row) : ∀ l : List Row, (l.map (inC x)).sum = (playsN (l.filter played) x.s : Int)
  | [] => rfl
  | y :: l => by
    have ih := inN_list x l
    unfold playsN at ih ⊢
    rw [List.map_cons, List.sum_cons, ih]
    unfold inC
    rw [played_playB]
    cases h1 : played y with
    | false => simp [List.filter_cons, h1]
    | true =>
      cases h2 : (y.s == x.s) with
      | false => simp [List.filter_cons, h1, h2]
      | true => simp [List.filter_cons, h1, h2]; omega
theorem pair_eq (P : List Row) {p q : Int} (hpq : p ≠ q) {x y : Row} (hx : x.ns ≠ x.ew) (hy : played y = true → y.ns ≠ y.ew) (hpx : played x = true) (hp : x.ns = p ∨ x.ew = p) :
    inG x p q y + (if y = x then (if x.ns == q || x.ew == q then (playsN P x.s : Int) - 1 else 0) else 0) = if played y = true then tm P p q x y else 0 := by
  by_cases e : y = x
  · subst e
    rw [if_pos rfl, if_pos hpx]
    unfold inG tm
    rw [if_pos rfl, if_pos rfl, if_pos rfl]
    obtain ⟨N, hN⟩ : ∃ N : Int, N = (playsN P y.s : Int) - 1 := ⟨_, rfl⟩
    rw [← hN]
    unfold eqI
    have q1 : ¬ p = q := hpq
    have q2 : ¬ q = p := hpq.symm
    rcases hp with h | h
    · have h1 : ¬ y.ew = p := fun h2 => hx (by rw [h, h2])
      have h2 : ¬ y.ns = q := fun h2 => hpq (by rw [← h, h2])
      by_cases h3 : y.ew = q
      · simp [h, h1, h3, q1, q2]
      · simp [h, h1, h2, h3, q1, q2]
    · have h1 : ¬ y.ns = p := fun h2 => hx (by rw [h, h2])
      have h2 : ¬ y.ew = q := fun h2 => hpq (by rw [← h, h2])
      by_cases h3 : y.ns = q
      · simp [h, h1, h3, q1, q2]
      · simp [h, h1, h2, h3, q1, q2]
  · rw [if_neg e, Int.add_zero]
    unfold inG tm
    rw [if_neg e, played_playB]
    cases h1 : played y with
    | false => simp
    | true =>
      have hyn := hy h1
      by_cases h2 : y.s = x.s
      · have hxy : ¬ x = y := fun h => e h.symm
        rw [if_pos rfl, if_pos h2, if_neg hxy]
        have h2' : (y.s == x.s) = true := by simp [h2]
        rw [h2']
        unfold eqI
        by_cases a1 : y.ns = q
        · have a2 : ¬ y.ew = q := fun h => hyn (by rw [a1, h])
          by_cases b1 : x.ns = p
          · have b2 : ¬ x.ew = p := fun h => hx (by rw [b1, h])
            simp [a1, a2, b1, b2]
          · have b2 : x.ew = p := hp.resolve_left b1
            simp [a1, a2, b1, b2]
        · by_cases a2 : y.ew = q
          · by_cases b1 : x.ns = p
            · have b2 : ¬ x.ew = p := fun h => hx (by rw [b1, h])
              simp [a1, a2, b1, b2]
            · have b2 : x.ew = p := hp.resolve_left b1
              have b3 : (x.ns == p) = (y.ns == q) := by rw [beq_false_of_ne b1, beq_false_of_ne a1]
              simp [a1, a2, b1, b2, b3]
          · simp [a1, a2]
      · have h2' : (y.s == x.s) = false := by simp [h2]
        rw [if_pos rfl, if_neg h2, h2']
        simp
theorem outT_eq {m : Mv} (hf : fitB m = true) {p q : Int} (hpq : p ≠ q) {i : Nat} (hi : i < m.rows.length) :
    outT m.rows p q i = if played m.rows[i] = true then ((m.rows.filter played).map (tm (m.rows.filter played) p q m.rows[i])).sum else 0 := by
  have hn := fit_nodup hf
  have hne : ∀ y ∈ m.rows, played y = true → y.ns ≠ y.ew := fun y hy hp => (fit_inP hf y (List.mem_filter.2 ⟨hy, hp⟩)).2.2.2.2
  have hxm : m.rows[i] ∈ m.rows := List.getElem_mem hi
  have e1 := inS_list hn hi p q
  have e2 := inN_list m.rows[i] m.rows
  obtain ⟨P, hP⟩ : ∃ P, P = m.rows.filter played := ⟨_, rfl⟩
  rw [← hP] at e2
  have e3 : inN m.rows m.rows[i] m.rows.length = (playsN P m.rows[i].s : Int) := by rw [← e2, ← sumTo_list]; rfl
  unfold outT
  rw [rowAt_eq hi, e1, e3]
  rw [← hP]
  obtain ⟨x, hx⟩ : ∃ x, x = m.rows[i] := ⟨_, rfl⟩
  rw [← hx] at hxm ⊢
  rw [played_playB]
  have hss : (x.s == x.s) = true := by simp
  rw [hss, Bool.and_true]
  cases hpl : played x with
  | false => simp
  | true =>
    rw [Bool.true_and, if_pos rfl]
    have hxn := hne x hxm hpl
    have es : (P.map (tm P p q x)).sum = (m.rows.map fun y => if played y = true then tm P p q x y else 0).sum := by rw [hP]; exact sum_filter _ _ _
    rw [es]
    by_cases hp : x.ns = p ∨ x.ew = p
    · have hpb : (x.ns == p || x.ew == p) = true := by simpa using hp
      rw [hpb, if_pos rfl]
      have ep := sum_pickR (if x.ns == q || x.ew == q then (playsN P x.s : Int) - 1 else 0) x hn hxm
      rw [← ep, ← sum_map_add]
      exact sum_congr fun y hy => pair_eq P hpq hxn (hne y hy) hpl hp
    · have hpb : (x.ns == p || x.ew == p) = false := by
        rw [Bool.or_eq_false_iff, beq_eq_false_iff_ne, beq_eq_false_iff_ne]
        exact ⟨fun h => hp (.inl h), fun h => hp (.inr h)⟩
      rw [hpb, if_neg (by simp)]
      refine (sum_zero fun y hy => ?_).symm
      split
      · have a1 : eqI x.ns p = 0 := if_neg fun h => hp (.inl h)
        have a2 : eqI x.ew p = 0 := if_neg fun h => hp (.inr h)
        unfold tm
        rw [a1, a2]
        split
        · split <;> simp
        · rfl
      · rfl
/-- The reference's contest of two pairs is the program's. -/
theorem out_cont {m : Mv} (hf : fitB m = true) {p q : Nat} (hp : p ≤ 49) (hq : q ≤ 49) (hpq : p ≠ q) : outS m.rows p q m.rows.length = cont m.rows (p * 50 + q) := by
  have hP := fit_inP hf
  have hg := great_bounds (fit_pairs hf)
  have e : outS m.rows p q m.rows.length = (m.rows.map fun x => if played x = true then ((m.rows.filter played).map (tm (m.rows.filter played) p q x)).sum else 0).sum := by
    rw [← sumTo_list]
    refine sumTo_congr fun j hj => ?_
    rw [outT_eq hf (by omega) hj, rowAt_eq hj]
  rw [e, ← sum_filter]
  unfold cont
  rw [if_neg (by omega), allC_cpq hP hg.2 hp hq]
  rfl
end Go.Proofs.Ytpmgaaalfdjikaa
namespace Go.Proofs.Ytpmgaaalfdjikaa
open Go.RowKit
set_option linter.unusedSimpArgs false
set_option linter.unusedVariables false

def W43 : WC × List VRes := ((.seq (.reg [(.stm (.eff (.box 2 (.t 0)) none)), (.stm (.eff (.box 4 (.c (.agg [(.v (.int .i64 0)), (.v (.int .i64 0)), (.v (.int .i64 0)), (.v (.int .i64 0)), (.v (.int .i64 0)), .nil]))) none)), (.set [(5, (.c (.v (.int .i64 0))))] [5])]) (.seq (.seq (.reg [(.set [(12, (.ap .inot [(.ap (.call 49) [(.ap (.load 6 true) [(.t 2)])])]))] [10, 11, 12])]) (.cond (.t 12) (.seq (.reg [(.set [(13, (.ap (.build [(.v (.int .i64 0)), (.v (.int .i64 0)), (.v (.int .i64 0)), (.v (.int .i64 0)), (.v (.int .i64 0)), .nil] []) []))] [13]), (.stm (.eff (.store 6 (.t 4) (.t 13)) none)), (.set [(5, (.c (.v (.int .i64 290))))] [5])]) .ret) .skip)) (.seq (.seq (.reg [(.set [(17, (.ap .inot [(.ap (.call 60) [(.ap (.load 6 true) [(.t 2)]), (.t 1)])]))] [14, 15, 16, 17])]) (.cond (.t 17) (.seq (.reg [(.set [(18, (.ap (.build [(.v (.int .i64 0)), (.v (.int .i64 0)), (.v (.int .i64 0)), (.v (.int .i64 0)), (.v (.int .i64 0)), .nil] []) []))] [18]), (.stm (.eff (.store 6 (.t 4) (.t 18)) none)), (.set [(5, (.c (.v (.int .i64 291))))] [5])]) .ret) .skip)) (.seq (.reg [(.set [(6, (.c .nil))] [6])]) (.seq (.seq (.reg [(.set [(7, (.c (.v (.int .i64 0))))] [7])]) (.block 0 (.loop (.seq (.seq (.reg [(.set [(23, (.ap (.ibin .lss) [(.t 7), (.ap .llen [(.ap (.load 1 false) [(.ap (.fld 5) [(.t 2)])])])]))] [19, 20, 21, 22, 23])]) (.cond (.t 23) .skip (.exit 0))) (.seq (.block 1 (.seq (.reg [(.set [(30, (.ap (.load 5 true) [(.ap (.idx 53 5) [(.ap (.load 1 false) [(.ap (.fld 5) [(.t 2)])]), (.t 7)])]))] [26, 27, 28, 29, 30]), (.stm (.eff (.box 8 (.c (.agg [(.v (.int .i64 0)), (.v (.int .i64 0)), (.v (.int .i64 0)), (.v (.int .i64 0)), (.v (.int .i64 0))]))) none)), (.stm (.eff (.store 5 (.t 8) (.t 30)) none))]) (.seq (.seq (.reg [(.set [(9, (.c (.v (.int .i64 0))))] [9])]) (.block 2 (.loop (.seq (.seq (.reg [(.set [(34, (.ap (.ibin .lss) [(.t 9), (.ap .llen [(.t 1)])]))] [31, 32, 33, 34])]) (.cond (.t 34) .skip (.exit 2))) (.seq (.block 3 (.seq (.reg [(.set [(47, (.ap (.ibin .eql) [(.ap (.load 1 false) [(.ap (.idx 3 1) [(.t 1), (.t 9)])]), (.ap (.load 1 false) [(.ap (.fld 0) [(.ap (.idx 53 5) [(.ap (.load 1 false) [(.ap (.fld 5) [(.t 2)])]), (.t 7)])])])]))] [37, 38, 39, 40, 41, 42, 43, 44, 45, 46, 47])]) (.cond (.t 47) (.drw [[(.op 48 (.fld 5) [(.t 2)] none), (.op 49 (.load 1 false) [(.t 48)] none), (.op 50 .mv [(.t 7)] none), (.op 51 (.idx 53 5) [(.t 49), (.t 50)] none), (.op 52 (.fld 3) [(.t 51)] none), (.op 53 (.load 1 false) [(.t 52)] none), (.op 54 (.fld 5) [(.t 2)] none), (.op 56 .mv [(.t 7)] none), (.op 60 (.fld 2) [(.t 8)] none), (.op 55 (.load 1 false) [(.t 54)] none), (.op 57 (.idx 53 5) [(.t 55), (.t 56)] none), (.op 58 (.fld 2) [(.t 57)] none), (.op 59 (.load 1 false) [(.t 58)] none), (.eff (.store 1 (.t 60) (.t 53)) none), (.op 61 (.fld 3) [(.t 8)] none), (.eff (.store 1 (.t 61) (.t 59)) none)], [(.op 48 (.fld 5) [(.t 2)] none), (.op 49 (.load 1 false) [(.t 48)] none), (.op 50 .mv [(.t 7)] none), (.op 51 (.idx 53 5) [(.t 49), (.t 50)] none), (.op 52 (.fld 3) [(.t 51)] none), (.op 53 (.load 1 false) [(.t 52)] none), (.op 54 (.fld 5) [(.t 2)] none), (.op 56 .mv [(.t 7)] none), (.op 60 (.fld 2) [(.t 8)] none), (.op 55 (.load 1 false) [(.t 54)] none), (.op 57 (.idx 53 5) [(.t 55), (.t 56)] none), (.op 58 (.fld 2) [(.t 57)] none), (.eff (.store 1 (.t 60) (.t 53)) none), (.op 59 (.load 1 false) [(.t 58)] none), (.op 61 (.fld 3) [(.t 8)] none), (.eff (.store 1 (.t 61) (.t 59)) none)], [(.op 48 (.fld 5) [(.t 2)] none), (.op 49 (.load 1 false) [(.t 48)] none), (.op 50 .mv [(.t 7)] none), (.op 51 (.idx 53 5) [(.t 49), (.t 50)] none), (.op 52 (.fld 3) [(.t 51)] none), (.op 53 (.load 1 false) [(.t 52)] none), (.op 54 (.fld 5) [(.t 2)] none), (.op 56 .mv [(.t 7)] none), (.op 60 (.fld 2) [(.t 8)] none), (.eff (.store 1 (.t 60) (.t 53)) none), (.op 55 (.load 1 false) [(.t 54)] none), (.op 57 (.idx 53 5) [(.t 55), (.t 56)] none), (.op 58 (.fld 2) [(.t 57)] none), (.op 59 (.load 1 false) [(.t 58)] none), (.op 61 (.fld 3) [(.t 8)] none), (.eff (.store 1 (.t 61) (.t 59)) none)]]) .skip))) (.reg [(.set [(9, (.ap (.ibin .add) [(.t 9), (.c (.v (.int .i64 1)))]))] [35, 36, 9])])))))) (.reg [(.set [(62, (.t 6)), (63, (.ap (.load 5 true) [(.t 8)]))] [62, 63]), (.stm (.eff (.lit 64 53 5 1 [(.v (.int .i64 0)), (.v (.int .i64 0)), (.v (.int .i64 0)), (.v (.int .i64 0)), (.v (.int .i64 0))] [(0, 5)] [(.t 63)]) none)), (.stm (.eff (.app 65 53 5 (.t 62) (.t 64)) none)), (.set [(6, (.t 65))] [6])])))) (.reg [(.set [(7, (.ap (.ibin .add) [(.t 7), (.c (.v (.int .i64 1)))]))] [24, 25, 7])])))))) (.seq (.reg [(.set [(66, (.t 6)), (67, (.ap (.fld 5) [(.t 2)]))] [66, 67]), (.stm (.eff (.store 1 (.t 67) (.t 66)) none))]) (.seq (.seq (.reg [(.set [(70, (.ap (.ibin .gtr) [(.ap .llen [(.t 1)]), (.c (.v (.int .i64 0)))]))] [68, 69, 70])]) (.cond (.t 70) (.reg [(.set [(71, (.ap (.fld 4) [(.t 2)]))] [71]), (.stm (.eff (.store 1 (.t 71) (.c (.v (.int .i64 1)))) none))]) .skip)) (.seq (.reg [(.set [(72, (.ap (.load 6 true) [(.t 2)]))] [72]), (.stm (.eff (.store 6 (.t 4) (.t 72)) none)), (.set [(5, (.c (.v (.int .i64 0))))] [5])]) .ret)))))))), [(.cell 4 6 true), (.t 5)])
theorem is43 : IsFn Try.prog frOf 43 Try.f43 W43 := ⟨by kernel_rfl, by kernel_rfl, by kernel_rfl⟩
theorem nt43 : Try.f43.ntmps = 73 := by kernel_rfl


def turnRef (m : Mv) (L : List Int) : D × Mem :=
  if fitB m = true then (if listOK m.r (-1) L = true then (if m.rows.isEmpty then (.tup [.agg ((exch m L).cellsW .nil), iv 0], noMem)
    else (.tup [.agg ((exch m L).cellsW (.sl [] 5 0 m.rows.length none)), iv 0], rowMem 53 (rowsL (exch m L).rows)))
  else (.tup [.agg noMv, iv 291], noMem)) else (.tup [.agg noMv, iv 290], noMem)
def TvA (m : Mv) (L : List Int) (σ : St) : Prop := σ.s 1 = .list (ints L) ∧ σ.s 2 = .ptr [3, 0] 0 ∧ σ.m [3, 0] = some (.box [iv m.t, iv m.r, iv m.s, iv m.c, iv m.w, .list (rowsL m.rows)]) ∧ σ.s 4 = .ptr [5, 0] 0 ∧ σ.m [5, 0] = some (.box noMv)
theorem turnRow_take {L : List Int} {k : Nat} (h : k < L.length) (x : Row) : turnRow (L.take (k + 1)) x = if L[k] = x.r then { x with ns := x.ew, ew := x.ns } else turnRow (L.take k) x := by
  unfold turnRow
  rw [List.take_succ_eq_append_getElem h]
  by_cases e : L[k] = x.r
  · rw [if_pos e, if_pos (by simp [e])]
  · rw [if_neg e]
    have : (L.take k ++ [L[k]]).contains x.r = (L.take k).contains x.r := by
      rw [Bool.eq_iff_iff]
      simp only [List.contains_iff_mem, List.mem_append, List.mem_singleton]
      exact ⟨fun h => h.resolve_right fun h => e h.symm, .inl⟩
    rw [this]
theorem c43w (p49 p60 : FP) (m : Mv) (L : List Int) (hl : L.length ≤ 1000000) (h49 : p49 [.agg [iv m.t, iv m.r, iv m.s, iv m.c, iv m.w, .list (rowsL m.rows)]] = some (bv (fitB m)))
    (h60 : p60 [.agg [iv m.t, iv m.r, iv m.s, iv m.c, iv m.w, .list (rowsL m.rows)], .list (ints L)] = some (bv (listOK m.r (-1) L))) :
    wwp (mkEnv [(49, p49), (60, p60)] [] []) W43.1 (fun e s => okExit e ∧ ∃ d0, resV W43.2 s = some d0 ∧ Out s d0 (turnRef m L).1 (turnRef m L).2) (initV [.agg m.cells, .list (ints L)]) := by
  simp only [W43]
  refine wwp_cutW (wf_init _) (TvA m L) (by simp [TvA, Mv.cells, Mv.cellsW, noMv]) ?_
  rintro σ W ⟨h1, h2, m3, h4, m5⟩
  cases hf : fitB m with
  | false =>
    rw [hf] at h49
    have e : turnRef m L = (.tup [.agg noMv, iv 290], noMem) := by unfold turnRef; rw [hf]; rfl
    rw [e]
    simp [h1, h2, m3, h4, m5, h49, noMv]
    exact Out.flat rfl rfl
  | true =>
  rw [hf] at h49
  have hm60 := fit_len hf
  refine wwp_condW W (TvA m L) (by simp [TvA, h1, h2, m3, h4, m5, h49]) ?_
  clear W h1 h2 m3 h4 m5 σ
  rintro σ W ⟨h1, h2, m3, h4, m5⟩
  cases hk : listOK m.r (-1) L with
  | false =>
    rw [hk] at h60
    have e : turnRef m L = (.tup [.agg noMv, iv 291], noMem) := by unfold turnRef; rw [hf, hk]; rfl
    rw [e]
    simp [h1, h2, m3, h4, m5, h60, noMv]
    exact Out.flat rfl rfl
  | true =>
  rw [hk] at h60
  refine wwp_condW W (TvA m L) (by simp [TvA, h1, h2, m3, h4, m5, h60]) ?_
  clear W h1 h2 m3 h4 m5 σ
  rintro σ W ⟨h1, h2, m3, h4, m5⟩
  refine wwp_cut (fun σ => TvA m L σ ∧ σ.s 6 = .nil) (by simp [TvA, h1, h2, m3, h4, m5]) ?_
  clear W h1 h2 m3 h4 m5 σ
  rintro σ ⟨⟨h1, h2, m3, h4, m5⟩, h6⟩
  refine wwp_cutG (fun σ => TvA m L σ ∧ RowsAt σ.m (σ.s 6) (m.rows.map (turnRow L))) ?_ ?_
  · refine wwp_cut (fun σ => TvA m L σ ∧ σ.s 6 = .nil ∧ σ.s 7 = iv 0) (by simp [TvA, h1, h2, m3, h4, m5, h6]) ?_
    clear h1 h2 m3 h4 m5 h6 σ
    rintro σ ⟨hT, h6, h7⟩
    simp only [wwp_block]
    refine wwp_loop (fun σ => ∃ i : Nat, i ≤ m.rows.length ∧ TvA m L σ ∧ RowsAt σ.m (σ.s 6) ((m.rows.take i).map (turnRow L)) ∧ σ.s 7 = iv i) (fun σ => cnt m.rows.length (σ.s 7)) ?_ ?_
    · exact ⟨0, by omega, hT, .inl ⟨rfl, h6⟩, h7⟩
    clear hT h6 h7 σ
    rintro σ hw ⟨i, hi, ⟨h1, h2, m3, h4, m5⟩, hR, h7⟩
    refine wwp_seq_assoc ?_
    by_cases hlt : i < m.rows.length
    · have hw1 := wrap_succ (show i ≤ 1000000000 by omega)
      have hmu : cnt m.rows.length (σ.s 7) = m.rows.length - i := by simp [h7]
      simp only [hmu]
      clear hmu
      have htk : (m.rows.take (i + 1)).map (turnRow L) = (m.rows.take i).map (turnRow L) ++ [turnRow L m.rows[i]] := by rw [List.take_succ_eq_append_getElem hlt, List.map_append]; rfl
      obtain ⟨x, hx⟩ : ∃ x, x = m.rows[i] := ⟨_, rfl⟩
      rw [← hx] at htk
      have hcell : (rowsL m.rows)[i]? = some x.cells := by rw [rowsL_at hlt, hx]
      have hlen : ((m.rows.take i).map (turnRow L)).length = i := by simp; omega
      obtain ⟨RS, hRS⟩ : ∃ RS, RS = (m.rows.take i).map (turnRow L) := ⟨_, rfl⟩
      rw [← hRS] at hR htk hlen
      refine wwp_on (fun σ => WF σ ∧ TvA m L σ ∧ RowsAt σ.m (σ.s 6) RS ∧ σ.s 7 = iv i) (by simp [TvA, h1, h2, m3, h4, m5, h7, hlt]; exact ⟨hw, hR⟩) ?_
      clear hw h1 h2 m3 h4 m5 hR h7 σ
      rintro σ ⟨hw, ⟨h1, h2, m3, h4, m5⟩, hR, h7⟩
      refine wwp_body (fun σ => TvA m L σ ∧ RowsAt σ.m (σ.s 6) (RS ++ [turnRow L x]) ∧ σ.s 7 = iv i) ?_ ?_
      · refine wwp_cutW hw (fun σ => TvA m L σ ∧ RowsAt σ.m (σ.s 6) RS ∧ σ.s 7 = iv i ∧ ∃ u, σ.s 8 = .ptr [9, u] 0 ∧ σ.m [9, u] = some (.box x.cells)) ?_ ?_
        · rcases hR with ⟨hd0, hd⟩ | ⟨hd0, tk, g, hd, htkm⟩
          · simp [TvA, h1, h2, m3, h4, m5, h7, hlt, hcell, Row.cells, ← hx, hd]
            exact .inl ⟨hd0, rfl⟩
          · have n1 := hw.ne htkm 8 (σ.c 8) []
            simp [TvA, h1, h2, m3, h4, m5, h7, hlt, hcell, Row.cells, ← hx, hd]
            exact .inr ⟨hd0, tk, g, rfl, by simp [n1, htkm]⟩
        clear hw h1 h2 m3 h4 m5 hR h7 σ
        rintro σ hw ⟨⟨h1, h2, m3, h4, m5⟩, hR, h7, u, h8, m9⟩
        refine wwp_cutG (fun σ => WF σ ∧ TvA m L σ ∧ RowsAt σ.m (σ.s 6) RS ∧ σ.s 7 = iv i ∧ ∃ u, σ.s 8 = .ptr [9, u] 0 ∧ σ.m [9, u] = some (.box (turnRow L x).cells)) ?_ ?_
        · refine wwp_cutW hw (fun σ => TvA m L σ ∧ RowsAt σ.m (σ.s 6) RS ∧ σ.s 7 = iv i ∧ (∃ u, σ.s 8 = .ptr [9, u] 0 ∧ σ.m [9, u] = some (.box x.cells)) ∧ σ.s 9 = iv 0) (by simp [TvA, h1, h2, m3, h4, m5, h7, h8, m9]; exact hR) ?_
          clear hw h1 h2 m3 h4 m5 hR h7 u h8 m9 σ
          rintro σ hw ⟨hT, hR, h7, h8, h9⟩
          simp only [wwp_block]
          refine wwp_loop (fun σ => ∃ k : Nat, k ≤ L.length ∧ TvA m L σ ∧ RowsAt σ.m (σ.s 6) RS ∧ σ.s 7 = iv i ∧ (∃ u, σ.s 8 = .ptr [9, u] 0 ∧ σ.m [9, u] = some (.box (turnRow (L.take k) x).cells)) ∧ σ.s 9 = iv k) (fun σ => cnt L.length (σ.s 9)) ?_ ?_
          · refine ⟨0, by omega, hT, hR, h7, ?_, h9⟩
            simpa [turnRow] using h8
          clear hw hT hR h7 h8 h9 σ
          rintro σ hw ⟨k, hkl, ⟨h1, h2, m3, h4, m5⟩, hR, h7, ⟨u, h8, m9⟩, h9⟩
          refine wwp_seq_assoc ?_
          by_cases hlk : k < L.length
          · have hw2 := wrap_succ (show k ≤ 1000000000 by omega)
            have hmu : cnt L.length (σ.s 9) = L.length - k := by simp [h9]
            simp only [hmu]
            clear hmu
            have c1 := ints_at hlk
            have htt := turnRow_take hlk x
            obtain ⟨z, hz⟩ : ∃ z, z = L[k] := ⟨_, rfl⟩
            rw [← hz] at c1 htt
            obtain ⟨y, hy⟩ : ∃ y, y = turnRow (L.take k) x := ⟨_, rfl⟩
            rw [← hy] at m9 htt
            have hyc : y.r = x.r ∧ y.t = x.t ∧ y.s = x.s := by rw [hy]; unfold turnRow; split <;> exact ⟨rfl, rfl, rfl⟩
            refine wwp_on (fun σ => WF σ ∧ TvA m L σ ∧ RowsAt σ.m (σ.s 6) RS ∧ σ.s 7 = iv i ∧ (∃ u, σ.s 8 = .ptr [9, u] 0 ∧ σ.m [9, u] = some (.box y.cells)) ∧ σ.s 9 = iv k) (by simp [TvA, h1, h2, m3, h4, m5, h7, h8, m9, h9, hlk]; exact ⟨hw, hR⟩) ?_
            clear hw h1 h2 m3 h4 m5 hR h7 u h8 m9 h9 σ
            rintro σ ⟨hw, ⟨h1, h2, m3, h4, m5⟩, hR, h7, ⟨u, h8, m9⟩, h9⟩
            refine wwp_body (fun σ => TvA m L σ ∧ RowsAt σ.m (σ.s 6) RS ∧ σ.s 7 = iv i ∧ (∃ u, σ.s 8 = .ptr [9, u] 0 ∧ σ.m [9, u] = some (.box (turnRow (L.take (k + 1)) x).cells)) ∧ σ.s 9 = iv k) ?_ ?_
            · rw [htt]
              by_cases hzx : z = x.r
              · refine wwp_cutG (fun σ => TvA m L σ ∧ RowsAt σ.m (σ.s 6) RS ∧ σ.s 7 = iv i ∧ (σ.s 8 = .ptr [9, u] 0 ∧ σ.m [9, u] = some (.box y.cells)) ∧ σ.s 9 = iv k ∧ σ.s 47 = bv true) (by simp [TvA, h1, h2, m3, h4, m5, h7, h8, m9, h9, hlk, c1, hlt, hcell, Row.cells, ← hx, ← hz, hzx]; exact hR) ?_
                clear hw h1 h2 m3 h4 m5 h7 h8 m9 h9 hR σ
                rintro σ ⟨⟨h1, h2, m3, h4, m5⟩, hR, h7, ⟨h8, m9⟩, h9, h47⟩
                rw [if_pos hzx]
                simp only [wwp_cond, VArg.val, h47]
                refine condK_b (fun _ => ?_) (fun h => by cases h)
                refine wwp_drw_k [48, 49, 50, 51, 52, 53, 54, 55, 56, 57, 58, 59, 60, 61] (fun τ => if τ = [9, u] then some (.box [iv x.r, iv x.t, iv x.ew, iv x.ns, iv x.s]) else σ.m τ) σ.c (by decide) ?_ ?_
                · intro sts hsts
                  simp only [List.mem_cons, List.not_mem_nil, or_false] at hsts
                  rcases hsts with rfl | rfl | rfl
                  all_goals
                    simp [h2, m3, h7, h8, m9, hlt, hcell, Row.cells, ← hx, hyc]
                    funext τ
                    by_cases ht : τ = [9, u] <;> simp [ht]
                · have hR' : RowsAt (fun τ => if τ = [9, u] then some (.box [iv x.r, iv x.t, iv x.ew, iv x.ns, iv x.s]) else σ.m τ) (σ.s 6) RS := by
                    rcases hR with hR | ⟨a, tk, g, hd, htkm⟩
                    · exact .inl hR
                    · refine .inr ⟨a, tk, g, hd, ?_⟩
                      have : tk ≠ [9, u] := fun e => by rw [e, m9] at htkm; cases htkm
                      simp [this, htkm]
                  simp [TvA, h1, h2, m3, h4, m5, h7, h8, h9, Row.cells]
                  exact hR'
              · have hzb : (z == x.r) = false := beq_false_of_ne hzx
                refine wwp_cutG (fun σ => TvA m L σ ∧ RowsAt σ.m (σ.s 6) RS ∧ σ.s 7 = iv i ∧ (σ.s 8 = .ptr [9, u] 0 ∧ σ.m [9, u] = some (.box y.cells)) ∧ σ.s 9 = iv k ∧ σ.s 47 = bv false) (by simp [TvA, h1, h2, m3, h4, m5, h7, h8, m9, h9, hlk, c1, hlt, hcell, Row.cells, ← hx, ← hz, hzb]; exact hR) ?_
                clear hw h1 h2 m3 h4 m5 h7 h8 m9 h9 hR σ
                rintro σ ⟨⟨h1, h2, m3, h4, m5⟩, hR, h7, ⟨h8, m9⟩, h9, h47⟩
                rw [if_neg hzx]
                simp only [wwp_cond, VArg.val, h47]
                refine condK_b (fun h => by cases h) (fun _ => ?_)
                simp [TvA, h1, h2, m3, h4, m5, h7, h8, m9, h9]
                exact hR
            · clear hw h1 h2 m3 h4 m5 hR h7 u h8 m9 h9 σ
              rintro σ ⟨⟨h1, h2, m3, h4, m5⟩, hR, h7, ⟨u, h8, m9⟩, h9⟩
              simp [TvA, h1, h2, m3, h4, m5, h7, h8, m9, h9, hw2]
              exact ⟨⟨k + 1, by omega, hR, rfl, rfl⟩, by omega⟩
          · obtain rfl : k = L.length := by omega
            rw [List.take_length] at m9
            refine wwp_off ?_
            simp [TvA, h1, h2, m3, h4, m5, h7, h8, m9, h9]
            exact ⟨hw, hR⟩
        · clear hw h1 h2 m3 h4 m5 hR h7 u h8 m9 σ
          rintro σ ⟨hw, ⟨h1, h2, m3, h4, m5⟩, hR, h7, u, h8, m9⟩
          obtain ⟨y, hy⟩ : ∃ y, y = turnRow L x := ⟨_, rfl⟩
          rw [← hy] at m9 ⊢
          rcases hR with ⟨hd0, hd⟩ | ⟨hd0, tk, g, hd, htkm⟩
          · simp [TvA, h1, h2, m3, h4, m5, h7, h8, m9, hd, Row.cells, one_made]
            exact .inr ⟨by simp, [66, σ.c 65], [66, σ.c 65], by simp [hd0], by simp [hd0, rowsL, Row.cells]⟩
          · have p1 := hw.ne htkm 64 (σ.c 64) []
            have p2 := hw.ne htkm 65 (σ.c 65) []
            have hmm : RS.length + 1 ≤ maxMade := by unfold maxMade; omega
            simp [TvA, h1, h2, m3, h4, m5, h7, h8, m9, hd, Row.cells, htkm, p1, hmm]
            exact .inr ⟨by simp, [66, σ.c 65], g, by simp, by simp [rowsL_append, rowsL, Row.cells]⟩
      · rw [← htk]
        clear hw h1 h2 m3 h4 m5 hR h7 σ
        rintro σ ⟨⟨h1, h2, m3, h4, m5⟩, hR, h7⟩
        simp [TvA, h1, h2, m3, h4, m5, h7, hw1]
        exact ⟨⟨i + 1, by omega, by simpa using hR, rfl⟩, by omega⟩
    · obtain rfl : i = m.rows.length := by omega
      rw [List.take_length] at hR
      refine wwp_off ?_
      simp [TvA, h1, h2, m3, h4, m5, h7]
      exact hR
  · clear h1 h2 m3 h4 m5 h6 σ
    rintro σ ⟨⟨h1, h2, m3, h4, m5⟩, hR⟩
    by_cases h0 : m.rows = []
    · have hd : σ.s 6 = .nil := by
        rcases hR with ⟨_, hd⟩ | ⟨hd0, _⟩
        · exact hd
        · rw [h0] at hd0; simp at hd0
      have e : turnRef m L = (.tup [.agg ((exch m L).cellsW .nil), iv 0], noMem) := by unfold turnRef; rw [hf, hk, h0]; rfl
      rw [e]
      by_cases hL : L = []
      · simp [h1, h2, m3, h4, m5, hd, hL, noMv, exch, Mv.cellsW]
        exact Out.flat rfl rfl
      · have hL' : 0 < L.length := List.length_pos_iff.2 hL
        simp [h1, h2, m3, h4, m5, hd, hL, hL', noMv, exch, Mv.cellsW]
        exact Out.flat rfl rfl
    · have h0' : m.rows.isEmpty = false := by simpa using h0
      have e : turnRef m L = (.tup [.agg ((exch m L).cellsW (.sl [] 5 0 m.rows.length none)), iv 0], rowMem 53 (rowsL (exch m L).rows)) := by unfold turnRef; rw [hf, hk, h0']; rfl
      rw [e]
      rcases hR with ⟨hd0, _⟩ | ⟨_, tk, g, hd, htkm⟩
      · simp at hd0; exact absurd hd0 h0
      · have n3 : tk ≠ [3, 0] := fun e => by rw [e, m3] at htkm; cases htkm
        have n5 : tk ≠ [5, 0] := fun e => by rw [e, m5] at htkm; cases htkm
        rw [List.length_map] at hd
        by_cases hL : L = []
        · simp [h1, h2, m3, h4, m5, hd, hL, noMv, exch, Mv.cellsW]
          rw [hL] at htkm
          exact Out.tup (Out.aggRow (t := tk) (g := g) (es := rowsL (m.rows.map (turnRow []))) (pre := [iv m.t, iv m.r, iv m.s, iv m.c, iv m.w]) rfl (by simp [n3, n5, htkm]) (rowsL_flat _)) _
        · have hL' : 0 < L.length := List.length_pos_iff.2 hL
          simp [h1, h2, m3, h4, m5, hd, hL, hL', noMv, exch, Mv.cellsW]
          exact Out.tup (Out.aggRow (t := tk) (g := g) (es := rowsL (m.rows.map (turnRow L))) (pre := [iv m.t, iv m.r, iv m.s, iv m.c, iv 1]) rfl (by simp [n3, n5, htkm]) (rowsL_flat _)) _
theorem c60_at (m : Mv) (L : List Int) (hl : L.length ≤ 1000000) : VCp Try.prog 60 [.agg m.cells, .list (ints L)] (bv (listOK m.r (-1) L)) := c60 m L hl
end Go.Proofs.Ytpmgaaalfdjikaa
