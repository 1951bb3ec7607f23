/- TurnWrong: the walk, from its beginning to its end. Lemmas; no condition. -/
import Derived.Test.YtpmgaaalfdjikaaUa
namespace Go.Proofs.Ytpmgaaalfdjikaa
open Go.RowKit
set_option linter.unusedSimpArgs false
set_option linter.unusedVariables false

def BadT (T : Nat) (bt br : Int) (tb : Tok) (bl : List Row) (σ : St) : Prop := σ.s 8 = .ptr [9, 0] 0 ∧ σ.m [9, 0] = some (.box [iv bt, iv br, iv T, iv 1, iv 2, .sl tb 5 0 bl.length none]) ∧ ∃ g, σ.m tb = some (.row g 53 (rowsL bl))
theorem c8w (p12 p15 p18 p25 p27 : FP) (q13 q17 q20 q24 q26 : FQ) (x : Sk) (T R j : Nat) (RM : List Row) (n : Int) (way : Nat) (x1 x2 : Row) (ht : 2 ≤ T ∧ T ≤ 6) (hr : 1 ≤ R ∧ R ≤ 6) (hj : RM.length = j + 2) (hjl : RM.length = R * T) (hj36 : RM.length ≤ 36) (e1 : RM[j + 1]? = some x1) (e2 : RM[j]? = some x2)
    (f1 : x2.r = x1.r) (f2 : 0 < x2.ew) (f3 : 0 < x1.ns)
    (h12 : p12 [] = some (bv true))
    (h13 : q13 [.agg [.v (.int .u8 x.t), .v (.int .u8 x.r), .list []]] = some (.agg [iv T, iv R, iv T, iv 1, iv 2, .sl [] 5 0 RM.length none], rowMem 53 (rowsL RM)))
    (h24 : q24 [.list (rowsL RM)] = some (.sl [] 5 0 RM.length none, rowMem 53 (rowsL RM)))
    (b17 : ∀ (bt br : Int) (bl : List Row), bl.length ≤ 1000000 → fitB ⟨bt, br, T, 1, 2, bl⟩ = false → q17 [.agg [iv bt, iv br, iv T, iv 1, iv 2, .list (rowsL bl)], .list []] = some (.tup [.agg noMv, iv 290], noMem))
    (b20 : ∀ (bt br : Int) (bl : List Row), bl.length ≤ 1000000 → fitB ⟨bt, br, T, 1, 2, bl⟩ = false → q20 [.agg [iv bt, iv br, iv T, iv 1, iv 2, .list (rowsL bl)], iv 0] = some (.tup [.nil, iv 290], noMem))
    (b25 : ∀ (bt br : Int) (bl : List Row), bl.length ≤ 1000000 → fitB ⟨bt, br, T, 1, 2, bl⟩ = false → p25 [.agg [iv bt, iv br, iv T, iv 1, iv 2, .list (rowsL bl)], iv 1, iv 2] = some (.tup [iv 0, iv 290]))
    (b26 : ∀ (bt br : Int) (bl : List Row), bl.length ≤ 1000000 → fitB ⟨bt, br, T, 1, 2, bl⟩ = false → q26 [.agg [iv bt, iv br, iv T, iv 1, iv 2, .list (rowsL bl)]] = some (.tup [.nil, iv 290], noMem))
    (b18 : ∀ (bt br : Int) (bl : List Row), bl.length ≤ 1000000 → fitB ⟨bt, br, T, 1, 2, bl⟩ = false → p18 [.agg [iv bt, iv br, iv T, iv 1, iv 2, .list (rowsL bl)]] = some (.tup [iv 0, iv 290]))
    (b15 : ∀ (bt br : Int) (bl : List Row), bl.length ≤ 1000000 → fitB ⟨bt, br, T, 1, 2, bl⟩ = false → p15 [.agg [iv bt, iv br, iv T, iv 1, iv 2, .list (rowsL bl)], .list []] = some (.tup [iv 0, iv 290]))
    (b27 : ∀ (bt br : Int) (bl : List Row), bl.length ≤ 1000000 → fitB ⟨bt, br, T, 1, 2, bl⟩ = false → p27 [.agg [iv bt, iv br, iv T, iv 1, iv 2, .list (rowsL bl)]] = some (bv false))
    (g17a : ∀ a : Int, a < 0 ∨ R ≤ a → q17 [.agg [iv T, iv R, iv T, iv 1, iv 2, .list (rowsL RM)], .list [[iv a]]] = some (.tup [.agg noMv, iv 291], noMem))
    (g17b : q17 [.agg [iv T, iv R, iv T, iv 1, iv 2, .list (rowsL RM)], .list [[iv 0], [iv 0]]] = some (.tup [.agg noMv, iv 291], noMem))
    (g17c : q17 [.agg [iv T, iv R, iv T, iv 1, iv 2, .list (rowsL RM)], .list [[iv ((R : Int) - 1)], [iv (-1)]]] = some (.tup [.agg noMv, iv 291], noMem))
    (g15a : ∀ a : Int, a < 0 ∨ R ≤ a → p15 [.agg [iv T, iv R, iv T, iv 1, iv 2, .list (rowsL RM)], .list [[.list []], [.list [[iv a]]]]] = some (.tup [iv 0, iv 291]))
    (g15b : p15 [.agg [iv T, iv R, iv T, iv 1, iv 2, .list (rowsL RM)], .list [[.list []], [.list [[iv 0], [iv 0]]]]] = some (.tup [iv 0, iv 291]))
    (g15c : p15 [.agg [iv T, iv R, iv T, iv 1, iv 2, .list (rowsL RM)], .list [[.list []], [.list [[iv ((R : Int) - 1)], [iv (-1)]]]]] = some (.tup [iv 0, iv 291]))
    (g25 : ∀ p q : Int, p < 1 ∨ 2 * (T : Int) < q ∨ p = q → p25 [.agg [iv T, iv R, iv T, iv 1, iv 2, .list (rowsL RM)], iv p, iv q] = some (.tup [iv 0, iv 2]))
    (g15d : p15 [.agg [iv T, iv R, iv T, iv 1, iv 2, .list (rowsL RM)], .list (List.replicate 65 [.list []])] = some (.tup [iv 0, iv 5]))
    (g27 : p27 [.agg [iv T, iv R, iv T, iv 1, iv 2, .list (rowsL RM)]] = some (bv true)) :
    wwp (mkEnv [(12, p12), (15, p15), (18, p18), (25, p25), (27, p27)] [(13, q13), (17, q17), (20, q20), (24, q24), (26, q26)] []) W8.1 (fun e s => okExit e ∧ resV W8.2 s = some (bv true)) (initV [.agg x.cells, iv n, .v (.int .u8 way)]) := by
  have tk : (rowsL RM).take RM.length = rowsL RM := rowsL_take RM
  simp only [W8]
  refine wwp_cutW (wf_init _) (fun σ => σ.s 1 = iv n ∧ σ.s 2 = .v (.int .u8 way) ∧ σ.s 3 = .ptr [4, 0] 0 ∧ σ.m [4, 0] = some (.box x.cells) ∧ ∀ y, y ≠ 3 → σ.c y = 0) (by simp [Sk.cells]) ?_
  rintro σ W ⟨h1, h2, h3, m4, hc⟩
  refine wwp_condW W (fun σ => σ.s 1 = iv n ∧ σ.s 2 = .v (.int .u8 way) ∧ σ.s 3 = .ptr [4, 0] 0 ∧ σ.m [4, 0] = some (.box x.cells) ∧ ∀ y, y ≠ 3 → σ.c y = 0) (by simp [h12, h1, h2, h3, m4]; exact hc) ?_
  clear W h1 h2 h3 m4 hc σ
  rintro σ W ⟨h1, h2, h3, m4, hc⟩
  have k37 := hc 37 (by omega)
  have k7 := hc 7 (by omega)
  have k8 := hc 8 (by omega)
  have k41 := hc 41 (by omega)
  have k52 := hc 52 (by omega)
  have k53 := hc 53 (by omega)
  have k153 := hc 153 (by omega)
  have k10 := hc 10 (by omega)
  have k158 := hc 158 (by omega)
  have k168 := hc 168 (by omega)
  have k187 := hc 187 (by omega)
  have k198 := hc 198 (by omega)
  have k203 := hc 203 (by omega)
  have k204 := hc 204 (by omega)
  have k208 := hc 208 (by omega)
  have k209 := hc 209 (by omega)
  clear hc
  refine wwp_cutW W (fun σ => σ.s 1 = iv n ∧ σ.s 2 = .v (.int .u8 way) ∧ GoodAt T R RM none σ ∧ σ.c 8 = 0 ∧ σ.c 41 = 0 ∧ σ.c 52 = 0 ∧ σ.c 53 = 0 ∧ σ.c 153 = 0 ∧ σ.c 10 = 0 ∧ σ.c 158 = 0 ∧ σ.c 168 = 0 ∧ σ.c 187 = 0 ∧ σ.c 198 = 0 ∧ σ.c 203 = 0 ∧ σ.c 204 = 0 ∧ σ.c 208 = 0 ∧ σ.c 209 = 0) ?_ ?_
  · simp [GoodAt, BadT, h1, h2, h3, m4, Sk.cells, h13, tk, k37, k7, k8, k41, k52, k53, k153, k10, k158, k168, k187, k198, k203, k204, k208, k209]
  clear W h1 h2 h3 m4 k37 k7 k8 k41 k52 k53 k153 k10 k158 k168 k187 k198 k203 k204 k208 k209 σ
  rintro σ W ⟨h1, h2, ⟨h7, m8, _, m38, rfl⟩, k8, k41, k52, k53, k153, k10, k158, k168, k187, k198, k203, k204, k208, k209⟩
  refine wwp_cutW W (fun σ => σ.s 1 = iv n ∧ σ.s 2 = .v (.int .u8 way) ∧ GoodAt T R RM none σ ∧ σ.s 8 = .ptr [9, 0] 0 ∧ σ.m [9, 0] = some (.box [iv T, iv R, iv T, iv 1, iv 2, .sl [38, 0] 5 0 RM.length none]) ∧ σ.c 41 = 0 ∧ σ.c 52 = 0 ∧ σ.c 53 = 0 ∧ σ.c 153 = 0 ∧ σ.c 10 = 0 ∧ σ.c 158 = 0 ∧ σ.c 168 = 0 ∧ σ.c 187 = 0 ∧ σ.c 198 = 0 ∧ σ.c 203 = 0 ∧ σ.c 204 = 0 ∧ σ.c 208 = 0 ∧ σ.c 209 = 0) ?_ ?_
  · simp [GoodAt, BadT, h1, h2, h7, m8, m38, tk, k8, k41, k52, k53, k153, k10, k158, k168, k187, k198, k203, k204, k208, k209]
  clear W h1 h2 h7 m8 m38 k8 k41 k52 k53 k153 k10 k158 k168 k187 k198 k203 k204 k208 k209 σ
  rintro σ W ⟨h1, h2, ⟨h7, m8, _, m38, rfl⟩, h8, m9, k41, k52, k53, k153, k10, k158, k168, k187, k198, k203, k204, k208, k209⟩
  refine wwp_cutW W (fun σ => σ.s 1 = iv n ∧ σ.s 2 = .v (.int .u8 way) ∧ GoodAt T R RM none σ ∧ σ.s 8 = .ptr [9, 0] 0 ∧ σ.m [9, 0] = some (.box [iv T, iv R, iv T, iv 1, iv 2, .sl [42, 0] 5 0 RM.length none]) ∧ σ.m [42, 0] = some (.row [42, 0, 0] 53 (rowsL RM)) ∧ σ.c 52 = 0 ∧ σ.c 53 = 0 ∧ σ.c 153 = 0 ∧ σ.c 10 = 0 ∧ σ.c 158 = 0 ∧ σ.c 168 = 0 ∧ σ.c 187 = 0 ∧ σ.c 198 = 0 ∧ σ.c 203 = 0 ∧ σ.c 204 = 0 ∧ σ.c 208 = 0 ∧ σ.c 209 = 0) ?_ ?_
  · simp [GoodAt, BadT, h1, h2, h7, m8, m38, h8, m9, tk, h24, k41, k52, k53, k153, k10, k158, k168, k187, k198, k203, k204, k208, k209]
  clear W h1 h2 h7 m8 m38 h8 m9 k41 k52 k53 k153 k10 k158 k168 k187 k198 k203 k204 k208 k209 σ
  rintro σ W ⟨h1, h2, ⟨h7, m8, _, m38, rfl⟩, h8, m9, m42, k52, k53, k153, k10, k158, k168, k187, k198, k203, k204, k208, k209⟩
  have wl : IntKind.i64.wrap ((RM.length : Int) - 1) = ((j + 1 : Nat) : Int) := by rw [wrap_in (by omega) (by omega)]; omega
  refine wwp_cutW W (fun σ => σ.s 1 = iv n ∧ σ.s 2 = .v (.int .u8 way) ∧ GoodAt T R RM none σ ∧ σ.s 8 = .ptr [9, 0] 0 ∧ σ.m [9, 0] = some (.box [iv T, iv R, iv T, iv 1, iv 2, .sl [42, 0] 5 0 RM.length none]) ∧ σ.m [42, 0] = some (.row [42, 0, 0] 53 (rowsL RM)) ∧ σ.s 9 = iv ((j + 1 : Nat) : Int) ∧ σ.c 52 = 0 ∧ σ.c 53 = 0 ∧ σ.c 153 = 0 ∧ σ.c 10 = 0 ∧ σ.c 158 = 0 ∧ σ.c 168 = 0 ∧ σ.c 187 = 0 ∧ σ.c 198 = 0 ∧ σ.c 203 = 0 ∧ σ.c 204 = 0 ∧ σ.c 208 = 0 ∧ σ.c 209 = 0) ?_ ?_
  · simp [GoodAt, BadT, h1, h2, h7, m8, m38, h8, m9, m42, wl, k52, k53, k153, k10, k158, k168, k187, k198, k203, k204, k208, k209]
  clear W h1 h2 h7 m8 m38 h8 m9 m42 k52 k53 k153 k10 k158 k168 k187 k198 k203 k204 k208 k209 σ
  rintro σ W ⟨h1, h2, ⟨h7, m8, _, m38, rfl⟩, h8, m9, m42, h9, k52, k53, k153, k10, k158, k168, k187, k198, k203, k204, k208, k209⟩
  have ww : (way : Int).tmod 11 = ((way % 11 : Nat) : Int) := by rw [Int.tmod_eq_emod_of_nonneg (by omega)]; simp
  refine wwp_seq_assoc ?_
  refine wwp_cutW W (fun σ => σ.s 1 = iv n ∧ σ.s 2 = .v (.int .u8 way) ∧ GoodAt T R RM none σ ∧ σ.s 8 = .ptr [9, 0] 0 ∧ σ.m [9, 0] = some (.box [iv T, iv R, iv T, iv 1, iv 2, .sl [42, 0] 5 0 RM.length none]) ∧ σ.m [42, 0] = some (.row [42, 0, 0] 53 (rowsL RM)) ∧ σ.s 9 = iv ((j + 1 : Nat) : Int) ∧ σ.s 48 = .v (.int .u8 (way % 11 : Nat)) ∧ σ.c 52 = 0 ∧ σ.c 53 = 0 ∧ σ.c 153 = 0 ∧ σ.c 10 = 0 ∧ σ.c 158 = 0 ∧ σ.c 168 = 0 ∧ σ.c 187 = 0 ∧ σ.c 198 = 0 ∧ σ.c 203 = 0 ∧ σ.c 204 = 0 ∧ σ.c 208 = 0 ∧ σ.c 209 = 0) ?_ ?_
  · simp [GoodAt, BadT, h1, h2, h7, m8, m38, h8, m9, m42, h9, ww, k52, k53, k153, k10, k158, k168, k187, k198, k203, k204, k208, k209]
  clear W h1 h2 h7 m8 m38 h8 m9 m42 h9 k52 k53 k153 k10 k158 k168 k187 k198 k203 k204 k208 k209 σ
  rintro σ W ⟨h1, h2, ⟨h7, m8, _, m38, rfl⟩, h8, m9, m42, h9, h48, k52, k53, k153, k10, k158, k168, k187, k198, k203, k204, k208, k209⟩
  refine wwp_body (fun σ => σ.s 1 = iv n ∧ GoodAt T R RM none σ ∧ BadAt T σ ∧ σ.c 153 = 0 ∧ σ.c 10 = 0 ∧ σ.c 158 = 0 ∧ σ.c 168 = 0 ∧ σ.c 187 = 0 ∧ σ.c 198 = 0 ∧ σ.c 203 = 0 ∧ σ.c 204 = 0 ∧ σ.c 208 = 0 ∧ σ.c 209 = 0) ?_ ?_
  · refine c8s _ (way % 11) (Nat.mod_lt _ (by omega)) n T R j (j + 1) rfl RM x1 x2 ht hr hj hjl hj36 e1 e2 f1 f2 f3 none _ _ σ ?_ ⟨h7, m8, _, m38, rfl⟩ h8 m9 m42 h9 h1 h48 k52 k53
    intro σ' a1 a2 a3 a4
    refine ⟨a1, a2, a3, ?_⟩
    rw [a4 153 (by omega) (by omega), a4 10 (by omega) (by omega), a4 158 (by omega) (by omega), a4 168 (by omega) (by omega), a4 187 (by omega) (by omega), a4 198 (by omega) (by omega), a4 203 (by omega) (by omega), a4 204 (by omega) (by omega), a4 208 (by omega) (by omega), a4 209 (by omega) (by omega)]
    exact ⟨k153, k10, k158, k168, k187, k198, k203, k204, k208, k209⟩
  clear W h1 h2 h7 m8 m38 h8 m9 m42 h9 h48 k52 k53 k153 k10 k158 k168 k187 k198 k203 k204 k208 k209 σ
  rintro σ ⟨h1, ⟨h7, m8, _, m38, rfl⟩, ⟨bt, br, tb, bl, h8, m9, ⟨g, mb⟩, htb, hbl, hbf⟩, k153, k10, k158, k168, k187, k198, k203, k204, k208, k209⟩
  have tkb : (rowsL bl).take bl.length = rowsL bl := rowsL_take bl
  have b17 := b17 bt br bl hbl hbf
  have b20 := b20 bt br bl hbl hbf
  have b25 := b25 bt br bl hbl hbf
  have b26 := b26 bt br bl hbl hbf
  have b18 := b18 bt br bl hbl hbf
  have b15 := b15 bt br bl hbl hbf
  have b27 := b27 bt br bl hbl hbf
  refine wwp_cut (fun σ => σ.s 1 = iv n ∧ GoodAt T R RM none σ ∧ BadT T bt br tb bl σ ∧ σ.s 11 = iv 290 ∧ σ.c 158 = 0 ∧ σ.c 168 = 0 ∧ σ.c 187 = 0 ∧ σ.c 198 = 0 ∧ σ.c 203 = 0 ∧ σ.c 204 = 0 ∧ σ.c 208 = 0 ∧ σ.c 209 = 0) ?_ ?_
  · rcases htb with rfl | rfl <;> simp [GoodAt, BadT, h1, h7, m8, m38, h8, m9, mb, k153, k10, k158, k168, k187, k198, k203, k204, k208, k209, b17, tkb, noMv]
  clear h1 h7 m8 m38 h8 m9 g mb  k153 k10 k158 k168 k187 k198 k203 k204 k208 k209 σ
  rintro σ ⟨h1, ⟨h7, m8, _, m38, rfl⟩, ⟨h8, m9, g, mb⟩, h11, k158, k168, k187, k198, k203, k204, k208, k209⟩
  refine wwp_cut (fun σ => σ.s 1 = iv n ∧ GoodAt T R RM none σ ∧ BadT T bt br tb bl σ ∧ σ.s 11 = iv 290 ∧ σ.s 13 = iv 290 ∧ σ.c 168 = 0 ∧ σ.c 187 = 0 ∧ σ.c 198 = 0 ∧ σ.c 203 = 0 ∧ σ.c 204 = 0 ∧ σ.c 208 = 0 ∧ σ.c 209 = 0) ?_ ?_
  · rcases htb with rfl | rfl <;> simp [GoodAt, BadT, h1, h7, m8, m38, h8, m9, mb, h11, k158, k168, k187, k198, k203, k204, k208, k209, b20, tkb, noMv]
  clear h1 h7 m8 m38 h8 m9 g mb h11 k158 k168 k187 k198 k203 k204 k208 k209 σ
  rintro σ ⟨h1, ⟨h7, m8, _, m38, rfl⟩, ⟨h8, m9, g, mb⟩, h11, h13, k168, k187, k198, k203, k204, k208, k209⟩
  refine wwp_cut (fun σ => σ.s 1 = iv n ∧ GoodAt T R RM none σ ∧ BadT T bt br tb bl σ ∧ σ.s 11 = iv 290 ∧ σ.s 13 = iv 290 ∧ σ.s 15 = iv 290 ∧ σ.c 168 = 0 ∧ σ.c 187 = 0 ∧ σ.c 198 = 0 ∧ σ.c 203 = 0 ∧ σ.c 204 = 0 ∧ σ.c 208 = 0 ∧ σ.c 209 = 0) ?_ ?_
  · rcases htb with rfl | rfl <;> simp [GoodAt, BadT, h1, h7, m8, m38, h8, m9, mb, h11, h13, k168, k187, k198, k203, k204, k208, k209, b25, tkb, noMv]
  clear h1 h7 m8 m38 h8 m9 g mb h11 h13 k168 k187 k198 k203 k204 k208 k209 σ
  rintro σ ⟨h1, ⟨h7, m8, _, m38, rfl⟩, ⟨h8, m9, g, mb⟩, h11, h13, h15, k168, k187, k198, k203, k204, k208, k209⟩
  refine wwp_cut (fun σ => σ.s 1 = iv n ∧ GoodAt T R RM none σ ∧ BadT T bt br tb bl σ ∧ σ.s 11 = iv 290 ∧ σ.s 13 = iv 290 ∧ σ.s 15 = iv 290 ∧ σ.s 17 = iv 290 ∧ σ.c 187 = 0 ∧ σ.c 198 = 0 ∧ σ.c 203 = 0 ∧ σ.c 204 = 0 ∧ σ.c 208 = 0 ∧ σ.c 209 = 0) ?_ ?_
  · rcases htb with rfl | rfl <;> simp [GoodAt, BadT, h1, h7, m8, m38, h8, m9, mb, h11, h13, h15, k168, k187, k198, k203, k204, k208, k209, b26, tkb, noMv]
  clear h1 h7 m8 m38 h8 m9 g mb h11 h13 h15 k168 k187 k198 k203 k204 k208 k209 σ
  rintro σ ⟨h1, ⟨h7, m8, _, m38, rfl⟩, ⟨h8, m9, g, mb⟩, h11, h13, h15, h17, k187, k198, k203, k204, k208, k209⟩
  refine wwp_cut (fun σ => σ.s 1 = iv n ∧ GoodAt T R RM none σ ∧ BadT T bt br tb bl σ ∧ σ.s 11 = iv 290 ∧ σ.s 13 = iv 290 ∧ σ.s 15 = iv 290 ∧ σ.s 17 = iv 290 ∧ σ.s 19 = iv 290 ∧ σ.c 187 = 0 ∧ σ.c 198 = 0 ∧ σ.c 203 = 0 ∧ σ.c 204 = 0 ∧ σ.c 208 = 0 ∧ σ.c 209 = 0) ?_ ?_
  · rcases htb with rfl | rfl <;> simp [GoodAt, BadT, h1, h7, m8, m38, h8, m9, mb, h11, h13, h15, h17, k187, k198, k203, k204, k208, k209, b18, tkb, noMv]
  clear h1 h7 m8 m38 h8 m9 g mb h11 h13 h15 h17 k187 k198 k203 k204 k208 k209 σ
  rintro σ ⟨h1, ⟨h7, m8, _, m38, rfl⟩, ⟨h8, m9, g, mb⟩, h11, h13, h15, h17, h19, k187, k198, k203, k204, k208, k209⟩
  refine wwp_cut (fun σ => σ.s 1 = iv n ∧ GoodAt T R RM none σ ∧ BadT T bt br tb bl σ ∧ σ.s 11 = iv 290 ∧ σ.s 13 = iv 290 ∧ σ.s 15 = iv 290 ∧ σ.s 17 = iv 290 ∧ σ.s 19 = iv 290 ∧ σ.s 21 = iv 290 ∧ σ.c 187 = 0 ∧ σ.c 198 = 0 ∧ σ.c 203 = 0 ∧ σ.c 204 = 0 ∧ σ.c 208 = 0 ∧ σ.c 209 = 0) ?_ ?_
  · rcases htb with rfl | rfl <;> simp [GoodAt, BadT, h1, h7, m8, m38, h8, m9, mb, h11, h13, h15, h17, h19, k187, k198, k203, k204, k208, k209, b15, tkb, noMv]
  clear h1 h7 m8 m38 h8 m9 g mb h11 h13 h15 h17 h19 k187 k198 k203 k204 k208 k209 σ
  rintro σ ⟨h1, ⟨h7, m8, _, m38, rfl⟩, ⟨h8, m9, g, mb⟩, h11, h13, h15, h17, h19, h21, k187, k198, k203, k204, k208, k209⟩
  refine wwp_cutG (fun σ => σ.s 1 = iv n ∧ GoodAt T R RM none σ ∧ BadT T bt br tb bl σ ∧ σ.c 198 = 0 ∧ σ.c 203 = 0 ∧ σ.c 204 = 0 ∧ σ.c 208 = 0 ∧ σ.c 209 = 0) ?_ ?_
  · refine wwp_cut (fun σ => σ.s 1 = iv n ∧ GoodAt T R RM none σ ∧ BadT T bt br tb bl σ ∧ σ.c 198 = 0 ∧ σ.c 203 = 0 ∧ σ.c 204 = 0 ∧ σ.c 208 = 0 ∧ σ.c 209 = 0 ∧ σ.s 187 = .sl [188, 0] 1 0 6 none ∧ σ.s 188 = iv 6 ∧ (∃ g, σ.m [188, 0] = some (.row g 36 (List.replicate 6 [iv 290]))) ∧ σ.s 189 = iv 0) ?_ ?_
    · rcases htb with rfl | rfl <;> simp [GoodAt, BadT, List.replicate, h1, h7, m8, m38, h8, m9, mb, k198, k203, k204, k208, k209, h11, h13, h15, h17, h19, h21, k187]
    clear h1 h7 m8 m38 h8 m9 g mb k198 k203 k204 k208 k209 h11 h13 h15 h17 h19 h21 k187 σ
    rintro σ ⟨hJ1, hJ2, hJ3, k198, k203, k204, k208, k209, h187, h188, m188, h189⟩
    simp only [wwp_block]
    refine wwp_loop (fun σ => ∃ k : Nat, k ≤ 6 ∧ σ.s 1 = iv n ∧ GoodAt T R RM none σ ∧ BadT T bt br tb bl σ ∧ σ.c 198 = 0 ∧ σ.c 203 = 0 ∧ σ.c 204 = 0 ∧ σ.c 208 = 0 ∧ σ.c 209 = 0 ∧ σ.s 187 = .sl [188, 0] 1 0 6 none ∧ σ.s 188 = iv 6 ∧ (∃ g, σ.m [188, 0] = some (.row g 36 (List.replicate 6 [iv 290]))) ∧ σ.s 189 = iv k) (fun σ => cnt 6 (σ.s 189)) ?_ ?_
    · exact ⟨0, by omega, hJ1, hJ2, hJ3, k198, k203, k204, k208, k209, h187, h188, m188, h189⟩
    clear hJ1 hJ2 hJ3 k198 k203 k204 k208 k209 h187 h188 m188 h189 σ
    rintro σ hw ⟨k, hk, h1, ⟨h7, m8, _, m38, rfl⟩, ⟨h8, m9, g, mb⟩, k198, k203, k204, k208, k209, h187, h188, ⟨gx, m188⟩, h189⟩
    by_cases hlt : k < 6
    · have er : ∀ h, ([[iv 290], [iv 290], [iv 290], [iv 290], [iv 290], [iv 290]] : List (List D))[k]'h = [iv 290] := fun h => by
        show (List.replicate 6 [iv 290])[k]'_ = _
        exact List.getElem_replicate _
      have hw1 : IntKind.i64.wrap ((k : Int) + 1) = (k : Int) + 1 := wrap_succ (show k ≤ 1000000000 by omega)
      have hmu : cnt 6 (σ.s 189) = 6 - k := by simp [h189]
      simp only [hmu]
      clear hmu
      have hlz : (k : Int) < 6 := by omega
      refine wwp_on (fun σ => σ.s 1 = iv n ∧ GoodAt T R RM none σ ∧ BadT T bt br tb bl σ ∧ σ.c 198 = 0 ∧ σ.c 203 = 0 ∧ σ.c 204 = 0 ∧ σ.c 208 = 0 ∧ σ.c 209 = 0 ∧ σ.s 187 = .sl [188, 0] 1 0 6 none ∧ σ.s 188 = iv 6 ∧ (∃ g, σ.m [188, 0] = some (.row g 36 (List.replicate 6 [iv 290]))) ∧ σ.s 189 = iv k) ?_ ?_
      · rcases htb with rfl | rfl <;> simp [GoodAt, BadT, h1, h7, m8, m38, h8, m9, mb, k198, k203, k204, k208, k209, h187, h188, m188, h189, hlt, hlz]
      clear hw h1 h7 m8 m38 h8 m9 g mb k198 k203 k204 k208 k209 h187 h188 gx m188 h189 σ
      rintro σ ⟨h1, ⟨h7, m8, _, m38, rfl⟩, ⟨h8, m9, g, mb⟩, k198, k203, k204, k208, k209, h187, h188, ⟨gx, m188⟩, h189⟩
      rcases htb with rfl | rfl <;>
      · simp [GoodAt, BadT, h1, h7, m8, m38, h8, m9, mb, k198, k203, k204, k208, k209, h187, h188, m188, h189, hlt, hlz, er, hw1]
        exact ⟨⟨k + 1, by omega, rfl⟩, by omega⟩
    · have hkl : k = 6 := by omega
      subst hkl
      refine wwp_off ?_
      rcases htb with rfl | rfl <;> simp [GoodAt, BadT, h1, h7, m8, m38, h8, m9, mb, k198, k203, k204, k208, k209, h187, h188, m188, h189]
  clear h1 h7 m8 m38 h8 m9 g mb k198 k203 k204 k208 k209 h11 h13 h15 h17 h19 h21 k187 σ
  rintro σ ⟨h1, ⟨h7, m8, _, m38, rfl⟩, ⟨h8, m9, g, mb⟩, k198, k203, k204, k208, k209⟩
  have wR : IntKind.i64.wrap ((R : Int) - 1) = (R : Int) - 1 := wrap_in (by omega) (by omega)
  obtain ⟨a1, ha1⟩ : ∃ a1 : Int, a1 = if -1 < n then -1 else n := ⟨_, rfl⟩
  obtain ⟨a2, ha2⟩ : ∃ a2 : Int, a2 = if n < (R : Int) then (R : Int) else n := ⟨_, rfl⟩
  have ga1 := g17a a1 (by rw [ha1]; split <;> omega)
  have ga2 := g17a a2 (by rw [ha2]; split <;> omega)
  have gb1 := g15a a1 (by rw [ha1]; split <;> omega)
  have gb2 := g15a a2 (by rw [ha2]; split <;> omega)
  refine wwp_cutG (fun σ => σ.s 1 = iv n ∧ GoodAt T R RM none σ ∧ BadT T bt br tb bl σ) ?_ ?_
  · refine wwp_cut (fun σ => σ.s 1 = iv n ∧ GoodAt T R RM none σ ∧ BadT T bt br tb bl σ ∧ σ.s 211 = iv 0 ∧ σ.s 209 = .sl [210, 0] 1 0 4 none ∧ σ.s 210 = iv 4 ∧ (∃ g, σ.m [210, 0] = some (.row g 34 [[.sl [199, 0] 1 0 1 none], [.sl [204, 0] 1 0 1 none], [.sl [205, 0] 1 0 2 none], [.sl [209, 0] 1 0 2 none]])) ∧ (∃ g, σ.m [199, 0] = some (.row g 3 [[iv a1]])) ∧ (∃ g, σ.m [204, 0] = some (.row g 3 [[iv a2]])) ∧ (∃ g, σ.m [205, 0] = some (.row g 3 [[iv 0], [iv 0]])) ∧ ∃ g, σ.m [209, 0] = some (.row g 3 [[iv ((R : Int) - 1)], [iv (-1)]])) ?_ ?_
    · rcases htb with rfl | rfl <;> simp [GoodAt, BadT, h1, h7, m8, m38, h8, m9, mb, k198, k203, k204, k208, k209, wR, ← ha1, ← ha2]
    clear h1 h7 m8 m38 h8 m9 g mb k198 k203 k204 k208 k209 σ
    rintro σ ⟨hJ1, hJ2, hJ3, h211, hY⟩
    simp only [wwp_block]
    refine wwp_loop (fun σ => ∃ k : Nat, k ≤ 4 ∧ σ.s 1 = iv n ∧ GoodAt T R RM none σ ∧ BadT T bt br tb bl σ ∧ σ.s 211 = iv k ∧ σ.s 209 = .sl [210, 0] 1 0 4 none ∧ σ.s 210 = iv 4 ∧ (∃ g, σ.m [210, 0] = some (.row g 34 [[.sl [199, 0] 1 0 1 none], [.sl [204, 0] 1 0 1 none], [.sl [205, 0] 1 0 2 none], [.sl [209, 0] 1 0 2 none]])) ∧ (∃ g, σ.m [199, 0] = some (.row g 3 [[iv a1]])) ∧ (∃ g, σ.m [204, 0] = some (.row g 3 [[iv a2]])) ∧ (∃ g, σ.m [205, 0] = some (.row g 3 [[iv 0], [iv 0]])) ∧ ∃ g, σ.m [209, 0] = some (.row g 3 [[iv ((R : Int) - 1)], [iv (-1)]])) (fun σ => cnt 4 (σ.s 211)) ?_ ?_
    · exact ⟨0, by omega, hJ1, hJ2, hJ3, h211, hY⟩
    clear hJ1 hJ2 hJ3 h211 hY σ
    rintro σ hw ⟨k, hk, h1, ⟨h7, m8, _, m38, rfl⟩, ⟨h8, m9, g, mb⟩, h211, h209, h210, ⟨ga, m210⟩, ⟨gb, m199⟩, ⟨gc, m204⟩, ⟨gd, m205⟩, ge, m209⟩
    by_cases hlt : k < 4
    · have hw1 : IntKind.i64.wrap ((k : Int) + 1) = (k : Int) + 1 := wrap_succ (show k ≤ 1000000000 by omega)
      have hmu : cnt 4 (σ.s 211) = 4 - k := by simp [h211]
      simp only [hmu]
      clear hmu
      have hlz : (k : Int) < 4 := by omega
      refine wwp_on (fun σ => σ.s 1 = iv n ∧ GoodAt T R RM none σ ∧ BadT T bt br tb bl σ ∧ σ.s 211 = iv k ∧ σ.s 209 = .sl [210, 0] 1 0 4 none ∧ σ.s 210 = iv 4 ∧ (∃ g, σ.m [210, 0] = some (.row g 34 [[.sl [199, 0] 1 0 1 none], [.sl [204, 0] 1 0 1 none], [.sl [205, 0] 1 0 2 none], [.sl [209, 0] 1 0 2 none]])) ∧ (∃ g, σ.m [199, 0] = some (.row g 3 [[iv a1]])) ∧ (∃ g, σ.m [204, 0] = some (.row g 3 [[iv a2]])) ∧ (∃ g, σ.m [205, 0] = some (.row g 3 [[iv 0], [iv 0]])) ∧ ∃ g, σ.m [209, 0] = some (.row g 3 [[iv ((R : Int) - 1)], [iv (-1)]])) ?_ ?_
      · rcases htb with rfl | rfl <;> simp [GoodAt, BadT, h1, h7, m8, m38, h8, m9, mb, h211, h209, h210, m210, m199, m204, m205, m209, hlt, hlz]
      clear hw h1 h7 m8 m38 h8 m9 g mb h211 h209 h210 ga m210 gb m199 gc m204 gd m205 ge m209 σ
      rintro σ ⟨h1, ⟨h7, m8, _, m38, rfl⟩, ⟨h8, m9, g, mb⟩, h211, h209, h210, ⟨ga, m210⟩, ⟨gb, m199⟩, ⟨gc, m204⟩, ⟨gd, m205⟩, ge, m209⟩
      refine wwp_body (fun σ => σ.s 1 = iv n ∧ GoodAt T R RM none σ ∧ BadT T bt br tb bl σ ∧ σ.s 211 = iv k ∧ σ.s 209 = .sl [210, 0] 1 0 4 none ∧ σ.s 210 = iv 4 ∧ (∃ g, σ.m [210, 0] = some (.row g 34 [[.sl [199, 0] 1 0 1 none], [.sl [204, 0] 1 0 1 none], [.sl [205, 0] 1 0 2 none], [.sl [209, 0] 1 0 2 none]])) ∧ (∃ g, σ.m [199, 0] = some (.row g 3 [[iv a1]])) ∧ (∃ g, σ.m [204, 0] = some (.row g 3 [[iv a2]])) ∧ (∃ g, σ.m [205, 0] = some (.row g 3 [[iv 0], [iv 0]])) ∧ ∃ g, σ.m [209, 0] = some (.row g 3 [[iv ((R : Int) - 1)], [iv (-1)]])) ?_ ?_
      · have h4 : k = 0 ∨ k = 1 ∨ k = 2 ∨ k = 3 := by omega
        rcases h4 with rfl | rfl | rfl | rfl
        · refine wwp_cut (fun σ => (σ.s 1 = iv n ∧ GoodAt T R RM none σ ∧ BadT T bt br tb bl σ ∧ σ.s 211 = iv (0 : Nat) ∧ σ.s 209 = .sl [210, 0] 1 0 4 none ∧ σ.s 210 = iv 4 ∧ (∃ g, σ.m [210, 0] = some (.row g 34 [[.sl [199, 0] 1 0 1 none], [.sl [204, 0] 1 0 1 none], [.sl [205, 0] 1 0 2 none], [.sl [209, 0] 1 0 2 none]])) ∧ (∃ g, σ.m [199, 0] = some (.row g 3 [[iv a1]])) ∧ (∃ g, σ.m [204, 0] = some (.row g 3 [[iv a2]])) ∧ (∃ g, σ.m [205, 0] = some (.row g 3 [[iv 0], [iv 0]])) ∧ ∃ g, σ.m [209, 0] = some (.row g 3 [[iv ((R : Int) - 1)], [iv (-1)]])) ∧ σ.s 25 = .sl [199, 0] 1 0 1 none) ?_ ?_
          · rcases htb with rfl | rfl <;> simp [GoodAt, BadT, h1, h7, m8, m38, h8, m9, mb, h211, h209, h210, m210, m199, m204, m205, m209]
          clear h1 h7 m8 m38 h8 m9 g mb h211 h209 h210 ga m210 gb m199 gc m204 gd m205 ge m209 σ
          rintro σ ⟨⟨h1, ⟨h7, m8, _, m38, rfl⟩, ⟨h8, m9, g, mb⟩, h211, h209, h210, ⟨ga, m210⟩, ⟨gb, m199⟩, ⟨gc, m204⟩, ⟨gd, m205⟩, ge, m209⟩, h25⟩
          refine wwp_cut (fun σ => (σ.s 1 = iv n ∧ GoodAt T R RM none σ ∧ BadT T bt br tb bl σ ∧ σ.s 211 = iv (0 : Nat) ∧ σ.s 209 = .sl [210, 0] 1 0 4 none ∧ σ.s 210 = iv 4 ∧ (∃ g, σ.m [210, 0] = some (.row g 34 [[.sl [199, 0] 1 0 1 none], [.sl [204, 0] 1 0 1 none], [.sl [205, 0] 1 0 2 none], [.sl [209, 0] 1 0 2 none]])) ∧ (∃ g, σ.m [199, 0] = some (.row g 3 [[iv a1]])) ∧ (∃ g, σ.m [204, 0] = some (.row g 3 [[iv a2]])) ∧ (∃ g, σ.m [205, 0] = some (.row g 3 [[iv 0], [iv 0]])) ∧ ∃ g, σ.m [209, 0] = some (.row g 3 [[iv ((R : Int) - 1)], [iv (-1)]])) ∧ σ.s 25 = .sl [199, 0] 1 0 1 none ∧ σ.s 27 = iv 291) ?_ ?_
          · rcases htb with rfl | rfl <;> simp [GoodAt, BadT, h1, h7, m8, m38, h8, m9, mb, h211, h209, h210, m210, m199, m204, m205, m209, h25, tk, ga1, ga2, g17b, g17c, noMv]
          clear h1 h7 m8 m38 h8 m9 g mb h211 h209 h210 ga m210 gb m199 gc m204 gd m205 ge m209 h25 σ
          rintro σ ⟨⟨h1, ⟨h7, m8, _, m38, rfl⟩, ⟨h8, m9, g, mb⟩, h211, h209, h210, ⟨ga, m210⟩, ⟨gb, m199⟩, ⟨gc, m204⟩, ⟨gd, m205⟩, ge, m209⟩, h25, h27⟩
          refine wwp_cut (fun σ => (σ.s 1 = iv n ∧ GoodAt T R RM none σ ∧ BadT T bt br tb bl σ ∧ σ.s 211 = iv (0 : Nat) ∧ σ.s 209 = .sl [210, 0] 1 0 4 none ∧ σ.s 210 = iv 4 ∧ (∃ g, σ.m [210, 0] = some (.row g 34 [[.sl [199, 0] 1 0 1 none], [.sl [204, 0] 1 0 1 none], [.sl [205, 0] 1 0 2 none], [.sl [209, 0] 1 0 2 none]])) ∧ (∃ g, σ.m [199, 0] = some (.row g 3 [[iv a1]])) ∧ (∃ g, σ.m [204, 0] = some (.row g 3 [[iv a2]])) ∧ (∃ g, σ.m [205, 0] = some (.row g 3 [[iv 0], [iv 0]])) ∧ ∃ g, σ.m [209, 0] = some (.row g 3 [[iv ((R : Int) - 1)], [iv (-1)]])) ∧ σ.s 27 = iv 291 ∧ σ.s 29 = iv 291) ?_ ?_
          · rcases htb with rfl | rfl <;> simp [GoodAt, BadT, h1, h7, m8, m38, h8, m9, mb, h211, h209, h210, m210, m199, m204, m205, m209, h25, h27, tk, gb1, gb2, g15b, g15c]
          clear h1 h7 m8 m38 h8 m9 g mb h211 h209 h210 ga m210 gb m199 gc m204 gd m205 ge m209 h25 h27 σ
          rintro σ ⟨⟨h1, ⟨h7, m8, _, m38, rfl⟩, ⟨h8, m9, g, mb⟩, h211, h209, h210, ⟨ga, m210⟩, ⟨gb, m199⟩, ⟨gc, m204⟩, ⟨gd, m205⟩, ge, m209⟩, h27, h29⟩
          rcases htb with rfl | rfl <;> simp [GoodAt, BadT, h1, h7, m8, m38, h8, m9, mb, h211, h209, h210, m210, m199, m204, m205, m209, h27, h29]
        · refine wwp_cut (fun σ => (σ.s 1 = iv n ∧ GoodAt T R RM none σ ∧ BadT T bt br tb bl σ ∧ σ.s 211 = iv (1 : Nat) ∧ σ.s 209 = .sl [210, 0] 1 0 4 none ∧ σ.s 210 = iv 4 ∧ (∃ g, σ.m [210, 0] = some (.row g 34 [[.sl [199, 0] 1 0 1 none], [.sl [204, 0] 1 0 1 none], [.sl [205, 0] 1 0 2 none], [.sl [209, 0] 1 0 2 none]])) ∧ (∃ g, σ.m [199, 0] = some (.row g 3 [[iv a1]])) ∧ (∃ g, σ.m [204, 0] = some (.row g 3 [[iv a2]])) ∧ (∃ g, σ.m [205, 0] = some (.row g 3 [[iv 0], [iv 0]])) ∧ ∃ g, σ.m [209, 0] = some (.row g 3 [[iv ((R : Int) - 1)], [iv (-1)]])) ∧ σ.s 25 = .sl [204, 0] 1 0 1 none) ?_ ?_
          · rcases htb with rfl | rfl <;> simp [GoodAt, BadT, h1, h7, m8, m38, h8, m9, mb, h211, h209, h210, m210, m199, m204, m205, m209]
          clear h1 h7 m8 m38 h8 m9 g mb h211 h209 h210 ga m210 gb m199 gc m204 gd m205 ge m209 σ
          rintro σ ⟨⟨h1, ⟨h7, m8, _, m38, rfl⟩, ⟨h8, m9, g, mb⟩, h211, h209, h210, ⟨ga, m210⟩, ⟨gb, m199⟩, ⟨gc, m204⟩, ⟨gd, m205⟩, ge, m209⟩, h25⟩
          refine wwp_cut (fun σ => (σ.s 1 = iv n ∧ GoodAt T R RM none σ ∧ BadT T bt br tb bl σ ∧ σ.s 211 = iv (1 : Nat) ∧ σ.s 209 = .sl [210, 0] 1 0 4 none ∧ σ.s 210 = iv 4 ∧ (∃ g, σ.m [210, 0] = some (.row g 34 [[.sl [199, 0] 1 0 1 none], [.sl [204, 0] 1 0 1 none], [.sl [205, 0] 1 0 2 none], [.sl [209, 0] 1 0 2 none]])) ∧ (∃ g, σ.m [199, 0] = some (.row g 3 [[iv a1]])) ∧ (∃ g, σ.m [204, 0] = some (.row g 3 [[iv a2]])) ∧ (∃ g, σ.m [205, 0] = some (.row g 3 [[iv 0], [iv 0]])) ∧ ∃ g, σ.m [209, 0] = some (.row g 3 [[iv ((R : Int) - 1)], [iv (-1)]])) ∧ σ.s 25 = .sl [204, 0] 1 0 1 none ∧ σ.s 27 = iv 291) ?_ ?_
          · rcases htb with rfl | rfl <;> simp [GoodAt, BadT, h1, h7, m8, m38, h8, m9, mb, h211, h209, h210, m210, m199, m204, m205, m209, h25, tk, ga1, ga2, g17b, g17c, noMv]
          clear h1 h7 m8 m38 h8 m9 g mb h211 h209 h210 ga m210 gb m199 gc m204 gd m205 ge m209 h25 σ
          rintro σ ⟨⟨h1, ⟨h7, m8, _, m38, rfl⟩, ⟨h8, m9, g, mb⟩, h211, h209, h210, ⟨ga, m210⟩, ⟨gb, m199⟩, ⟨gc, m204⟩, ⟨gd, m205⟩, ge, m209⟩, h25, h27⟩
          refine wwp_cut (fun σ => (σ.s 1 = iv n ∧ GoodAt T R RM none σ ∧ BadT T bt br tb bl σ ∧ σ.s 211 = iv (1 : Nat) ∧ σ.s 209 = .sl [210, 0] 1 0 4 none ∧ σ.s 210 = iv 4 ∧ (∃ g, σ.m [210, 0] = some (.row g 34 [[.sl [199, 0] 1 0 1 none], [.sl [204, 0] 1 0 1 none], [.sl [205, 0] 1 0 2 none], [.sl [209, 0] 1 0 2 none]])) ∧ (∃ g, σ.m [199, 0] = some (.row g 3 [[iv a1]])) ∧ (∃ g, σ.m [204, 0] = some (.row g 3 [[iv a2]])) ∧ (∃ g, σ.m [205, 0] = some (.row g 3 [[iv 0], [iv 0]])) ∧ ∃ g, σ.m [209, 0] = some (.row g 3 [[iv ((R : Int) - 1)], [iv (-1)]])) ∧ σ.s 27 = iv 291 ∧ σ.s 29 = iv 291) ?_ ?_
          · rcases htb with rfl | rfl <;> simp [GoodAt, BadT, h1, h7, m8, m38, h8, m9, mb, h211, h209, h210, m210, m199, m204, m205, m209, h25, h27, tk, gb1, gb2, g15b, g15c]
          clear h1 h7 m8 m38 h8 m9 g mb h211 h209 h210 ga m210 gb m199 gc m204 gd m205 ge m209 h25 h27 σ
          rintro σ ⟨⟨h1, ⟨h7, m8, _, m38, rfl⟩, ⟨h8, m9, g, mb⟩, h211, h209, h210, ⟨ga, m210⟩, ⟨gb, m199⟩, ⟨gc, m204⟩, ⟨gd, m205⟩, ge, m209⟩, h27, h29⟩
          rcases htb with rfl | rfl <;> simp [GoodAt, BadT, h1, h7, m8, m38, h8, m9, mb, h211, h209, h210, m210, m199, m204, m205, m209, h27, h29]
        · refine wwp_cut (fun σ => (σ.s 1 = iv n ∧ GoodAt T R RM none σ ∧ BadT T bt br tb bl σ ∧ σ.s 211 = iv (2 : Nat) ∧ σ.s 209 = .sl [210, 0] 1 0 4 none ∧ σ.s 210 = iv 4 ∧ (∃ g, σ.m [210, 0] = some (.row g 34 [[.sl [199, 0] 1 0 1 none], [.sl [204, 0] 1 0 1 none], [.sl [205, 0] 1 0 2 none], [.sl [209, 0] 1 0 2 none]])) ∧ (∃ g, σ.m [199, 0] = some (.row g 3 [[iv a1]])) ∧ (∃ g, σ.m [204, 0] = some (.row g 3 [[iv a2]])) ∧ (∃ g, σ.m [205, 0] = some (.row g 3 [[iv 0], [iv 0]])) ∧ ∃ g, σ.m [209, 0] = some (.row g 3 [[iv ((R : Int) - 1)], [iv (-1)]])) ∧ σ.s 25 = .sl [205, 0] 1 0 2 none) ?_ ?_
          · rcases htb with rfl | rfl <;> simp [GoodAt, BadT, h1, h7, m8, m38, h8, m9, mb, h211, h209, h210, m210, m199, m204, m205, m209]
          clear h1 h7 m8 m38 h8 m9 g mb h211 h209 h210 ga m210 gb m199 gc m204 gd m205 ge m209 σ
          rintro σ ⟨⟨h1, ⟨h7, m8, _, m38, rfl⟩, ⟨h8, m9, g, mb⟩, h211, h209, h210, ⟨ga, m210⟩, ⟨gb, m199⟩, ⟨gc, m204⟩, ⟨gd, m205⟩, ge, m209⟩, h25⟩
          refine wwp_cut (fun σ => (σ.s 1 = iv n ∧ GoodAt T R RM none σ ∧ BadT T bt br tb bl σ ∧ σ.s 211 = iv (2 : Nat) ∧ σ.s 209 = .sl [210, 0] 1 0 4 none ∧ σ.s 210 = iv 4 ∧ (∃ g, σ.m [210, 0] = some (.row g 34 [[.sl [199, 0] 1 0 1 none], [.sl [204, 0] 1 0 1 none], [.sl [205, 0] 1 0 2 none], [.sl [209, 0] 1 0 2 none]])) ∧ (∃ g, σ.m [199, 0] = some (.row g 3 [[iv a1]])) ∧ (∃ g, σ.m [204, 0] = some (.row g 3 [[iv a2]])) ∧ (∃ g, σ.m [205, 0] = some (.row g 3 [[iv 0], [iv 0]])) ∧ ∃ g, σ.m [209, 0] = some (.row g 3 [[iv ((R : Int) - 1)], [iv (-1)]])) ∧ σ.s 25 = .sl [205, 0] 1 0 2 none ∧ σ.s 27 = iv 291) ?_ ?_
          · rcases htb with rfl | rfl <;> simp [GoodAt, BadT, h1, h7, m8, m38, h8, m9, mb, h211, h209, h210, m210, m199, m204, m205, m209, h25, tk, ga1, ga2, g17b, g17c, noMv]
          clear h1 h7 m8 m38 h8 m9 g mb h211 h209 h210 ga m210 gb m199 gc m204 gd m205 ge m209 h25 σ
          rintro σ ⟨⟨h1, ⟨h7, m8, _, m38, rfl⟩, ⟨h8, m9, g, mb⟩, h211, h209, h210, ⟨ga, m210⟩, ⟨gb, m199⟩, ⟨gc, m204⟩, ⟨gd, m205⟩, ge, m209⟩, h25, h27⟩
          refine wwp_cut (fun σ => (σ.s 1 = iv n ∧ GoodAt T R RM none σ ∧ BadT T bt br tb bl σ ∧ σ.s 211 = iv (2 : Nat) ∧ σ.s 209 = .sl [210, 0] 1 0 4 none ∧ σ.s 210 = iv 4 ∧ (∃ g, σ.m [210, 0] = some (.row g 34 [[.sl [199, 0] 1 0 1 none], [.sl [204, 0] 1 0 1 none], [.sl [205, 0] 1 0 2 none], [.sl [209, 0] 1 0 2 none]])) ∧ (∃ g, σ.m [199, 0] = some (.row g 3 [[iv a1]])) ∧ (∃ g, σ.m [204, 0] = some (.row g 3 [[iv a2]])) ∧ (∃ g, σ.m [205, 0] = some (.row g 3 [[iv 0], [iv 0]])) ∧ ∃ g, σ.m [209, 0] = some (.row g 3 [[iv ((R : Int) - 1)], [iv (-1)]])) ∧ σ.s 27 = iv 291 ∧ σ.s 29 = iv 291) ?_ ?_
          · rcases htb with rfl | rfl <;> simp [GoodAt, BadT, h1, h7, m8, m38, h8, m9, mb, h211, h209, h210, m210, m199, m204, m205, m209, h25, h27, tk, gb1, gb2, g15b, g15c]
          clear h1 h7 m8 m38 h8 m9 g mb h211 h209 h210 ga m210 gb m199 gc m204 gd m205 ge m209 h25 h27 σ
          rintro σ ⟨⟨h1, ⟨h7, m8, _, m38, rfl⟩, ⟨h8, m9, g, mb⟩, h211, h209, h210, ⟨ga, m210⟩, ⟨gb, m199⟩, ⟨gc, m204⟩, ⟨gd, m205⟩, ge, m209⟩, h27, h29⟩
          rcases htb with rfl | rfl <;> simp [GoodAt, BadT, h1, h7, m8, m38, h8, m9, mb, h211, h209, h210, m210, m199, m204, m205, m209, h27, h29]
        · refine wwp_cut (fun σ => (σ.s 1 = iv n ∧ GoodAt T R RM none σ ∧ BadT T bt br tb bl σ ∧ σ.s 211 = iv (3 : Nat) ∧ σ.s 209 = .sl [210, 0] 1 0 4 none ∧ σ.s 210 = iv 4 ∧ (∃ g, σ.m [210, 0] = some (.row g 34 [[.sl [199, 0] 1 0 1 none], [.sl [204, 0] 1 0 1 none], [.sl [205, 0] 1 0 2 none], [.sl [209, 0] 1 0 2 none]])) ∧ (∃ g, σ.m [199, 0] = some (.row g 3 [[iv a1]])) ∧ (∃ g, σ.m [204, 0] = some (.row g 3 [[iv a2]])) ∧ (∃ g, σ.m [205, 0] = some (.row g 3 [[iv 0], [iv 0]])) ∧ ∃ g, σ.m [209, 0] = some (.row g 3 [[iv ((R : Int) - 1)], [iv (-1)]])) ∧ σ.s 25 = .sl [209, 0] 1 0 2 none) ?_ ?_
          · rcases htb with rfl | rfl <;> simp [GoodAt, BadT, h1, h7, m8, m38, h8, m9, mb, h211, h209, h210, m210, m199, m204, m205, m209]
          clear h1 h7 m8 m38 h8 m9 g mb h211 h209 h210 ga m210 gb m199 gc m204 gd m205 ge m209 σ
          rintro σ ⟨⟨h1, ⟨h7, m8, _, m38, rfl⟩, ⟨h8, m9, g, mb⟩, h211, h209, h210, ⟨ga, m210⟩, ⟨gb, m199⟩, ⟨gc, m204⟩, ⟨gd, m205⟩, ge, m209⟩, h25⟩
          refine wwp_cut (fun σ => (σ.s 1 = iv n ∧ GoodAt T R RM none σ ∧ BadT T bt br tb bl σ ∧ σ.s 211 = iv (3 : Nat) ∧ σ.s 209 = .sl [210, 0] 1 0 4 none ∧ σ.s 210 = iv 4 ∧ (∃ g, σ.m [210, 0] = some (.row g 34 [[.sl [199, 0] 1 0 1 none], [.sl [204, 0] 1 0 1 none], [.sl [205, 0] 1 0 2 none], [.sl [209, 0] 1 0 2 none]])) ∧ (∃ g, σ.m [199, 0] = some (.row g 3 [[iv a1]])) ∧ (∃ g, σ.m [204, 0] = some (.row g 3 [[iv a2]])) ∧ (∃ g, σ.m [205, 0] = some (.row g 3 [[iv 0], [iv 0]])) ∧ ∃ g, σ.m [209, 0] = some (.row g 3 [[iv ((R : Int) - 1)], [iv (-1)]])) ∧ σ.s 25 = .sl [209, 0] 1 0 2 none ∧ σ.s 27 = iv 291) ?_ ?_
          · rcases htb with rfl | rfl <;> simp [GoodAt, BadT, h1, h7, m8, m38, h8, m9, mb, h211, h209, h210, m210, m199, m204, m205, m209, h25, tk, ga1, ga2, g17b, g17c, noMv]
          clear h1 h7 m8 m38 h8 m9 g mb h211 h209 h210 ga m210 gb m199 gc m204 gd m205 ge m209 h25 σ
          rintro σ ⟨⟨h1, ⟨h7, m8, _, m38, rfl⟩, ⟨h8, m9, g, mb⟩, h211, h209, h210, ⟨ga, m210⟩, ⟨gb, m199⟩, ⟨gc, m204⟩, ⟨gd, m205⟩, ge, m209⟩, h25, h27⟩
          refine wwp_cut (fun σ => (σ.s 1 = iv n ∧ GoodAt T R RM none σ ∧ BadT T bt br tb bl σ ∧ σ.s 211 = iv (3 : Nat) ∧ σ.s 209 = .sl [210, 0] 1 0 4 none ∧ σ.s 210 = iv 4 ∧ (∃ g, σ.m [210, 0] = some (.row g 34 [[.sl [199, 0] 1 0 1 none], [.sl [204, 0] 1 0 1 none], [.sl [205, 0] 1 0 2 none], [.sl [209, 0] 1 0 2 none]])) ∧ (∃ g, σ.m [199, 0] = some (.row g 3 [[iv a1]])) ∧ (∃ g, σ.m [204, 0] = some (.row g 3 [[iv a2]])) ∧ (∃ g, σ.m [205, 0] = some (.row g 3 [[iv 0], [iv 0]])) ∧ ∃ g, σ.m [209, 0] = some (.row g 3 [[iv ((R : Int) - 1)], [iv (-1)]])) ∧ σ.s 27 = iv 291 ∧ σ.s 29 = iv 291) ?_ ?_
          · rcases htb with rfl | rfl <;> simp [GoodAt, BadT, h1, h7, m8, m38, h8, m9, mb, h211, h209, h210, m210, m199, m204, m205, m209, h25, h27, tk, gb1, gb2, g15b, g15c]
          clear h1 h7 m8 m38 h8 m9 g mb h211 h209 h210 ga m210 gb m199 gc m204 gd m205 ge m209 h25 h27 σ
          rintro σ ⟨⟨h1, ⟨h7, m8, _, m38, rfl⟩, ⟨h8, m9, g, mb⟩, h211, h209, h210, ⟨ga, m210⟩, ⟨gb, m199⟩, ⟨gc, m204⟩, ⟨gd, m205⟩, ge, m209⟩, h27, h29⟩
          rcases htb with rfl | rfl <;> simp [GoodAt, BadT, h1, h7, m8, m38, h8, m9, mb, h211, h209, h210, m210, m199, m204, m205, m209, h27, h29]
      · clear h1 h7 m8 m38 h8 m9 g mb h211 h209 h210 ga m210 gb m199 gc m204 gd m205 ge m209 σ
        rintro σ ⟨h1, ⟨h7, m8, _, m38, rfl⟩, ⟨h8, m9, g, mb⟩, h211, h209, h210, ⟨ga, m210⟩, ⟨gb, m199⟩, ⟨gc, m204⟩, ⟨gd, m205⟩, ge, m209⟩
        rcases htb with rfl | rfl <;>
        · simp [GoodAt, BadT, h1, h7, m8, m38, h8, m9, mb, h211, h209, h210, m210, m199, m204, m205, m209, hw1]
          exact ⟨⟨k + 1, by omega, rfl⟩, by omega⟩
    · have hkl : k = 4 := by omega
      subst hkl
      refine wwp_off ?_
      rcases htb with rfl | rfl <;> simp [GoodAt, BadT, h1, h7, m8, m38, h8, m9, mb, h211, h209, h210, m210, m199, m204, m205, m209]
  clear h1 h7 m8 m38 h8 m9 g mb k198 k203 k204 k208 k209 σ
  rintro σ ⟨h1, ⟨h7, m8, _, m38, rfl⟩, ⟨h8, m9, g, mb⟩⟩
  have w2 : IntKind.i64.wrap (2 * (T : Int)) = 2 * (T : Int) := wrap_in (by omega) (by omega)
  have w2b : IntKind.i64.wrap (2 * (T : Int) + 1) = 2 * (T : Int) + 1 := wrap_in (by omega) (by omega)
  obtain ⟨a3, ha3⟩ : ∃ a3 : Int, a3 = if 0 < n then 0 else n := ⟨_, rfl⟩
  obtain ⟨a4, ha4⟩ : ∃ a4 : Int, a4 = if n < 2 * (T : Int) + 1 then 2 * (T : Int) + 1 else n := ⟨_, rfl⟩
  have gc1 := g25 a3 1 (.inl (by rw [ha3]; split <;> omega))
  have gc2 := g25 1 a4 (.inr (.inl (by rw [ha4]; split <;> omega)))
  have gc3 := g25 2 2 (.inr (.inr rfl))
  have m65 : (65 : Int) ≤ (maxMade : Int) := by have := maxMade_le (n := 65) (by omega); omega
  simp only [List.reduceReplicate] at g15d
  refine wwp_cut (fun σ => σ.s 1 = iv n ∧ GoodAt T R RM none σ ∧ BadT T bt br tb bl σ ∧ σ.s 11 = iv 2) ?_ ?_
  · rcases htb with rfl | rfl <;> simp [GoodAt, BadT, h1, h7, m8, m38, h8, m9, mb, tk, gc1, ← ha3]
  clear h1 h7 m8 m38 h8 m9 g mb  σ
  rintro σ ⟨h1, ⟨h7, m8, _, m38, rfl⟩, ⟨h8, m9, g, mb⟩, h11⟩
  refine wwp_cut (fun σ => σ.s 1 = iv n ∧ GoodAt T R RM none σ ∧ BadT T bt br tb bl σ ∧ σ.s 11 = iv 2 ∧ σ.s 13 = iv 2) ?_ ?_
  · rcases htb with rfl | rfl <;> simp [GoodAt, BadT, h1, h7, m8, m38, h8, m9, mb, h11, tk, w2, w2b, gc2, ← ha4]
  clear h1 h7 m8 m38 h8 m9 g mb h11 σ
  rintro σ ⟨h1, ⟨h7, m8, _, m38, rfl⟩, ⟨h8, m9, g, mb⟩, h11, h13⟩
  refine wwp_cut (fun σ => σ.s 1 = iv n ∧ GoodAt T R RM none σ ∧ BadT T bt br tb bl σ ∧ σ.s 11 = iv 2 ∧ σ.s 13 = iv 2 ∧ σ.s 15 = iv 2) ?_ ?_
  · rcases htb with rfl | rfl <;> simp [GoodAt, BadT, h1, h7, m8, m38, h8, m9, mb, h11, h13, tk, gc3]
  clear h1 h7 m8 m38 h8 m9 g mb h11 h13 σ
  rintro σ ⟨h1, ⟨h7, m8, _, m38, rfl⟩, ⟨h8, m9, g, mb⟩, h11, h13, h15⟩
  refine wwp_cut (fun σ => σ.s 1 = iv n ∧ GoodAt T R RM none σ ∧ BadT T bt br tb bl σ ∧ σ.s 11 = iv 2 ∧ σ.s 13 = iv 2 ∧ σ.s 15 = iv 2 ∧ σ.s 17 = iv 5) ?_ ?_
  · rcases htb with rfl | rfl <;> simp [GoodAt, BadT, h1, h7, m8, m38, h8, m9, mb, h11, h13, h15, tk, m65, g15d]
  clear h1 h7 m8 m38 h8 m9 g mb h11 h13 h15 σ
  rintro σ ⟨h1, ⟨h7, m8, _, m38, rfl⟩, ⟨h8, m9, g, mb⟩, h11, h13, h15, h17⟩
  rcases htb with rfl | rfl <;> simp [GoodAt, BadT, h1, h7, m8, m38, h8, m9, mb, h11, h13, h15, h17, tk, tkb, b27, g27]
end Go.Proofs.Ytpmgaaalfdjikaa
