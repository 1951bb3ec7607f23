/- The reference's Table. No condition. The reference's Unbalance. No condition. The reference's Unbalance: the walk. No condition. The reference's Best is the program's. No condition. -/
import Derived.Test.YtpmgaaalfdjikaaWa
import Derived.Test.YtpmgaaalfdjikaaSd
import Derived.Test.YtpmgaaalfdjikaaRd
import Derived.Test.YtpmgaaalfdjikaaSh
namespace Go.Proofs.Ytpmgaaalfdjikaa
open Go.RowKit
set_option linter.unusedSimpArgs false
set_option linter.unusedVariables false

def W46 : WC × List VRes := ((.seq (.reg [(.stm (.eff (.box 1 (.t 0)) none)), (.set [(2, (.c .nil)), (3, (.c (.v (.int .i64 0))))] [2, 3])]) (.seq (.seq (.reg [(.set [(10, (.ap .inot [(.ap (.call 49) [(.ap (.load 6 true) [(.t 1)])])]))] [8, 9, 10])]) (.cond (.t 10) (.seq (.reg [(.set [(2, (.c .nil)), (3, (.c (.v (.int .i64 290))))] [2, 3])]) .ret) .skip)) (.seq (.reg [(.set [(4, (.c .nil))] [4])]) (.seq (.seq (.reg [(.set [(5, (.c (.v (.int .i64 1))))] [5])]) (.block 0 (.loop (.seq (.seq (.reg [(.set [(14, (.ap (.ibin .leq) [(.t 5), (.ap (.call 65) [(.ap (.load 6 true) [(.t 1)])])]))] [11, 12, 13, 14])]) (.cond (.t 14) .skip (.exit 0))) (.seq (.block 1 (.seq (.reg [(.set [(6, (.c .nil))] [6])]) (.seq (.seq (.reg [(.set [(7, (.c (.v (.int .i64 1))))] [7])]) (.block 2 (.loop (.seq (.seq (.reg [(.set [(20, (.ap (.ibin .leq) [(.t 7), (.ap (.call 65) [(.ap (.load 6 true) [(.t 1)])])]))] [17, 18, 19, 20])]) (.cond (.t 20) .skip (.exit 2))) (.seq (.block 3 (.seq (.reg [(.set [(25, (.ap (.ibin .eql) [(.t 5), (.t 7)]))] [23, 24, 25])]) (.cond (.t 25) (.reg [(.set [(26, (.t 6))] [26]), (.stm (.eff (.lit 27 3 1 1 [(.v (.int .i64 0))] [(0, 1)] [(.c (.v (.int .i64 0)))]) none)), (.stm (.eff (.app 28 3 1 (.t 26) (.t 27)) none)), (.set [(6, (.t 28))] [6])]) (.reg [(.set [(29, (.t 6)), (33, (.ap (.call 66) [(.ap (.load 6 true) [(.t 1)]), (.t 5), (.t 7)]))] [29, 30, 31, 32, 33]), (.stm (.eff (.lit 34 3 1 1 [(.v (.int .i64 0))] [(0, 1)] [(.t 33)]) none)), (.stm (.eff (.app 35 3 1 (.t 29) (.t 34)) none)), (.set [(6, (.t 35))] [6])])))) (.reg [(.set [(7, (.ap (.ibin .add) [(.t 7), (.c (.v (.int .i64 1)))]))] [21, 22, 7])])))))) (.reg [(.set [(36, (.t 4)), (37, (.t 6))] [36, 37]), (.stm (.eff (.lit 38 34 1 1 [.nil] [(0, 1)] [(.t 37)]) none)), (.stm (.eff (.app 39 34 1 (.t 36) (.t 38)) none)), (.set [(4, (.t 39))] [4])])))) (.reg [(.set [(5, (.ap (.ibin .add) [(.t 5), (.c (.v (.int .i64 1)))]))] [15, 16, 5])])))))) (.seq (.reg [(.set [(2, (.t 4)), (3, (.c (.v (.int .i64 0))))] [40, 2, 3])]) .ret))))), [(.t 2), (.t 3)])
theorem is46 : IsFn Try.prog frOf 46 Try.f46 W46 := ⟨by kernel_rfl, by kernel_rfl, by kernel_rfl⟩
theorem nt46 : Try.f46.ntmps = 41 := by kernel_rfl


def tkR (n j : Nat) : Tok := if j + 1 = n then [29, j] else if j + 1 < n then [36, j * (n - 1) + (n - 2)] else [0, j]
def grR (n j : Nat) : Tok := if j = 0 then [29, 0] else if j < n then [36, j * (n - 1)] else [0, j]
def tqR (n j q : Nat) : Tok := if q = j + 1 then [29, j] else [36, j * (n - 1) + (q - 1 - (if j < q then 1 else 0))]
theorem mul_step {n i j : Nat} (h : i < j) : i * (n - 1) + (n - 1) ≤ j * (n - 1) := by
  rw [← Nat.succ_mul]; exact Nat.mul_le_mul_right _ h
theorem tkR_at {n i j : Nat} (h : i < j) (hj : j < n) : ∃ u, tkR n i = [36, u] ∧ u < j * (n - 1) := by
  have := mul_step (n := n) h
  refine ⟨i * (n - 1) + (n - 2), ?_, by omega⟩
  unfold tkR
  rw [if_neg (by omega), if_pos (by omega)]
theorem grR_ne {n i j : Nat} (h : i < j) (hj : j < n) : grR n i ≠ [36, j * (n - 1)] := by
  have := mul_step (n := n) h
  unfold grR
  by_cases h0 : i = 0
  · rw [if_pos h0]; intro e; simp at e
  · rw [if_neg h0, if_pos (by omega)]
    intro e
    injection e with _ e
    injection e with e _
    omega
theorem tkR_inj (n j k : Nat) (h : tkR n j = tkR n k) : j = k := by
  unfold tkR at h
  split at h <;> split at h
  all_goals (try split at h)
  all_goals (try split at h)
  all_goals (simp at h)
  all_goals (try omega)
  rcases Nat.lt_trichotomy j k with e | e | e
  · have := mul_step (n := n) e; omega
  · exact e
  · have := mul_step (n := n) e; omega
theorem grR_inj (n j k : Nat) (h : grR n j = grR n k) : j = k := by
  unfold grR at h
  split at h <;> split at h
  all_goals (try split at h)
  all_goals (try split at h)
  all_goals (try (simp at h))
  all_goals (try omega)
  all_goals
    rcases Nat.lt_trichotomy j k with e | e | e
    · have := mul_step (n := n) e; omega
    · exact e
    · have := mul_step (n := n) e; omega
theorem c46w (p49 p65 p66 : FP) (m : Mv) (n : Nat) (hn : n ≤ 49) (C : Nat → Nat → Int) (h49 : p49 [.agg [iv m.t, iv m.r, iv m.s, iv m.c, iv m.w, .list (rowsL m.rows)]] = some (bv true)) (h65 : p65 [.agg [iv m.t, iv m.r, iv m.s, iv m.c, iv m.w, .list (rowsL m.rows)]] = some (iv n))
    (h66 : ∀ p q : Nat, p < n → q < n → p ≠ q → p66 [.agg [iv m.t, iv m.r, iv m.s, iv m.c, iv m.w, .list (rowsL m.rows)], iv ((p : Int) + 1), iv ((q : Int) + 1)] = some (iv (C p q))) (hC : ∀ p, p < n → C p p = 0)
    (d : D) (mm : Mem) (hd0 : n = 0 → d = .tup [.nil, iv 0] ∧ mm = noMem) (hd1 : 0 < n → d = .tup [.sl [] 1 0 n none, iv 0] ∧ mm = tableMem ((List.range n).map fun p => (List.range n).map (C p))) :
    wwp (mkEnv [(49, p49), (65, p65), (66, p66)] [] []) W46.1 (fun e s => okExit e ∧ ∃ d0, resV W46.2 s = some d0 ∧ Out s d0 d mm) (initV [.agg m.cells]) := by
  obtain ⟨Ls, hLs⟩ : ∃ Ls, Ls = (List.range n).map fun p => (List.range n).map (C p) := ⟨_, rfl⟩
  have hLl : Ls.length = n := by rw [hLs]; simp
  simp only [W46]
  refine wwp_cutW (wf_init _) (fun σ => MvA m σ ∧ σ.c 28 = 0 ∧ σ.c 35 = 0 ∧ σ.c 39 = 0) (by simp [MvA, Mv.cells, Mv.cellsW]) ?_
  rintro σ W ⟨⟨h1, m2⟩, k1, k2, k3⟩
  refine wwp_condW W (fun σ => MvA m σ ∧ σ.c 28 = 0 ∧ σ.c 35 = 0 ∧ σ.c 39 = 0) (by simp [MvA, h1, m2, k1, k2, k3, h49]) ?_
  clear W h1 m2 k1 k2 k3 σ
  rintro σ W ⟨⟨h1, m2⟩, k1, k2, k3⟩
  refine wwp_cut (fun σ => MvA m σ ∧ σ.c 28 = 0 ∧ σ.c 35 = 0 ∧ σ.c 39 = 0 ∧ σ.s 4 = .nil) (by simp [MvA, h1, m2, k1, k2, k3]) ?_
  clear W h1 m2 k1 k2 k3 σ
  rintro σ ⟨⟨h1, m2⟩, k1, k2, k3, h4⟩
  refine wwp_cutG (fun σ => σ.s 4 = varOf 40 n ∧ (0 < n → σ.m [40, n - 1] = some (.row [40, 0] 34 (hdsF (tkR n) 0 Ls))) ∧ LsF (tkR n) (grR n) σ.m 0 Ls) ?_ ?_
  · refine wwp_cut (fun σ => MvA m σ ∧ σ.c 28 = 0 ∧ σ.c 35 = 0 ∧ σ.c 39 = 0 ∧ σ.s 4 = .nil ∧ σ.s 5 = iv 1) (by simp [MvA, h1, m2, k1, k2, k3, h4]) ?_
    clear h1 m2 k1 k2 k3 h4 σ
    rintro σ ⟨hM, k1, k2, k3, h4, h5⟩
    simp only [wwp_block]
    refine wwp_loop (fun σ => ∃ j : Nat, j ≤ n ∧ MvA m σ ∧ σ.c 28 = j ∧ σ.c 35 = j * (n - 1) ∧ σ.c 39 = j ∧ σ.s 4 = varOf 40 j ∧ σ.s 5 = iv (j + 1) ∧
      (0 < j → σ.m [40, j - 1] = some (.row [40, 0] 34 (hdsF (tkR n) 0 (Ls.take j)))) ∧ LsF (tkR n) (grR n) σ.m 0 (Ls.take j)) (fun σ => cnt (n + 1) (σ.s 5)) ?_ ?_
    · exact ⟨0, by omega, hM, k1, by simpa using k2, k3, by simpa [varOf] using h4, by simpa using h5, by omega, fun i L h => by simp at h⟩
    clear hM k1 k2 k3 h4 h5 σ
    rintro σ hw ⟨j, hj, ⟨h1, m2⟩, k1, k2, k3, h4, h5, m40, hls⟩
    refine wwp_seq_assoc ?_
    by_cases hlt : j < n
    · have hlL : j < Ls.length := by omega
      have htk : Ls.take (j + 1) = Ls.take j ++ [Ls[j]] := List.take_succ_eq_append_getElem hlL
      have hLj : Ls[j] = (List.range n).map (C j) := by
        have : ∀ (Ls : List (List Int)) (h : j < Ls.length), Ls = ((List.range n).map fun p => (List.range n).map (C p)) → Ls[j] = (List.range n).map (C j) := by
          rintro _ h rfl
          simp
        exact this Ls hlL hLs
      obtain ⟨L, hL⟩ : ∃ L, L = Ls[j] := ⟨_, rfl⟩
      rw [← hL] at htk hLj
      have hne : L ≠ [] := by rw [hLj]; simp; omega
      have hln : L.length = n := by rw [hLj]; simp
      have htl : (Ls.take j).length = j := by rw [List.length_take]; omega
      have hw1 : IntKind.i64.wrap ((j : Int) + 1 + 1) = (j : Int) + 1 + 1 := wrap_in (by omega) (by omega)
      have hmu : cnt (n + 1) (σ.s 5) = n - j := by simp [h5]
      simp only [hmu]
      clear hmu
      have a1 : (j : Int) + 1 ≤ n := by omega
      have a1' : (j : Int) < n := by omega
      obtain ⟨Lj, hLj'⟩ : ∃ Lj, Lj = Ls.take j := ⟨_, rfl⟩
      rw [← hLj'] at htk hls htl m40
      obtain ⟨e, he⟩ : ∃ e, e = j * (n - 1) := ⟨_, rfl⟩
      have htki : ∀ i, i < j → ∃ u, tkR n i = [36, u] ∧ u < e := fun i hi => by rw [he]; exact tkR_at hi hlt
      have hgri : ∀ i, i < j → grR n i ≠ [36, e] := fun i hi => by rw [he]; exact grR_ne hi hlt
      have hgrj : 0 < j → grR n j = [36, e] := fun h => by unfold grR; rw [if_neg (by omega), if_pos hlt, he]
      rw [← he] at k2
      refine wwp_on (fun σ => MvA m σ ∧ σ.c 28 = j ∧ σ.c 35 = e ∧ σ.c 39 = j ∧ σ.s 4 = varOf 40 j ∧ σ.s 5 = iv (j + 1) ∧
        (0 < j → σ.m [40, j - 1] = some (.row [40, 0] 34 (hdsF (tkR n) 0 Lj))) ∧ LsF (tkR n) (grR n) σ.m 0 Lj) (by simp [MvA, h1, m2, k1, k2, k3, h4, h5, h65, a1, a1']; exact ⟨m40, hls⟩) ?_
      clear hw h1 m2 k1 k2 k3 h4 h5 m40 hls σ
      rintro σ ⟨⟨h1, m2⟩, k1, k2, k3, h4, h5, m40, hls⟩
      refine wwp_body (fun σ => MvA m σ ∧ σ.c 28 = j + 1 ∧ σ.c 35 = e + (n - 1) ∧ σ.c 39 = j + 1 ∧ σ.s 4 = varOf 40 (j + 1) ∧ σ.s 5 = iv (j + 1) ∧
        σ.m [40, j] = some (.row [40, 0] 34 (hdsF (tkR n) 0 (Lj ++ [L]))) ∧ LsF (tkR n) (grR n) σ.m 0 (Lj ++ [L])) ?_ ?_
      · obtain ⟨G, hG⟩ : ∃ G, G = grR n j := ⟨_, rfl⟩
        have hG40 : ¬ [40, 0] = G := by rw [hG]; unfold grR; intro e; split at e <;> (try split at e) <;> simp at e
        have hGi : ∀ i, i < j → ¬ grR n i = G := fun i hi e => by rw [hG] at e; have := grR_inj n i j e; omega
        obtain ⟨bq, hbq⟩ : ∃ bq : Nat → Nat, bq = fun q => if j < q then 1 else 0 := ⟨_, rfl⟩
        have hb0 : ∀ q, q ≤ j → bq q = 0 := fun q h => by rw [hbq]; exact if_neg (by omega)
        have hb1 : ∀ q, j < q → bq q = 1 := fun q h => by rw [hbq]; exact if_pos h
        obtain ⟨tq, htq⟩ : ∃ tq : Nat → Tok, tq = fun q => if q = j + 1 then [29, j] else [36, e + (q - 1 - bq q)] := ⟨_, rfl⟩
        have htqn : tq n = tkR n j := by
          rw [htq]
          unfold tkR
          by_cases h : n = j + 1
          · simp only [if_pos h, if_pos h.symm]
          · simp only [if_neg h, if_neg (Ne.symm h), if_pos (show j + 1 < n by omega), hb1 n hlt]
            rw [he, show n - 1 - 1 = n - 2 by omega]
        obtain ⟨P, hP⟩ : ∃ P : St → Prop, P = fun σ => MvA m σ ∧ σ.c 39 = j ∧ σ.s 4 = varOf 40 j ∧ σ.s 5 = iv (j + 1) ∧ (0 < j → σ.m [40, j - 1] = some (.row [40, 0] 34 (hdsF (tkR n) 0 Lj))) ∧ LsF (tkR n) (grR n) σ.m 0 Lj := ⟨_, rfl⟩
        refine wwp_cut (fun σ => P σ ∧ σ.c 28 = j ∧ σ.c 35 = e ∧ σ.s 6 = .nil) (by simp [hP, MvA, h1, m2, k1, k2, k3, h4, h5]; exact ⟨m40, hls⟩) ?_
        clear h1 m2 k1 k2 k3 h4 h5 m40 hls σ
        rintro σ ⟨hPσ, k1, k2, h6⟩
        rw [hP] at hPσ
        obtain ⟨⟨h1, m2⟩, k3, h4, h5, m40, hls⟩ := hPσ
        refine wwp_cutG (fun σ => P σ ∧ σ.c 28 = j + 1 ∧ σ.c 35 = e + (n - 1) ∧ σ.s 6 = .sl (tkR n j) 1 0 n none ∧ σ.m (tkR n j) = some (.row G 3 (ints L))) ?_ ?_
        · refine wwp_cut (fun σ => P σ ∧ σ.c 28 = j ∧ σ.c 35 = e ∧ σ.s 6 = .nil ∧ σ.s 7 = iv 1) (by simp [hP, MvA, h1, m2, k1, k2, k3, h4, h5, h6]; exact ⟨m40, hls⟩) ?_
          clear h1 m2 k1 k2 k3 h4 h5 m40 hls h6 σ
          rintro σ ⟨hPσ, k1, k2, h6, h7⟩
          simp only [wwp_block]
          refine wwp_loop (fun σ => ∃ q : Nat, q ≤ n ∧ P σ ∧ σ.c 28 = j + bq q ∧ σ.c 35 = e + (q - bq q) ∧ ((q = 0 ∧ σ.s 6 = .nil) ∨ (0 < q ∧ σ.s 6 = .sl (tq q) 1 0 q none ∧ σ.m (tq q) = some (.row G 3 (ints (L.take q))))) ∧ σ.s 7 = iv (q + 1)) (fun σ => cnt (n + 1) (σ.s 7)) ?_ ?_
          · exact ⟨0, by omega, hPσ, by rw [hb0 0 (by omega)]; exact k1, by rw [hb0 0 (by omega)]; exact k2, .inl ⟨rfl, h6⟩, by simpa using h7⟩
          clear hPσ k1 k2 h6 h7 σ
          rintro σ hw ⟨q, hq, hPσ, k1, k2, h6, h7⟩
          rw [hP] at hPσ
          obtain ⟨⟨h1, m2⟩, k3, h4, h5, m40, hls⟩ := hPσ
          refine wwp_seq_assoc ?_
          by_cases hqn : q < n
          · have hw2 : IntKind.i64.wrap ((q : Int) + 1 + 1) = (q : Int) + 1 + 1 := wrap_in (by omega) (by omega)
            have hmu2 : cnt (n + 1) (σ.s 7) = n - q := by simp [h7]
            simp only [hmu2]
            clear hmu2
            have hqL : q < L.length := by omega
            have htk2 : L.take (q + 1) = L.take q ++ [L[q]] := List.take_succ_eq_append_getElem hqL
            have hLq : L[q] = C j q := by
              have : ∀ (L : List Int) (h : q < L.length), L = (List.range n).map (C j) → L[q] = C j q := by rintro _ h rfl; simp
              exact this L hqL hLj
            rw [hLq] at htk2
            have q1 : (q : Int) + 1 ≤ n := by omega
            have q1' : (q : Int) < n := by omega
            refine wwp_on (fun σ => WF σ ∧ P σ ∧ σ.c 28 = j + bq q ∧ σ.c 35 = e + (q - bq q) ∧ ((q = 0 ∧ σ.s 6 = .nil) ∨ (0 < q ∧ σ.s 6 = .sl (tq q) 1 0 q none ∧ σ.m (tq q) = some (.row G 3 (ints (L.take q))))) ∧ σ.s 7 = iv (q + 1)) (by simp [hP, MvA, h1, m2, k1, k2, k3, h4, h5, h7, h65, q1, q1']; exact ⟨hw, ⟨m40, hls⟩, h6⟩) ?_
            clear hw h1 m2 k1 k2 k3 h4 h5 m40 hls h6 h7 σ
            rintro σ ⟨hw, hPσ, k1, k2, h6, h7⟩
            rw [hP] at hPσ
            obtain ⟨⟨h1, m2⟩, k3, h4, h5, m40, hls⟩ := hPσ
            refine wwp_body (fun σ => P σ ∧ σ.c 28 = j + bq (q + 1) ∧ σ.c 35 = e + (q + 1 - bq (q + 1)) ∧ σ.s 6 = .sl (tq (q + 1)) 1 0 (q + 1) none ∧ σ.m (tq (q + 1)) = some (.row G 3 (ints (L.take (q + 1)))) ∧ σ.s 7 = iv (q + 1)) ?_ ?_
            · have lsK : ∀ m' : Mem, (∀ u es gi, u < e → ¬ gi = G → σ.m [36, u] = some (.row gi 3 es) → m' [36, u] = some (.row gi 3 es)) → LsF (tkR n) (grR n) m' 0 Lj := fun m' H => hls.old fun i hi es h => by
                rw [htl] at hi
                obtain ⟨u, hu, hue⟩ := htki i hi
                simp only [Nat.zero_add, hu] at h ⊢
                exact H u es _ hue (hGi i hi) h
              by_cases hqj : q = j
              · subst hqj
                have hc0 : C q q = 0 := hC q hlt
                have e1 : bq q = 0 := hb0 q (by omega)
                have e2 : bq (q + 1) = 1 := hb1 (q + 1) (by omega)
                have e3 : tq (q + 1) = [29, q] := by rw [htq]; simp
                rw [e1] at k1 k2
                rw [e2, e3, htk2, hc0]
                rcases h6 with ⟨h0, h6⟩ | ⟨h0, h6, m6⟩
                · have hG0 : G = [29, 0] := by rw [hG, grR, if_pos h0]
                  rw [hG0]
                  simp [hP, MvA, h1, m2, k1, k2, k3, h4, h5, h7, h6, one_made]
                  exact ⟨⟨m40, hls.old fun i hi es h => absurd hi (by omega)⟩, h0, by simp [ints, h0]⟩
                · have e4 : tq q = [36, e + (q - 1)] := by rw [htq]; simp only [if_neg (show ¬ q = q + 1 by omega), e1]; rfl
                  rw [e4] at h6 m6
                  have hmm : q + 1 ≤ maxMade := by unfold maxMade; omega
                  have hql : q ≤ L.length := by omega
                  have hti : List.take q (ints (L.take q)) = ints (L.take q) := List.take_of_length_le (by simp; omega)
                  have m40 := m40 h0
                  simp [hP, MvA, h1, m2, k1, k2, k3, h4, h5, h7, h6, m6, hmm, one_made, hql, hti, m40, hG40]
                  exact ⟨lsK _ fun u es gi hue hgi h => by simp [h, hgi], by simp [ints]⟩
              · have hcC := h66 j q hlt hqn (fun h => hqj h.symm)
                have hjq : ((j : Int) == (q : Int)) = false := by simp; omega
                have hjq2 : ¬ (j : Int) = (q : Int) := by omega
                have hjq3 : ((j : Int) + 1 == (q : Int) + 1) = false := by simp; omega
                have e0 : bq (q + 1) = bq q := by
                  by_cases hh : j < q
                  · rw [hb1 q hh, hb1 (q + 1) (by omega)]
                  · rw [hb0 q (by omega), hb0 (q + 1) (by omega)]
                have e3 : tq (q + 1) = [36, e + (q - bq q)] := by rw [htq]; simp only [if_neg (show ¬ q + 1 = j + 1 by omega), e0]; rfl
                have hbl : bq q ≤ q := by
                  by_cases hh : j < q
                  · rw [hb1 q hh]; omega
                  · rw [hb0 q (by omega)]; omega
                have e5 : q + 1 - bq q = q - bq q + 1 := by omega
                rw [e0, e3, htk2, e5]
                obtain ⟨b, hb⟩ : ∃ b, b = q - bq q := ⟨_, rfl⟩
                rw [← hb] at k2 ⊢
                rcases h6 with ⟨h0, h6⟩ | ⟨h0, h6, m6⟩
                · have hj0 : 0 < j := by omega
                  have hb00 : b = 0 := by omega
                  have hGe : G = [36, e] := by rw [hG, hgrj hj0]
                  rw [hb00] at k2 ⊢
                  rw [hGe]
                  clear hb00 hb
                  simp [hP, MvA, h1, m2, k1, k2, k3, h4, h5, h7, h6, hcC, hjq, hjq2, hjq3, one_made]
                  exact ⟨⟨m40, lsK _ fun u es gi hue hgi h => by
                    have hu : ¬ u = e := by omega
                    simp [h, hu, k2]⟩, by simp [ints, h0]⟩
                · have hmm : q + 1 ≤ maxMade := by unfold maxMade; omega
                  have hql : q ≤ L.length := by omega
                  have hti : List.take q (ints (L.take q)) = ints (L.take q) := List.take_of_length_le (by simp; omega)
                  obtain ⟨t6, ht6⟩ : ∃ t6, t6 = tq q := ⟨_, rfl⟩
                  rw [← ht6] at h6 m6
                  have n1 := hw.ne m6 34 (σ.c 34) []
                  simp [hP, MvA, h1, m2, k1, k2, k3, h4, h5, h7, h6, m6, hcC, hjq, hjq2, hjq3, hmm, one_made, hql, hti, hG40, n1]
                  exact ⟨⟨fun h0 => by simp [m40 h0, hG40], lsK _ fun u es gi hue hgi h => by
                    have hu : ¬ u = e + b := by omega
                    simp [h, hgi, hu, k2]⟩, by omega, by simp [ints]⟩
            · clear hw h1 m2 k1 k2 k3 h4 h5 m40 hls h6 h7 σ
              rintro σ ⟨hPσ, k1, k2, h6, m6, h7⟩
              rw [hP] at hPσ
              obtain ⟨⟨h1, m2⟩, k3, h4, h5, m40, hls⟩ := hPσ
              simp [hP, MvA, h1, m2, k1, k2, k3, h4, h5, h6, h7, hw2]
              exact ⟨⟨q + 1, by omega, ⟨m40, hls⟩, rfl, rfl, ⟨by omega, ⟨rfl, rfl⟩, m6⟩, by simp⟩, by omega⟩
          · obtain rfl : q = n := by omega
            rw [← hln, List.take_length, hln] at h6
            have q1 : ¬ (q : Int) + 1 ≤ q := by omega
            rcases h6 with ⟨h0, _⟩ | ⟨_, h6, m6⟩
            · omega
            rw [htqn] at h6 m6
            rw [hb1 q hlt] at k1 k2
            refine wwp_off ?_
            simp [hP, MvA, h1, m2, k1, k2, k3, h4, h5, h7, h65, q1, h6, m6]
            exact ⟨m40, hls⟩
        · clear h1 m2 k1 k2 k3 h4 h5 m40 hls h6 σ
          rintro σ ⟨hPσ, k1, k2, h6, m6⟩
          rw [hP] at hPσ
          obtain ⟨⟨h1, m2⟩, k3, h4, h5, m40, hls⟩ := hPσ
          obtain ⟨T6, hT6⟩ : ∃ T6, T6 = tkR n j := ⟨_, rfl⟩
          rw [← hT6] at h6 m6
          have hTn : ∀ k, ¬ T6 = [39, k] ∧ ¬ T6 = [40, k] := fun k => by
            rw [hT6]
            unfold tkR
            refine ⟨fun e => ?_, fun e => ?_⟩ <;> (split at e <;> (try split at e) <;> simp at e)
          have t39 := fun k => (hTn k).1
          have t40 := fun k => (hTn k).2
          have hGj : grR n j = G := hG.symm
          have lsK : ∀ m' : Mem, (∀ u es gi, u < e → ¬ gi = [40, 0] → σ.m [36, u] = some (.row gi 3 es) → m' [36, u] = some (.row gi 3 es)) → LsF (tkR n) (grR n) m' 0 Lj := fun m' H => hls.old fun i hi es h => by
            rw [htl] at hi
            obtain ⟨u, hu, hue⟩ := htki i hi
            simp only [Nat.zero_add, hu] at h ⊢
            exact H u es _ hue (by unfold grR; intro e; split at e <;> (try split at e) <;> simp at e) h
          rcases Nat.eq_zero_or_pos j with h0 | h0
          · rw [varOf, if_pos h0] at h4
            have hLj0 : Lj = [] := List.eq_nil_of_length_eq_zero (by omega)
            simp [MvA, h1, m2, k1, k2, k3, h4, h5, h6, m6, one_made, t39, t40, varOf, h0]
            refine ⟨by simp [hLj0, hdsF, hd, hne, hln, hT6, h0], ?_⟩
            refine (lsK _ fun u es gi hue hgi h => by simp [h, hgi]).snoc fun _ => ?_
            rw [htl, Nat.zero_add, ← hT6, hGj]
            simp [m6, t39, t40]
          · have n0 : ¬ j = 0 := by omega
            rw [varOf, if_neg n0] at h4
            have m40 := m40 h0
            have hmm : j + 1 ≤ maxMade := by unfold maxMade; omega
            have hfl := hdsF_len (tkR n) Lj 0
            rw [htl] at hfl
            have hG40' : ¬ G = [40, 0] := fun h => hG40 h.symm
            simp [MvA, h1, m2, k1, k2, k3, h4, h5, h6, m6, m40, hmm, hfl, one_made, t39, t40, varOf]
            refine ⟨by rw [hdsF_snoc]; simp [hd, hne, htl, hfl, hln, hT6, List.take_of_length_le], ?_⟩
            refine (lsK _ fun u es gi hue hgi h => by simp [h, hgi]).snoc fun _ => ?_
            rw [htl, Nat.zero_add, ← hT6, hGj]
            simp [m6, t39, t40, hG40']
      · rw [← htk]
        clear h1 m2 k1 k2 k3 h4 h5 m40 hls σ
        rintro σ ⟨⟨h1, m2⟩, k1, k2, k3, h4, h5, m40, hls⟩
        have hes : e + (n - 1) = (j + 1) * (n - 1) := by rw [he, Nat.succ_mul]
        rw [hes] at k2
        simp [MvA, h1, m2, k1, k2, k3, h4, h5, hw1]
        exact ⟨⟨j + 1, by omega, rfl, rfl, rfl, rfl, by simp, fun _ => by simpa using m40, hls⟩, by omega⟩
    · obtain rfl : j = n := by omega
      rw [show Ls.take j = Ls by rw [← hLl]; exact List.take_length] at m40 hls
      have a1 : ¬ (j : Int) + 1 ≤ j := by omega
      refine wwp_off ?_
      simp [MvA, h1, m2, h65, h5, a1, h4]
      exact ⟨m40, hls⟩
  · clear h1 m2 k1 k2 k3 h4 σ
    rintro σ ⟨h4, m40, hls⟩
    rcases Nat.eq_zero_or_pos n with h0 | h0
    · obtain ⟨rfl, rfl⟩ := hd0 h0
      rw [varOf, if_pos h0] at h4
      simp [h4]
      exact Out.flatNil
    · obtain ⟨rfl, rfl⟩ := hd1 h0
      rw [varOf, if_neg (by omega)] at h4
      rw [← hLs]
      simp [h4]
      refine Out.table (g := [40, 0]) (tk := tkR n) (gr := grR n) (by simpa using m40 h0) (by simpa [LsF] using hls) (fun k e => ?_) (tkR_inj n) (fun k e => ?_) (grR_inj n)
      · unfold tkR at e; split at e <;> (try split at e) <;> simp at e
      · unfold grR at e; split at e <;> (try split at e) <;> simp at e
end Go.Proofs.Ytpmgaaalfdjikaa
namespace Go.Proofs.Ytpmgaaalfdjikaa
open Go.RowKit
set_option linter.unusedSimpArgs false
set_option linter.unusedVariables false

def W47 : WC × List VRes := ((.seq (.reg [(.stm (.eff (.box 1 (.t 0)) none)), (.set [(2, (.c (.v (.int .i64 0)))), (3, (.c (.v (.int .i64 0))))] [2, 3])]) (.seq (.reg [(.set [(10, (.ap (.load 6 true) [(.t 1)]))] [10]), (.stm (.eff (.callq 11 46 [(.t 10)]) none)), (.set [(4, (.ap (.ext 0) [(.t 11)])), (5, (.ap (.ext 1) [(.t 11)]))] [9, 12, 13, 4, 5])]) (.seq (.reg [(.set [(6, (.c (.v (.int .i64 0))))] [6])]) (.seq (.seq (.reg [(.set [(7, (.c (.v (.int .i64 0))))] [7])]) (.block 0 (.loop (.seq (.seq (.reg [(.set [(17, (.ap (.ibin .lss) [(.t 7), (.ap .llen [(.t 4)])]))] [14, 15, 16, 17])]) (.cond (.t 17) .skip (.exit 0))) (.seq (.block 1 (.seq (.reg [(.set [(8, (.ap (.ibin .add) [(.t 7), (.c (.v (.int .i64 1)))]))] [20, 21, 8])]) (.block 2 (.loop (.seq (.seq (.reg [(.set [(25, (.ap (.ibin .lss) [(.t 8), (.ap .llen [(.t 4)])]))] [22, 23, 24, 25])]) (.cond (.t 25) .skip (.exit 2))) (.seq (.block 3 (.reg [(.set [(6, (.ap (.ibin .add) [(.t 6), (.ap (.ibin .mul) [(.ap (.load 1 false) [(.ap (.idx 3 1) [(.ap (.load 1 false) [(.ap (.idx 34 1) [(.t 4), (.t 7)])]), (.t 8)])]), (.ap (.load 1 false) [(.ap (.idx 3 1) [(.ap (.load 1 false) [(.ap (.idx 34 1) [(.t 4), (.t 7)])]), (.t 8)])])])]))] [28, 29, 30, 31, 32, 33, 34, 35, 36, 37, 38, 39, 40, 41, 42, 43, 44, 6])])) (.reg [(.set [(8, (.ap (.ibin .add) [(.t 8), (.c (.v (.int .i64 1)))]))] [26, 27, 8])]))))))) (.reg [(.set [(7, (.ap (.ibin .add) [(.t 7), (.c (.v (.int .i64 1)))]))] [18, 19, 7])])))))) (.seq (.reg [(.set [(2, (.t 6)), (3, (.t 5))] [45, 46, 2, 3])]) .ret))))), [(.t 2), (.t 3)])
theorem is47 : IsFn Try.prog frOf 47 Try.f47 W47 := ⟨by kernel_rfl, by kernel_rfl, by kernel_rfl⟩
theorem nt47 : Try.f47.ntmps = 47 := by kernel_rfl


def S60 : List D → Option D
  | [.agg xs, .list es] => (asMv xs).bind fun m => (asInts es).bind fun L => if L.length ≤ 1000000 then some (bv (listOK m.r (-1) L)) else none
  | _ => none
theorem s60 : OkP 60 S60 := fun ds d h => by
  unfold S60 at h
  split at h
  · rw [Option.bind_eq_some_iff] at h
    obtain ⟨m, hm, h⟩ := h
    rw [Option.bind_eq_some_iff] at h
    obtain ⟨L, hL, h⟩ := h
    split at h <;> cases h
    rw [asMv_eq hm, asInts_eq hL]
    exact c60 m L (by assumption)
  · cases h
theorem S60_at (m : Mv) (L : List Int) (h : L.length ≤ 1000000) : S60 [.agg m.cells, .list (ints L)] = some (bv (listOK m.r (-1) L)) := by
  simp only [S60, Mv.cells, Mv.cellsW, asMv_cells, asInts_ints, Option.bind_some]
  rw [if_pos h]
theorem c43 (m : Mv) (L : List Int) (hl : L.length ≤ 1000000) (hm : m.rows.length ≤ 1000000) : VCq Try.prog 43 [.agg m.cells, .list (ints L)] (turnRef m L).1 (turnRef m L).2 :=
  wcontract_q (Γ := mkEnv [(49, S49), (60, S60)] [] []) (sound_mk (by simp [s49, s60]) (by simp) (by simp)) mixed is43 (by rw [nt43]; simp) (c43w S49 S60 m L hl (S49_at m hm) (S60_at m L hl))
def S43 : List D → Option (D × Mem)
  | [.agg xs, .list es] => (asMv xs).bind fun m => (asInts es).bind fun L => if L.length ≤ 1000000 ∧ m.rows.length ≤ 1000000 then some (turnRef m L) else none
  | _ => none
theorem s43 : OkQ 43 S43 := fun ds d mm h => by
  unfold S43 at h
  split at h
  · rw [Option.bind_eq_some_iff] at h
    obtain ⟨m, hm, h⟩ := h
    rw [Option.bind_eq_some_iff] at h
    obtain ⟨L, hL, h⟩ := h
    split at h
    · rename_i hc
      have := c43 m L hc.1 hc.2
      rw [Option.some.inj h] at this
      rw [asMv_eq hm, asInts_eq hL]
      exact this
    · cases h
  · cases h
theorem S43_at (m : Mv) (L : List Int) (h : L.length ≤ 1000000) (h2 : m.rows.length ≤ 1000000) : S43 [.agg m.cells, .list (ints L)] = some (turnRef m L) := by
  simp only [S43, Mv.cells, Mv.cellsW, asMv_cells, asInts_ints, Option.bind_some]
  rw [if_pos ⟨h, h2⟩]
def S66 : List D → Option D
  | [.agg xs, .v (.int .i64 p), .v (.int .i64 q)] => (asMv xs).bind fun m => if m.rows.length ≤ 60 then some (iv (outS m.rows p q m.rows.length)) else none
  | _ => none
theorem s66 : OkP 66 S66 := fun ds d h => by
  unfold S66 at h
  split at h
  · rw [Option.bind_eq_some_iff] at h
    obtain ⟨m, hm, h⟩ := h
    split at h <;> cases h
    rw [asMv_eq hm]
    exact c66 m _ _ (by assumption)
  · cases h
theorem S66_at (m : Mv) (p q : Int) (h : m.rows.length ≤ 60) : S66 [.agg m.cells, iv p, iv q] = some (iv (outS m.rows p q m.rows.length)) := by
  simp only [S66, Mv.cells, Mv.cellsW, asMv_cells, Option.bind_some]
  rw [if_pos h]
theorem sound46 : Sound Try.prog (mkEnv [(49, S49), (65, S65), (66, S66)] [] []) := sound_mk (by simp [s49, s65, s66]) (by simp) (by simp)
theorem c46bad (p49 p65 p66 : FP) (m : Mv) (h49 : p49 [.agg [iv m.t, iv m.r, iv m.s, iv m.c, iv m.w, .list (rowsL m.rows)]] = some (bv false)) :
    wwp (mkEnv [(49, p49), (65, p65), (66, p66)] [] []) W46.1 (fun e s => okExit e ∧ ∃ d0, resV W46.2 s = some d0 ∧ Out s d0 (.tup [.nil, iv 290]) noMem) (initV [.agg m.cells]) := by
  simp [W46, Mv.cells, Mv.cellsW, h49]
  exact Out.flatNil
theorem c46 (m : Mv) (hl : m.rows.length ≤ 60) : VCq Try.prog 46 [.agg m.cells] (tableR m).1 (tableR m).2 := by
  have h49 := S49_at m (by omega)
  cases hf : fitB m with
  | false =>
    have e : tableR m = (.tup [.nil, iv 290], noMem) := by unfold tableR; rw [hf]; rfl
    rw [e]
    rw [hf] at h49
    exact wcontract_q sound46 mixed is46 (by rw [nt46]; simp) (c46bad S49 S65 S66 m h49)
  | true =>
    have hg := great_bounds (fit_pairs hf)
    obtain ⟨n, hn⟩ : ∃ n : Nat, great m.rows = n := ⟨(great m.rows).toNat, by omega⟩
    rw [hf] at h49
    have h65 := S65_at m (by omega)
    rw [hn] at h65
    refine wcontract_q sound46 mixed is46 (by rw [nt46]; simp) (c46w S49 S65 S66 m n (by omega) (fun p q => conT m ((p + 1) * 50 + (q + 1))) h49 h65 (fun p q hp hq hpq => ?_) (fun p hp => ?_) _ _ (fun h0 => ?_) fun h0 => ?_)
    · have := S66_at m ((p + 1 : Nat) : Int) ((q + 1 : Nat) : Int) hl
      rw [out_cont hf (by omega) (by omega) (by omega), ← conT_eq hl] at this
      exact this
    · rw [conT_eq hl, cont_diag _ (by omega) (by omega)]
    · unfold tableR
      rw [hf, hn, if_pos rfl]
      simp [h0]
    · unfold tableR
      rw [hf, hn, if_pos rfl]
      have : ¬ n = 0 := by omega
      simp [this]
      rfl
def S46 : List D → Option (D × Mem)
  | [.agg xs] => (asMv xs).bind fun m => if m.rows.length ≤ 60 then some (tableR m) else none
  | _ => none
theorem s46 : OkQ 46 S46 := fun ds d mm h => by
  unfold S46 at h
  split at h
  · rw [Option.bind_eq_some_iff] at h
    obtain ⟨m, hm, h⟩ := h
    split at h
    · rename_i hc
      have := c46 m hc
      rw [Option.some.inj h] at this
      rw [asMv_eq hm]
      exact this
    · cases h
  · cases h
theorem S46_at (m : Mv) (h : m.rows.length ≤ 60) : S46 [.agg m.cells] = some (tableR m) := by
  simp only [S46, Mv.cells, Mv.cellsW, asMv_cells, Option.bind_some]
  rw [if_pos h]

theorem sumTo_split (g : Nat → Int) (a : Nat) : ∀ b, sumTo g (a + b) = sumTo g a + sumTo (fun i => g (a + i)) b
  | 0 => by simp
  | b + 1 => by
    rw [← Nat.add_assoc, sumTo_succ, sumTo_split g a b, sumTo_succ]
    omega
theorem sumTo_add (f g : Nat → Int) : ∀ k, sumTo (fun i => f i + g i) k = sumTo f k + sumTo g k
  | 0 => rfl
  | k + 1 => by simp only [sumTo_succ, sumTo_add f g k]; omega
def triR (f : Nat → Nat → Int) (n p : Nat) : Int := sumTo (fun i => f p (p + 1 + i)) (n - (p + 1))
def tri (f : Nat → Nat → Int) (n : Nat) : Int := sumTo (triR f n) n
theorem tri_succ (f : Nat → Nat → Int) (n : Nat) : tri f (n + 1) = tri f n + sumTo (fun p => f p n) n := by
  unfold tri
  rw [sumTo_succ]
  have e1 : triR f (n + 1) n = 0 := by unfold triR; rw [Nat.sub_self]; rfl
  rw [e1, Int.add_zero, ← sumTo_add]
  refine sumTo_congr fun p hp => ?_
  unfold triR
  rw [show n + 1 - (p + 1) = n - (p + 1) + 1 by omega, sumTo_succ, show p + 1 + (n - (p + 1)) = n by omega]
theorem tri_low {f : Nat → Nat → Int} (hs : ∀ p q, f p q = f q p) : ∀ n, tri f n = sumTo (fun p => sumTo (f p) p) n
  | 0 => rfl
  | n + 1 => by
    rw [tri_succ, tri_low hs n, sumTo_succ]
    congr 1
    exact sumTo_congr fun p _ => hs p n
theorem tri_law {f : Nat → Nat → Int} (hs : ∀ p q, f p q = f q p) (hd : ∀ p, f p p = 0) (n : Nat) : 2 * tri f n = sumTo (fun p => sumTo (f p) n) n := by
  have e : sumTo (fun p => sumTo (f p) n) n = sumTo (fun p => sumTo (f p) p + triR f n p) n := sumTo_congr fun p hp => by
    rw [show n = p + (1 + (n - (p + 1))) by omega, sumTo_split, sumTo_split]
    have e1 : sumTo (fun i => f p (p + i)) 1 = 0 := by simp [sumTo, hd]
    rw [e1, ← show n = p + (1 + (n - (p + 1))) by omega]
    unfold triR
    simp only [Nat.add_assoc, Int.zero_add]
  rw [e, sumTo_add, ← tri_low hs]
  show 2 * tri f n = tri f n + tri f n
  omega
end Go.Proofs.Ytpmgaaalfdjikaa
namespace Go.Proofs.Ytpmgaaalfdjikaa
open Go.RowKit
set_option linter.unusedSimpArgs false
set_option linter.unusedVariables false

theorem c47w (q46 : FQ) (m : Mv) (n : Nat) (hn : n ≤ 49) (err : Int) (C : Nat → Nat → Int) (Ls : List (List Int)) (hLs : Ls = (List.range n).map fun p => (List.range n).map (C p))
    (hbd : ∀ p q, p < n → q < n → -1000000 ≤ C p q ∧ C p q ≤ 1000000)
    (h46a : n = 0 → q46 [.agg [iv m.t, iv m.r, iv m.s, iv m.c, iv m.w, .list (rowsL m.rows)]] = some (.tup [.nil, iv err], noMem))
    (h46b : 0 < n → q46 [.agg [iv m.t, iv m.r, iv m.s, iv m.c, iv m.w, .list (rowsL m.rows)]] = some (.tup [.sl [] 1 0 n none, iv err], tableMem Ls)) :
    wwp (mkEnv [] [(46, q46)] []) W47.1 (fun e s => okExit e ∧ resV W47.2 s = some (.tup [iv (tri (fun p q => C p q * C p q) n), iv err])) (initV [.agg m.cells]) := by
  have hLl : Ls.length = n := by rw [hLs]; simp
  simp only [W47]
  refine wwp_cut (fun σ => MvA m σ ∧ σ.c 11 = 0) (by simp [MvA, Mv.cells, Mv.cellsW]) ?_
  rintro σ ⟨⟨h1, m2⟩, k1⟩
  refine wwp_cut (fun σ => σ.s 4 = tbD 12 n ∧ TbM σ.m 12 n Ls ∧ σ.s 5 = iv err) ?_ ?_
  · rcases Nat.eq_zero_or_pos n with h0 | h0
    · simp [MvA, h1, m2, k1, h46a h0, tbD, h0]
      exact fun h => by omega
    · have n0 : ¬ n = 0 := by omega
      simp [MvA, h1, m2, k1, h46b h0, tbD, n0]
      exact TbM.adopt (by simp [k1])
  clear h1 m2 k1 σ
  rintro σ ⟨h4, tb, h5⟩
  obtain ⟨M, hM⟩ : ∃ M, M = σ.m := ⟨_, rfl⟩
  rw [← hM] at tb
  refine wwp_cut (fun σ => σ.m = M ∧ σ.s 4 = tbD 12 n ∧ σ.s 5 = iv err ∧ σ.s 6 = iv 0) (by simp [h4, h5, hM]) ?_
  clear h4 h5 hM σ
  rintro σ ⟨hM, h4, h5, h6⟩
  obtain ⟨f, hf⟩ : ∃ f : Nat → Nat → Int, f = fun p q => C p q * C p q := ⟨_, rfl⟩
  have fbd : ∀ p q, p < n → q < n → 0 ≤ f p q ∧ f p q ≤ 1000000000000 := fun p q hp hq => by
    have := sq_bound (hbd p q hp hq)
    rw [hf]; simp only; omega
  have ibd : ∀ p, p < n → ∀ k, p + 1 + k ≤ n → 0 ≤ sumTo (fun i => f p (p + 1 + i)) k ∧ sumTo (fun i => f p (p + 1 + i)) k ≤ 1000000000000 * k := by
    intro p hp k
    induction k with
    | zero => intro _; simp
    | succ k ih =>
      intro hk
      have h1 := ih (by omega)
      have h2 := fbd p (p + 1 + k) hp (by omega)
      rw [sumTo_succ]
      push_cast
      omega
  have obd : ∀ p, p ≤ n → 0 ≤ sumTo (triR f n) p ∧ sumTo (triR f n) p ≤ 49000000000000 * p := by
    intro p
    induction p with
    | zero => intro _; simp
    | succ p ih =>
      intro hp
      have h1 := ih (by omega)
      have h2 := ibd p (by omega) (n - (p + 1)) (by omega)
      rw [sumTo_succ]
      unfold triR at h1 ⊢
      push_cast
      omega
  refine wwp_cutG (fun σ => σ.s 5 = iv err ∧ σ.s 6 = iv (tri f n)) ?_ ?_
  · refine wwp_cut (fun σ => σ.m = M ∧ σ.s 4 = tbD 12 n ∧ σ.s 5 = iv err ∧ σ.s 6 = iv 0 ∧ σ.s 7 = iv 0) (by simp [hM, h4, h5, h6]) ?_
    clear hM h4 h5 h6 σ
    rintro σ ⟨hM, h4, h5, h6, h7⟩
    simp only [wwp_block]
    refine wwp_loop (fun σ => ∃ p : Nat, p ≤ n ∧ σ.m = M ∧ σ.s 4 = tbD 12 n ∧ σ.s 5 = iv err ∧ σ.s 6 = iv (sumTo (triR f n) p) ∧ σ.s 7 = iv p) (fun σ => cnt n (σ.s 7)) ?_ ?_
    · exact ⟨0, by omega, hM, h4, h5, h6, h7⟩
    clear hM h4 h5 h6 h7 σ
    rintro σ W ⟨p, hp, hM, h4, h5, h6, h7⟩
    refine wwp_seq_assoc ?_
    by_cases hlt : p < n
    · have hmu : cnt n (σ.s 7) = n - p := by simp [h7]
      simp only [hmu]
      clear hmu
      have n0 : ¬ n = 0 := by omega
      have etb : tbD 12 n = .sl [12, 0] 1 0 n none := if_neg n0
      obtain ⟨⟨g, m41⟩, hls⟩ := tb (by omega)
      have row : ∀ p, p < n → Ls[p]? = some ((List.range n).map (C p)) := fun p hp => by rw [hLs]; simp [hp]
      have hdat : (hdsF (fun j => [12, 0, j + 1]) 0 Ls)[p]? = some [.sl [12, 0, p + 1] 1 0 n none] := by
        have e1 := hdsF_at (fun j => [12, 0, j + 1]) Ls 0 p (by omega)
        have e2 : Ls[p]'(by omega) = (List.range n).map (C p) := (List.getElem?_eq_some_iff.1 (row p hlt)).2
        rw [e1, e2]
        simp [hd, n0]
      have mrow : M [12, 0, p + 1] = some (.row [12, 0, 0, p] 3 (ints ((List.range n).map (C p)))) := by
        have := hls p _ (row p hlt) (by simp; omega)
        simpa using this
      have cell : ∀ q, q < n → (ints ((List.range n).map (C p)))[q]? = some [iv (C p q)] := fun q hq => by
        rw [ints_at (by simpa using hq)]; simp
      have hw1 : IntKind.i64.wrap ((p : Int) + 1) = (p : Int) + 1 := wrap_succ (show p ≤ 1000000000 by omega)
      have hob := obd p (by omega)
      have hos : sumTo (triR f n) (p + 1) = sumTo (triR f n) p + triR f n p := sumTo_succ _ _
      obtain ⟨A, hA⟩ : ∃ A, A = sumTo (triR f n) p := ⟨_, rfl⟩
      rw [← hA] at hos hob h6
      refine wwp_on (fun σ => σ.m = M ∧ σ.s 4 = tbD 12 n ∧ σ.s 5 = iv err ∧ σ.s 6 = iv A ∧ σ.s 7 = iv p) (by simp [hM, h4, h5, h6, h7, hlt]) ?_
      clear W hM h4 h5 h6 h7 σ
      rintro σ ⟨hM, h4, h5, h6, h7⟩
      refine wwp_body (fun σ => σ.m = M ∧ σ.s 4 = tbD 12 n ∧ σ.s 5 = iv err ∧ σ.s 6 = iv (sumTo (triR f n) (p + 1)) ∧ σ.s 7 = iv p) ?_ ?_
      · refine wwp_cut (fun σ => σ.m = M ∧ σ.s 4 = tbD 12 n ∧ σ.s 5 = iv err ∧ σ.s 6 = iv A ∧ σ.s 7 = iv p ∧ σ.s 8 = iv (p + 1)) (by simp [hM, h4, h5, h6, h7, hw1]) ?_
        clear hM h4 h5 h6 h7 σ
        rintro σ ⟨hM, h4, h5, h6, h7, h8⟩
        simp only [wwp_block]
        refine wwp_loop (fun σ => ∃ k : Nat, p + 1 + k ≤ n ∧ σ.m = M ∧ σ.s 4 = tbD 12 n ∧ σ.s 5 = iv err ∧ σ.s 6 = iv (A + sumTo (fun i => f p (p + 1 + i)) k) ∧ σ.s 7 = iv p ∧ σ.s 8 = iv ((p + 1 + k : Nat) : Int)) (fun σ => cnt n (σ.s 8)) ?_ ?_
        · exact ⟨0, by omega, hM, h4, h5, by simpa using h6, h7, by simpa using h8⟩
        clear hM h4 h5 h6 h7 h8 σ
        rintro σ W ⟨k, hk, hM, h4, h5, h6, h7, h8⟩
        obtain ⟨q, hq⟩ : ∃ q, q = p + 1 + k := ⟨_, rfl⟩
        rw [← hq] at hk h8
        refine wwp_seq_assoc ?_
        by_cases hqt : q < n
        · have hmu : cnt n (σ.s 8) = n - q := by simp [h8]
          simp only [hmu]
          clear hmu
          have hw2 : IntKind.i64.wrap ((q : Int) + 1) = (q : Int) + 1 := wrap_succ (show q ≤ 1000000000 by omega)
          have cq := cell q hqt
          have hib := ibd p hlt k (by omega)
          have his : sumTo (fun i => f p (p + 1 + i)) (k + 1) = sumTo (fun i => f p (p + 1 + i)) k + f p q := by rw [sumTo_succ, hq]
          have hfb := fbd p q hlt hqt
          obtain ⟨S, hS⟩ : ∃ S, S = sumTo (fun i => f p (p + 1 + i)) k := ⟨_, rfl⟩
          rw [← hS] at his hib h6
          have efq : C p q * C p q = f p q := by rw [hf]
          have w1 : IntKind.i64.wrap (C p q * C p q) = f p q := by rw [efq]; exact wrap_in (by omega) (by omega)
          have w2 : IntKind.i64.wrap (A + S + f p q) = A + (S + f p q) := by rw [wrap_in (by omega) (by omega)]; omega
          refine wwp_on (fun σ => σ.m = M ∧ σ.s 4 = tbD 12 n ∧ σ.s 5 = iv err ∧ σ.s 6 = iv (A + S) ∧ σ.s 7 = iv p ∧ σ.s 8 = iv q) (by simp [hM, h4, h5, h6, h7, h8, hqt]) ?_
          clear W hM h4 h5 h6 h7 h8 σ
          rintro σ ⟨hM, h4, h5, h6, h7, h8⟩
          refine wwp_body (fun σ => σ.m = M ∧ σ.s 4 = tbD 12 n ∧ σ.s 5 = iv err ∧ σ.s 6 = iv (A + (S + f p q)) ∧ σ.s 7 = iv p ∧ σ.s 8 = iv q) ?_ ?_
          · rw [etb] at h4 ⊢
            simp [hM, h4, h5, h6, h7, h8, m41, hdat, mrow, cq, hlt, hqt, w1, w2]
          · clear hM h4 h5 h6 h7 h8 σ
            rintro σ ⟨hM, h4, h5, h6, h7, h8⟩
            rw [← his] at h6
            simp [hM, h4, h5, h6, h7, h8, hw2]
            exact ⟨⟨k + 1, by omega, rfl, by omega⟩, by omega⟩
        · have hkn : k = n - (p + 1) := by omega
          have hqn : q = n := by omega
          rw [hqn] at h8
          refine wwp_off ?_
          have e : A + sumTo (fun i => f p (p + 1 + i)) k = sumTo (triR f n) (p + 1) := by rw [hos, hkn]; rfl
          rw [e] at h6
          simp [hM, h4, h5, h6, h7, h8]
      · clear hM h4 h5 h6 h7 σ
        rintro σ ⟨hM, h4, h5, h6, h7⟩
        simp [hM, h4, h5, h6, h7, hw1]
        exact ⟨⟨p + 1, by omega, rfl, rfl⟩, by omega⟩
    · obtain rfl : p = n := by omega
      refine wwp_off ?_
      simp [hM, h4, h5, h6, h7]
      rfl
  · clear hM h4 h5 h6 σ
    rintro σ ⟨h5, h6⟩
    simp [h5, h6, hf]
theorem c47 (m : Mv) (hl : m.rows.length ≤ 60) : VCp Try.prog 47 [.agg m.cells] (.tup [iv (unbR m).1, iv (unbR m).2]) := by
  have h46 := S46_at m hl
  have snd : Sound Try.prog (mkEnv [] [(46, S46)] []) := sound_mk (by simp) (by simp [s46]) (by simp)
  cases hf : fitB m with
  | false =>
    have e : unbR m = (0, 290) := by unfold unbR; rw [hf]; rfl
    have e2 : tableR m = (.tup [.nil, iv 290], noMem) := by unfold tableR; rw [hf]; rfl
    rw [e2] at h46
    rw [e]
    exact wcontract_p snd mixed is47 (by rw [nt47]; simp) (c47w S46 m 0 (by omega) 290 (fun _ _ => 0) [] rfl (by intro p q h; omega) (fun _ => h46) (by omega)) rfl
  | true =>
    have hg := great_bounds (fit_pairs hf)
    obtain ⟨n, hn⟩ : ∃ n : Nat, great m.rows = n := ⟨(great m.rows).toNat, by omega⟩
    obtain ⟨C, hC⟩ : ∃ C : Nat → Nat → Int, C = fun p q => cont m.rows ((p + 1) * 50 + (q + 1)) := ⟨_, rfl⟩
    have hT : tabL m n = (List.range n).map fun p => (List.range n).map (C p) := by
      rw [hC]; unfold tabL; simp only [conT_eq hl]
    have hu : unbV m = tri (fun p q => C p q * C p q) n := by
      have e1 := unb_law hf hn
      rw [← unbV_eq hl] at e1
      -- made symmetric and empty on the diagonal outside too
      obtain ⟨f, hfd⟩ : ∃ f : Nat → Nat → Int, f = fun p q => if p < n ∧ q < n then C p q * C p q else 0 := ⟨_, rfl⟩
      have fs : ∀ p q, f p q = f q p := fun p q => by
        rw [hfd]
        simp only
        by_cases h : p < n ∧ q < n
        · rw [if_pos h, if_pos h.symm, hC]; simp only; rw [cont_symm hf (p := p + 1) (q := q + 1) (by omega) (by omega)]
        · rw [if_neg h, if_neg fun h' => h h'.symm]
      have fd : ∀ p, f p p = 0 := fun p => by
        rw [hfd]
        simp only
        split
        · rw [hC]; simp only; rw [cont_diag _ (by omega) (by omega)]; rfl
        · rfl
      have e2 := tri_law fs fd n
      have e3 : tri f n = tri (fun p q => C p q * C p q) n := by
        unfold tri triR
        refine sumTo_congr fun p hp => sumTo_congr fun i hi => ?_
        rw [hfd]; simp only; rw [if_pos (by omega)]
      have e4 : sumTo (fun p => sumTo (f p) n) n = ((List.range n).map fun p => ((List.range n).map fun q => cont m.rows ((p + 1) * 50 + (q + 1)) * cont m.rows ((p + 1) * 50 + (q + 1))).sum).sum := by
        have : sumTo (fun p => sumTo (f p) n) n = sumTo (fun p => sumTo (fun q => C p q * C p q) n) n := sumTo_congr fun p hp => sumTo_congr fun q hq => by rw [hfd]; simp only; rw [if_pos ⟨hp, hq⟩]
        rw [this, hC]
        rfl
      rw [e3, e4, ← e1] at e2
      omega
    have e : unbR m = (tri (fun p q => C p q * C p q) n, 0) := by unfold unbR; rw [if_pos hf, hu]
    have e2 : tableR m = if n = 0 then (.tup [.nil, iv 0], noMem) else (.tup [.sl [] 1 0 n none, iv 0], tableMem (tabL m n)) := by
      unfold tableR
      rw [hf, hn, if_pos rfl]
      simp
    rw [e2] at h46
    rw [e]
    refine wcontract_p snd mixed is47 (by rw [nt47]; simp) (c47w S46 m n (by omega) 0 C _ rfl (fun p q hp hq => by rw [hC]; exact cont_bound hl _) (fun h => ?_) fun h => ?_) rfl
    · rw [if_pos h] at h46; exact h46
    · rw [if_neg (by omega), hT] at h46; exact h46
def S47 : List D → Option D
  | [.agg xs] => (asMv xs).bind fun m => if m.rows.length ≤ 60 then some (.tup [iv (unbR m).1, iv (unbR m).2]) else none
  | _ => none
theorem s47 : OkP 47 S47 := fun ds d h => by
  unfold S47 at h
  split at h
  · rw [Option.bind_eq_some_iff] at h
    obtain ⟨m, hm, h⟩ := h
    split at h <;> cases h
    rw [asMv_eq hm]
    exact c47 m (by assumption)
  · cases h
theorem S47_at (m : Mv) (h : m.rows.length ≤ 60) : S47 [.agg m.cells] = some (.tup [iv (unbR m).1, iv (unbR m).2]) := by
  simp only [S47, Mv.cells, Mv.cellsW, asMv_cells, Option.bind_some]
  rw [if_pos h]
end Go.Proofs.Ytpmgaaalfdjikaa
namespace Go.Proofs.Ytpmgaaalfdjikaa
open Go.RowKit
set_option linter.unusedSimpArgs false
set_option linter.unusedVariables false

def W35 : WC × List VRes := ((.seq (.reg [(.stm (.eff (.box 2 (.t 0)) none)), (.set [(4, (.c (.v (.int .i64 0)))), (5, (.c (.v (.int .i64 0))))] [4, 5])]) (.seq (.seq (.reg [(.set [(16, (.ap .inot [(.ap (.call 49) [(.ap (.load 6 true) [(.t 2)])])]))] [14, 15, 16])]) (.cond (.t 16) (.seq (.reg [(.set [(4, (.c (.v (.int .i64 0)))), (5, (.c (.v (.int .i64 290))))] [4, 5])]) .ret) .skip)) (.seq (.seq (.reg [(.set [(19, (.ap (.ibin .gtr) [(.ap .llen [(.t 1)]), (.c (.v (.int .i64 64)))]))] [17, 18, 19])]) (.cond (.t 19) (.seq (.reg [(.set [(4, (.c (.v (.int .i64 0)))), (5, (.c (.v (.int .i64 5))))] [4, 5])]) .ret) .skip)) (.seq (.seq (.reg [(.set [(22, (.ap (.ibin .eql) [(.ap .llen [(.t 1)]), (.c (.v (.int .i64 0)))]))] [20, 21, 22])]) (.cond (.t 22) (.seq (.reg [(.set [(4, (.c (.v (.int .i64 0)))), (5, (.c (.v (.int .i64 6))))] [4, 5])]) .ret) .skip)) (.seq (.seq (.reg [(.set [(6, (.c (.v (.int .i64 0))))] [6])]) (.block 0 (.loop (.seq (.seq (.reg [(.set [(26, (.ap (.ibin .lss) [(.t 6), (.ap .llen [(.t 1)])]))] [23, 24, 25, 26])]) (.cond (.t 26) .skip (.exit 0))) (.seq (.block 1 (.seq (.reg [(.set [(35, (.ap .inot [(.ap (.call 60) [(.ap (.load 6 true) [(.t 2)]), (.ap (.load 1 false) [(.ap (.idx 34 1) [(.t 1), (.t 6)])])])]))] [29, 30, 31, 32, 33, 34, 35])]) (.cond (.t 35) (.seq (.reg [(.set [(4, (.c (.v (.int .i64 0)))), (5, (.c (.v (.int .i64 291))))] [4, 5])]) .ret) .skip))) (.reg [(.set [(6, (.ap (.ibin .add) [(.t 6), (.c (.v (.int .i64 1)))]))] [27, 28, 6])])))))) (.seq (.reg [(.set [(7, (.c (.v (.int .i64 (-1))))), (8, (.c (.v (.int .i64 0))))] [7, 8])]) (.seq (.seq (.reg [(.set [(9, (.c (.v (.int .i64 0))))] [9])]) (.block 2 (.loop (.seq (.seq (.reg [(.set [(39, (.ap (.ibin .lss) [(.t 9), (.ap .llen [(.t 1)])]))] [36, 37, 38, 39])]) (.cond (.t 39) .skip (.exit 2))) (.seq (.block 3 (.seq (.drw [[(.op 43 (.load 6 true) [(.t 2)] none), (.op 44 .mv [(.t 1)] none), (.op 45 .mv [(.t 9)] none), (.op 46 (.idx 34 1) [(.t 44), (.t 45)] none), (.op 47 (.load 1 false) [(.t 46)] none), (.eff (.callq 48 43 [(.t 43), (.t 47)]) none), (.op 42 .mv [(.t 48)] none), (.op 49 (.ext 0) [(.t 42)] none), (.op 50 (.ext 1) [(.t 42)] none), (.eff (.box 10 (.c (.agg [(.v (.int .i64 0)), (.v (.int .i64 0)), (.v (.int .i64 0)), (.v (.int .i64 0)), (.v (.int .i64 0)), .nil]))) none), (.eff (.store 6 (.t 10) (.t 49)) none), (.op 11 .mv [(.t 50)] none)], [(.op 43 (.load 6 true) [(.t 2)] none), (.op 44 .mv [(.t 1)] none), (.op 45 .mv [(.t 9)] none), (.op 46 (.idx 34 1) [(.t 44), (.t 45)] none), (.op 47 (.load 1 false) [(.t 46)] none), (.eff (.box 10 (.c (.agg [(.v (.int .i64 0)), (.v (.int .i64 0)), (.v (.int .i64 0)), (.v (.int .i64 0)), (.v (.int .i64 0)), .nil]))) none), (.eff (.callq 48 43 [(.t 43), (.t 47)]) none), (.op 42 .mv [(.t 48)] none), (.op 49 (.ext 0) [(.t 42)] none), (.op 50 (.ext 1) [(.t 42)] none), (.eff (.store 6 (.t 10) (.t 49)) none), (.op 11 .mv [(.t 50)] none)]]) (.seq (.reg [(.set [(12, (.ap (.ext 0) [(.ap (.call 47) [(.ap (.load 6 true) [(.t 10)])])])), (13, (.ap (.ext 1) [(.ap (.call 47) [(.ap (.load 6 true) [(.t 10)])])]))] [52, 53, 51, 54, 55, 12, 13])]) (.seq (.reg [(.set [(62, (.ite (.ap (.ibin .lss) [(.t 7), (.c (.v (.int .i64 0)))]) (.c (.v (.bool true))) (.ap (.ibin .lss) [(.t 12), (.t 8)])))] [56, 57, 58, 59, 60, 61, 62])]) (.cond (.t 62) (.reg [(.set [(7, (.t 9)), (8, (.t 12))] [63, 64, 7, 8])]) .skip))))) (.reg [(.set [(9, (.ap (.ibin .add) [(.t 9), (.c (.v (.int .i64 1)))]))] [40, 41, 9])])))))) (.seq (.reg [(.set [(4, (.t 7)), (5, (.c (.v (.int .i64 0))))] [65, 4, 5])]) .ret)))))))), [(.t 4), (.t 5)])
theorem is35 : IsFn Try.prog frOf 35 Try.f35 W35 := ⟨by kernel_rfl, by kernel_rfl, by kernel_rfl⟩
theorem nt35 : Try.f35.ntmps = 66 := by kernel_rfl


def BvA (m : Mv) (Ls : List (List Int)) (σ : St) : Prop := σ.s 1 = .list (lists Ls) ∧ σ.s 2 = .ptr [3, 0] 0 ∧ σ.m [3, 0] = some (.box [iv m.t, iv m.r, iv m.s, iv m.c, iv m.w, .list (rowsL m.rows)])
def firstI (k : Nat) (a : Int) : Int := if k = 0 then -1 else a
theorem c35w (p47 p49 p60 : FP) (q43 : FQ) (m : Mv) (Ls : List (List Int)) (h64 : Ls.length ≤ 64) (h0 : 0 < Ls.length) (V w : Nat → Int) (R : Nat → List Row) (G : Nat → Int × Int)
    (hG0 : (G 0).2 = 0) (hG : ∀ k, k < Ls.length → G (k + 1) = if k = 0 ∨ V k < (G k).2 then ((k : Int), V k) else G k) (hGn : ∀ k, 0 < k → 0 ≤ (G k).1)
    (h49 : p49 [.agg [iv m.t, iv m.r, iv m.s, iv m.c, iv m.w, .list (rowsL m.rows)]] = some (bv true))
    (h60 : ∀ k (h : k < Ls.length), p60 [.agg [iv m.t, iv m.r, iv m.s, iv m.c, iv m.w, .list (rowsL m.rows)], .list (ints Ls[k])] = some (bv true))
    (h43a : ∀ k (h : k < Ls.length), R k = [] → q43 [.agg [iv m.t, iv m.r, iv m.s, iv m.c, iv m.w, .list (rowsL m.rows)], .list (ints Ls[k])] = some (.tup [.agg [iv m.t, iv m.r, iv m.s, iv m.c, iv (w k), .nil], iv 0], noMem))
    (h43b : ∀ k (h : k < Ls.length), R k ≠ [] → q43 [.agg [iv m.t, iv m.r, iv m.s, iv m.c, iv m.w, .list (rowsL m.rows)], .list (ints Ls[k])] = some (.tup [.agg [iv m.t, iv m.r, iv m.s, iv m.c, iv (w k), .sl [] 5 0 (R k).length none], iv 0], rowMem 53 (rowsL (R k))))
    (h47 : ∀ k, k < Ls.length → p47 [.agg [iv m.t, iv m.r, iv m.s, iv m.c, iv (w k), .list (rowsL (R k))]] = some (.tup [iv (V k), iv 0])) :
    wwp (mkEnv [(47, p47), (49, p49), (60, p60)] [(43, q43)] []) W35.1 (fun e s => okExit e ∧ resV W35.2 s = some (.tup [iv (G Ls.length).1, iv 0])) (initV [.agg m.cells, .list (lists Ls)]) := by
  simp only [W35]
  have hz64 : ¬ (64 : Int) < (Ls.length : Int) := by omega
  have hz64' : ¬ 64 < Ls.length := by omega
  have hzi : (Ls.length : Int) ≤ 64 := by omega
  have hz0 : ¬ (Ls.length : Int) = 0 := by omega
  have hz0b : ((Ls.length : Int) == 0) = false := beq_false_of_ne hz0
  have hLne : ¬ Ls = [] := fun h => by rw [h] at h0; simp at h0
  refine wwp_cutW (wf_init _) (BvA m Ls) (by simp [BvA, Mv.cells, Mv.cellsW]) ?_
  rintro σ W ⟨h1, h2, m3⟩
  refine wwp_condW W (BvA m Ls) (by simp [BvA, h1, h2, m3, h49]) ?_
  clear W h1 h2 m3 σ
  rintro σ W ⟨h1, h2, m3⟩
  refine wwp_condW W (BvA m Ls) (by simp [BvA, h1, h2, m3, hzi]) ?_
  clear W h1 h2 m3 σ
  rintro σ W ⟨h1, h2, m3⟩
  refine wwp_condW W (BvA m Ls) (by simp [BvA, h1, h2, m3, hz0, hz0b, hLne]) ?_
  clear W h1 h2 m3 σ
  rintro σ W ⟨h1, h2, m3⟩
  refine wwp_cutG (BvA m Ls) ?_ ?_
  · refine wwp_cut (fun σ => BvA m Ls σ ∧ σ.s 6 = iv 0) (by simp [BvA, h1, h2, m3]) ?_
    clear W h1 h2 m3 σ
    rintro σ ⟨hB, h6⟩
    simp only [wwp_block]
    refine wwp_loop (fun σ => ∃ k : Nat, k ≤ Ls.length ∧ BvA m Ls σ ∧ σ.s 6 = iv k) (fun σ => cnt Ls.length (σ.s 6)) ?_ ?_
    · exact ⟨0, by omega, hB, h6⟩
    clear hB h6 σ
    rintro σ W ⟨k, hk, ⟨h1, h2, m3⟩, h6⟩
    refine wwp_seq_assoc ?_
    by_cases hlt : k < Ls.length
    · have hw1 := wrap_succ (show k ≤ 1000000000 by omega)
      have hmu : cnt Ls.length (σ.s 6) = Ls.length - k := by simp [h6]
      simp only [hmu]
      clear hmu
      have hcl := lists_at hlt
      have e60 := h60 k hlt
      obtain ⟨L, hL⟩ : ∃ L, L = Ls[k] := ⟨_, rfl⟩
      rw [← hL] at hcl e60
      refine wwp_on (fun σ => BvA m Ls σ ∧ σ.s 6 = iv k) (by simp [BvA, h1, h2, m3, h6, hlt]) ?_
      clear W h1 h2 m3 h6 σ
      rintro σ ⟨⟨h1, h2, m3⟩, h6⟩
      refine wwp_body (fun σ => BvA m Ls σ ∧ σ.s 6 = iv k) (by simp [BvA, h1, h2, m3, h6, hlt, hcl, ← hL, e60]) ?_
      clear h1 h2 m3 h6 σ
      rintro σ ⟨⟨h1, h2, m3⟩, h6⟩
      simp [BvA, h1, h2, m3, h6, hw1]
      exact ⟨⟨k + 1, by omega, rfl⟩, by omega⟩
    · refine wwp_off ?_
      simp [BvA, h1, h2, m3, h6, hlt]
  clear W h1 h2 m3 σ
  rintro σ ⟨h1, h2, m3⟩
  refine wwp_cut (fun σ => BvA m Ls σ ∧ σ.s 7 = iv (-1) ∧ σ.s 8 = iv 0) (by simp [BvA, h1, h2, m3]) ?_
  clear h1 h2 m3 σ
  rintro σ ⟨⟨h1, h2, m3⟩, h7, h8⟩
  refine wwp_cutG (fun σ => σ.s 7 = iv (G Ls.length).1) ?_ (fun σ h7 => by simp [h7])
  refine wwp_cut (fun σ => BvA m Ls σ ∧ σ.s 7 = iv (-1) ∧ σ.s 8 = iv 0 ∧ σ.s 9 = iv 0) (by simp [BvA, h1, h2, m3, h7, h8]) ?_
  clear h1 h2 m3 h7 h8 σ
  rintro σ ⟨hB, h7, h8, h9⟩
  simp only [wwp_block]
  refine wwp_loop (fun σ => ∃ k : Nat, k ≤ Ls.length ∧ BvA m Ls σ ∧ σ.s 7 = iv (firstI k (G k).1) ∧ σ.s 8 = iv (G k).2 ∧ σ.s 9 = iv k) (fun σ => cnt Ls.length (σ.s 9)) ?_ ?_
  · exact ⟨0, by omega, hB, h7, by rw [hG0]; exact h8, h9⟩
  clear hB h7 h8 h9 σ
  rintro σ hw ⟨k, hk, ⟨h1, h2, m3⟩, h7, h8, h9⟩
  refine wwp_seq_assoc ?_
  by_cases hlt : k < Ls.length
  · have hw1 := wrap_succ (show k ≤ 1000000000 by omega)
    have hmu : cnt Ls.length (σ.s 9) = Ls.length - k := by simp [h9]
    simp only [hmu]
    clear hmu
    have hcl := lists_at hlt
    have e43a := h43a k hlt
    have e43b := h43b k hlt
    have e47 := h47 k hlt
    have eG := hG k hlt
    obtain ⟨L, hL⟩ : ∃ L, L = Ls[k] := ⟨_, rfl⟩
    rw [← hL] at hcl e43a e43b
    obtain ⟨RK, hRK⟩ : ∃ RK, RK = R k := ⟨_, rfl⟩
    obtain ⟨wk, hwk⟩ : ∃ wk, wk = w k := ⟨_, rfl⟩
    obtain ⟨vk, hvk⟩ : ∃ vk, vk = V k := ⟨_, rfl⟩
    rw [← hRK, ← hwk] at e43a e43b e47
    rw [← hvk] at e47 eG
    have htkR : (rowsL RK).take RK.length = rowsL RK := rowsL_take RK
    refine wwp_on (fun σ => WF σ ∧ BvA m Ls σ ∧ σ.s 7 = iv (firstI k (G k).1) ∧ σ.s 8 = iv (G k).2 ∧ σ.s 9 = iv k) (by simp [BvA, h1, h2, m3, h7, h8, h9, hlt]; exact hw) ?_
    clear hw h1 h2 m3 h7 h8 h9 σ
    rintro σ ⟨hw, ⟨h1, h2, m3⟩, h7, h8, h9⟩
    refine wwp_body (fun σ => BvA m Ls σ ∧ σ.s 7 = iv (firstI (k + 1) (G (k + 1)).1) ∧ σ.s 8 = iv (G (k + 1)).2 ∧ σ.s 9 = iv k) ?_ ?_
    · refine wwp_drwW hw ?_ (fun σ => BvA m Ls σ ∧ σ.s 7 = iv (firstI k (G k).1) ∧ σ.s 8 = iv (G k).2 ∧ σ.s 9 = iv k ∧ ∃ u d, σ.s 10 = .ptr [11, u] 0 ∧ σ.m [11, u] = some (.box [iv m.t, iv m.r, iv m.s, iv m.c, iv wk, d]) ∧ RowsAt σ.m d RK) ?_ ?_
      · intro l hl
        simp only [List.mem_cons, List.not_mem_nil, or_false] at hl
        subst hl
        exact ahead_at 5 9 10 _ rfl (by omega) rfl rfl
      · by_cases hR0 : RK = []
        · simp [BvA, h1, h2, m3, h7, h8, h9, hlt, hcl, ← hL, e43a hR0]
          exact .inl ⟨hR0, rfl⟩
        · simp [BvA, h1, h2, m3, h7, h8, h9, hlt, hcl, ← hL, e43b hR0]
          exact .inr ⟨hR0, [49, σ.c 48], [49, σ.c 48, 0], rfl, by simp⟩
      clear hw h1 h2 m3 h7 h8 h9 σ
      rintro σ hw ⟨⟨h1, h2, m3⟩, h7, h8, h9, u, d, h10, m11, hR⟩
      refine wwp_cut (fun σ => BvA m Ls σ ∧ σ.s 7 = iv (firstI k (G k).1) ∧ σ.s 8 = iv (G k).2 ∧ σ.s 9 = iv k ∧ σ.s 12 = iv vk) ?_ ?_
      · rcases hR with ⟨hR0, rfl⟩ | ⟨hR0, tk, g, rfl, htk⟩
        · rw [hR0] at e47
          simp at e47
          simp [BvA, h1, h2, m3, h7, h8, h9, h10, m11, e47]
        · simp [BvA, h1, h2, m3, h7, h8, h9, h10, m11, htk, htkR, e47]
      clear hw h1 h2 m3 h7 h8 h9 u d h10 m11 hR σ
      rintro σ ⟨⟨h1, h2, m3⟩, h7, h8, h9, h12⟩
      rw [eG]
      by_cases hk0 : k = 0
      · have e1 : firstI k (G k).1 = -1 := if_pos hk0
        have e2 : firstI (k + 1) (k : Int) = k := if_neg (by omega)
        rw [e1] at h7
        rw [if_pos (.inl hk0), e2]
        simp [BvA, h1, h2, m3, h7, h8, h9, h12]
      · have e1 : firstI k (G k).1 = (G k).1 := if_neg hk0
        have hgn := hGn k (by omega)
        have hn : ¬ (G k).1 < 0 := by omega
        rw [e1] at h7
        by_cases hv : vk < (G k).2
        · have e2 : firstI (k + 1) (k : Int) = k := if_neg (by omega)
          rw [if_pos (.inr hv), e2]
          simp [BvA, h1, h2, m3, h7, h8, h9, h12, hn, hv]
        · have e2 : firstI (k + 1) (G k).1 = (G k).1 := if_neg (by omega)
          rw [if_neg (by intro h; rcases h with h | h; exact hk0 h; exact hv h), e2]
          simp [BvA, h1, h2, m3, h7, h8, h9, h12, hn, hv]
    · clear hw h1 h2 m3 h7 h8 h9 σ
      rintro σ ⟨⟨h1, h2, m3⟩, h7, h8, h9⟩
      simp [BvA, h1, h2, m3, h7, h8, h9, hw1]
      exact ⟨⟨k + 1, by omega, rfl, rfl, rfl⟩, by omega⟩
  · obtain rfl : k = Ls.length := by omega
    refine wwp_off ?_
    have e1 : firstI Ls.length (G Ls.length).1 = (G Ls.length).1 := if_neg (by omega)
    rw [e1] at h7
    simp [h1, h2, m3, h7, h8, h9]
theorem c35bad (p47 p49 p60 : FP) (q43 : FQ) (m : Mv) (Ls : List (List Int)) (e : Int) (hl : Ls.length ≤ 1000000) (he : e = if fitB m = true then (if 64 < Ls.length then 5 else if Ls.length = 0 then 6 else 291) else 290)
    (h49 : p49 [.agg [iv m.t, iv m.r, iv m.s, iv m.c, iv m.w, .list (rowsL m.rows)]] = some (bv (fitB m)))
    (h60 : ∀ k (h : k < Ls.length), p60 [.agg [iv m.t, iv m.r, iv m.s, iv m.c, iv m.w, .list (rowsL m.rows)], .list (ints Ls[k])] = some (bv (listOK m.r (-1) Ls[k])))
    (hex : 0 < Ls.length → Ls.length ≤ 64 → fitB m = true → ∃ k, ∃ h : k < Ls.length, listOK m.r (-1) Ls[k] = false) :
    wwp (mkEnv [(47, p47), (49, p49), (60, p60)] [(43, q43)] []) W35.1 (fun e' s => okExit e' ∧ resV W35.2 s = some (.tup [iv 0, iv e])) (initV [.agg m.cells, .list (lists Ls)]) := by
  simp only [W35]
  refine wwp_cutW (wf_init _) (BvA m Ls) (by simp [BvA, Mv.cells, Mv.cellsW]) ?_
  rintro σ W ⟨h1, h2, m3⟩
  cases hf : fitB m with
  | false =>
    rw [hf] at h49 he
    have he' : e = 290 := he
    simp [h1, h2, m3, h49, he']
  | true =>
  rw [hf] at h49 he
  rw [if_pos rfl] at he
  refine wwp_condW W (BvA m Ls) (by simp [BvA, h1, h2, m3, h49]) ?_
  clear W h1 h2 m3 σ
  rintro σ W ⟨h1, h2, m3⟩
  by_cases h64 : 64 < Ls.length
  · rw [if_pos h64] at he
    have hzi : (64 : Int) < (Ls.length : Int) := by omega
    simp [h1, h2, m3, h64, hzi, he]
  rw [if_neg h64] at he
  have h64' : Ls.length ≤ 64 := by omega
  have hzi : (Ls.length : Int) ≤ 64 := by omega
  refine wwp_condW W (BvA m Ls) (by simp [BvA, h1, h2, m3, hzi]) ?_
  clear W h1 h2 m3 σ
  rintro σ W ⟨h1, h2, m3⟩
  by_cases h0 : Ls.length = 0
  · rw [if_pos h0] at he
    have : Ls = [] := List.eq_nil_of_length_eq_zero h0
    simp [h1, h2, m3, this, he]
  rw [if_neg h0] at he
  have hz0 : ¬ (Ls.length : Int) = 0 := by omega
  have hz0b : ((Ls.length : Int) == 0) = false := beq_false_of_ne hz0
  have hLne : ¬ Ls = [] := fun h => by rw [h] at h0; simp at h0
  refine wwp_condW W (BvA m Ls) (by simp [BvA, h1, h2, m3, hz0, hz0b, hLne]) ?_
  clear W h1 h2 m3 σ
  rintro σ W ⟨h1, h2, m3⟩
  refine wwp_cutG (fun _ => False) ?_ (fun _ h => h.elim)
  refine wwp_cut (fun σ => BvA m Ls σ ∧ σ.s 6 = iv 0) (by simp [BvA, h1, h2, m3]) ?_
  clear W h1 h2 m3 σ
  rintro σ ⟨hB, h6⟩
  simp only [wwp_block]
  refine wwp_loop (fun σ => ∃ k : Nat, k ≤ Ls.length ∧ BvA m Ls σ ∧ σ.s 6 = iv k ∧ ∀ i (h : i < Ls.length), i < k → listOK m.r (-1) Ls[i] = true) (fun σ => cnt Ls.length (σ.s 6)) ?_ ?_
  · exact ⟨0, by omega, hB, h6, fun i _ h => absurd h (by omega)⟩
  clear hB h6 σ
  rintro σ W ⟨k, hk, ⟨h1, h2, m3⟩, h6, hok⟩
  refine wwp_seq_assoc ?_
  by_cases hlt : k < Ls.length
  · have hw1 := wrap_succ (show k ≤ 1000000000 by omega)
    have hmu : cnt Ls.length (σ.s 6) = Ls.length - k := by simp [h6]
    simp only [hmu]
    clear hmu
    have hcl := lists_at hlt
    have e60 := h60 k hlt
    obtain ⟨L, hL⟩ : ∃ L, L = Ls[k] := ⟨_, rfl⟩
    rw [← hL] at hcl e60
    refine wwp_on (fun σ => BvA m Ls σ ∧ σ.s 6 = iv k) (by simp [BvA, h1, h2, m3, h6, hlt]) ?_
    clear W h1 h2 m3 h6 σ
    rintro σ ⟨⟨h1, h2, m3⟩, h6⟩
    refine wwp_body (fun σ => BvA m Ls σ ∧ σ.s 6 = iv k ∧ listOK m.r (-1) L = true) ?_ ?_
    · cases hx : listOK m.r (-1) L with
      | false =>
        rw [hx] at e60
        simp [h1, h2, m3, h6, hlt, hcl, ← hL, e60, he]
      | true =>
        rw [hx] at e60
        simp [BvA, h1, h2, m3, h6, hlt, hcl, ← hL, e60]
    clear h1 h2 m3 h6 σ
    rintro σ ⟨⟨h1, h2, m3⟩, h6, hx⟩
    simp [BvA, h1, h2, m3, h6, hw1]
    refine ⟨⟨k + 1, by omega, rfl, fun i hi hik => ?_⟩, by omega⟩
    by_cases hik' : i < k
    · exact hok i hi hik'
    · obtain rfl : i = k := by omega
      rw [← hL]; exact hx
  · obtain ⟨j, hj, hjf⟩ := hex (by omega) h64' hf
    have := hok j hj (by omega)
    rw [hjf] at this
    cases this
theorem c35 (m : Mv) (Ls : List (List Int)) (hm : m.rows.length ≤ 60) (hl : Ls.length ≤ 1000000) (hL : ∀ L ∈ Ls, L.length ≤ 1000000) : VCp Try.prog 35 [.agg m.cells, .list (lists Ls)] (.tup [iv (bestR m Ls).1, iv (bestR m Ls).2]) := by
  have snd : Sound Try.prog (mkEnv [(47, S47), (49, S49), (60, S60)] [(43, S43)] []) := sound_mk (by simp [s47, s49, s60]) (by simp [s43]) (by simp)
  have h49 := S49_at m (by omega)
  have h60 : ∀ k (h : k < Ls.length), S60 [.agg m.cells, .list (ints Ls[k])] = some (bv (listOK m.r (-1) Ls[k])) := fun k h => S60_at m _ (hL _ (List.getElem_mem h))
  by_cases hg : fitB m = true ∧ Ls.length ≤ 64 ∧ 0 < Ls.length ∧ ∀ L ∈ Ls, listOK m.r (-1) L = true
  · obtain ⟨hf, h64, h0, hok⟩ := hg
    rw [bestR_ok hf h64 h0 hok]
    rw [hf] at h49
    obtain ⟨G, hG⟩ : ∃ G, G = bestGo (fun L => unbV (exch m L)) Ls := ⟨_, rfl⟩
    have el : ∀ k, (exch m (Ls.getD k [])).rows.length = m.rows.length := fun k => exch_len m _
    have gd : ∀ k (h : k < Ls.length), Ls.getD k [] = Ls[k] := fun k h => by simp [List.getD, h]
    have tr : ∀ k (h : k < Ls.length), S43 [.agg m.cells, .list (ints Ls[k])] = some (turnRef m Ls[k]) := fun k h => S43_at m _ (hL _ (List.getElem_mem h)) (by omega)
    rw [← hG]
    refine wcontract_p snd mixed is35 (by rw [nt35]; simp) (c35w S47 S49 S60 S43 m Ls h64 h0 (fun k => unbV (exch m (Ls.getD k []))) (fun k => (exch m (Ls.getD k [])).w) (fun k => (exch m (Ls.getD k [])).rows) G
      (by rw [hG]; rfl) (fun k hk => by rw [hG]; rfl) (fun k hk => ?_) h49 (fun k h => ?_) (fun k h hR => ?_) (fun k h hR => ?_) (fun k h => ?_)) rfl
    · obtain ⟨a, _, ha, _⟩ := bestGo_law (fun L => unbV (exch m L)) Ls k hk
      rw [hG, ha]
      simp only; omega
    · have := h60 k h
      rw [hok _ (List.getElem_mem h)] at this
      exact this
    · have e := tr k h
      have hr : m.rows.isEmpty = true := by
        have := el k
        have hR' : (exch m (Ls.getD k [])).rows = [] := hR
        rw [hR'] at this
        simpa using List.eq_nil_of_length_eq_zero this.symm
      unfold turnRef at e
      rw [hf, hok _ (List.getElem_mem h), if_pos rfl, if_pos rfl, if_pos hr, ← gd k h] at e
      rw [← gd k h]
      exact e
    · have e := tr k h
      have hr : m.rows.isEmpty = false := by
        cases hm : m.rows with
        | nil => exfalso; apply hR; simp only [exch, hm, List.map_nil]
        | cons => rfl
      unfold turnRef at e
      rw [hf, hok _ (List.getElem_mem h), if_pos rfl, if_pos rfl, if_neg (by rw [hr]; simp), ← gd k h] at e
      simp only [el]
      rw [← gd k h]
      exact e
    · have e := S47_at (exch m (Ls.getD k [])) (by rw [el]; exact hm)
      have e2 : unbR (exch m (Ls.getD k [])) = (unbV (exch m (Ls.getD k [])), 0) := by unfold unbR; rw [if_pos (fit_exch hf)]
      rw [e2] at e
      exact e
  · have he : bestE m Ls = if fitB m = true then (if 64 < Ls.length then 5 else if Ls.length = 0 then 6 else 291) else 290 := by
      unfold bestE
      cases hf : fitB m with
      | false => rfl
      | true =>
        rw [if_pos rfl, if_pos rfl]
        by_cases h64 : 64 < Ls.length
        · rw [if_pos h64, if_pos h64]
        · rw [if_neg h64, if_neg h64]
          by_cases h0 : Ls.length = 0
          · rw [if_pos h0, if_pos h0]
          · rw [if_neg h0, if_neg h0, if_neg]
            intro hall
            exact hg ⟨hf, by omega, by omega, fun L hL => by simpa using List.all_eq_true.1 hall L hL⟩
    have hne : bestE m Ls ≠ 0 := by rw [he]; split <;> (try split) <;> (try split) <;> decide
    rw [bestR_e rfl hne]
    refine wcontract_p snd mixed is35 (by rw [nt35]; simp) (c35bad S47 S49 S60 S43 m Ls (bestE m Ls) hl he h49 h60 fun h0 h64 hf => ?_) rfl
    have : ¬ ∀ L ∈ Ls, listOK m.r (-1) L = true := fun h => hg ⟨hf, h64, h0, h⟩
    have ⟨L, hLm, hLf⟩ : ∃ L ∈ Ls, listOK m.r (-1) L = false := by
      refine Classical.byContradiction fun hc => this fun L hL => ?_
      cases hx : listOK m.r (-1) L with
      | true => rfl
      | false => exact absurd ⟨L, hL, hx⟩ hc
    obtain ⟨k, hk, rfl⟩ := List.mem_iff_getElem.1 hLm
    exact ⟨k, hk, hLf⟩
end Go.Proofs.Ytpmgaaalfdjikaa
