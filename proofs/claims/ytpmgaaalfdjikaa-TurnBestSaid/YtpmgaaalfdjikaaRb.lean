/- Contract: the evenness of a turned movement, as a closure. Lemmas; no condition. -/
import Derived.Test.YtpmgaaalfdjikaaQb
namespace Go.Proofs.Ytpmgaaalfdjikaa
open Go.RowKit
set_option linter.unusedSimpArgs false
set_option linter.unusedVariables false

def W16 : WC × List VRes := ((.seq (.reg [(.set [(4, (.c (.v (.int .i64 0))))] [4])]) (.seq (.drw [[(.op 10 (.load 6 true) [(.t 1)] none), (.op 11 (.load 1 false) [(.t 2)] none), (.op 12 .mv [(.t 0)] none), (.op 13 (.idx 34 1) [(.t 11), (.t 12)] none), (.op 14 (.load 1 false) [(.t 13)] none), (.eff (.callq 15 17 [(.t 10), (.t 14)]) none), (.op 9 .mv [(.t 15)] none), (.op 16 (.ext 0) [(.t 9)] none), (.op 17 (.ext 1) [(.t 9)] none), (.eff (.box 5 (.c (.agg [(.v (.int .i64 0)), (.v (.int .i64 0)), (.v (.int .i64 0)), (.v (.int .i64 0)), (.v (.int .i64 0)), .nil]))) none), (.eff (.store 6 (.t 5) (.t 16)) none), (.op 6 .mv [(.t 17)] none)], [(.op 10 (.load 6 true) [(.t 1)] none), (.op 11 (.load 1 false) [(.t 2)] none), (.op 12 .mv [(.t 0)] none), (.op 13 (.idx 34 1) [(.t 11), (.t 12)] none), (.op 14 (.load 1 false) [(.t 13)] none), (.eff (.box 5 (.c (.agg [(.v (.int .i64 0)), (.v (.int .i64 0)), (.v (.int .i64 0)), (.v (.int .i64 0)), (.v (.int .i64 0)), .nil]))) none), (.eff (.callq 15 17 [(.t 10), (.t 14)]) none), (.op 9 .mv [(.t 15)] none), (.op 16 (.ext 0) [(.t 9)] none), (.op 17 (.ext 1) [(.t 9)] none), (.eff (.store 6 (.t 5) (.t 16)) none), (.op 6 .mv [(.t 17)] none)]]) (.seq (.reg [(.set [(7, (.ap (.ext 0) [(.ap (.call 18) [(.ap (.load 6 true) [(.t 5)])])])), (8, (.ap (.ext 1) [(.ap (.call 18) [(.ap (.load 6 true) [(.t 5)])])]))] [19, 20, 18, 21, 22, 7, 8])]) (.seq (.seq (.reg [(.set [(24, (.ap (.ibin .neq) [(.t 8), (.c (.v (.int .i64 0)))]))] [23, 24])]) (.cond (.t 24) (.seq (.reg [(.set [(4, (.c (.v (.int .i64 (-1)))))] [4])]) .ret) .skip)) (.seq (.reg [(.set [(4, (.t 7))] [25, 4])]) .ret))))), [(.t 4)])
theorem is16 : IsFn Try.prog frOf 16 Try.f16 W16 := ⟨by kernel_rfl, by kernel_rfl, by kernel_rfl⟩
theorem nt16 : Try.f16.ntmps = 26 := by kernel_rfl


/-- A region in several orders, of which some slots are looked at later. -/
theorem wwp_drw_r {Γ : Env} {Q : VE → St → Prop} {s : St} {sts0 : List VStm} {rest : List (List VStm)} (T : List Nat) (R : List (Nat × D)) (hT : ((sts0 :: rest).all fun sts => (dsts sts).all T.contains) = true) (m' : Mem) (c' : Nat → Nat)
    (h : ∀ sts ∈ sts0 :: rest, runK (runs Γ sts s) fun s' => (∀ τ, s'.m τ = m' τ) ∧ (∀ x, s'.c x = c' x) ∧ ∀ p ∈ R, s'.s p.1 = p.2)
    (hQ : Q .normal ⟨fun j => match R.find? (fun p => p.1 == j) with | some p => p.2 | none => if T.contains j then .undef else s.s j, m', c'⟩) : wwp Γ (.drw (sts0 :: rest)) Q s :=
  wwp_drw_of T R m' c' hT (fun sts hs => by
    obtain ⟨s', h1, h2, h3, h4⟩ := h sts hs
    exact ⟨s', h1, funext h2, funext h3, h4⟩) hQ

theorem c16w (p18 : FP) (q17 : FQ) (T R S C w0 w1 u i : Int) (k n : Nat) (rows R1 : List Row) (Ls : List (List Int)) (L : List Int) (hi : i = k) (hk : Ls[k]? = some L)
    (h17 : q17 [.agg [iv T, iv R, iv S, iv C, iv w0, .list (rowsL rows)], .list (ints L)] = some (.tup [.agg [iv T, iv R, iv S, iv C, iv w1, .sl [] 5 0 n none], iv 0], rowMem 53 (rowsL R1)))
    (hn : R1.length = n) (h18 : p18 [.agg [iv T, iv R, iv S, iv C, iv w1, .list (rowsL R1)]] = some (.tup [iv u, iv 0])) :
    wwp (mkEnv [(18, p18)] [(17, q17)] []) W16.1 (fun e s => okExit e ∧ resV W16.2 s = some (iv u)) (initV [iv i, .lptr [iv T, iv R, iv S, iv C, iv w0, .list (rowsL rows)], .lptr [.list (lists Ls)]]) := by
  obtain ⟨hlt, hL⟩ := List.getElem?_eq_some_iff.1 hk
  have e1 : (lists Ls)[k]? = some [.list (ints L)] := by rw [lists_at hlt, hL]
  subst hi
  subst hn
  simp only [W16]
  refine wwp_cut (fun σ => σ.s 0 = iv k ∧ σ.s 1 = .lptr [iv T, iv R, iv S, iv C, iv w0, .list (rowsL rows)] ∧ σ.s 2 = .lptr [.list (lists Ls)] ∧ σ.c 15 = 0 ∧ σ.c 5 = 0) (by simp) ?_
  rintro σ ⟨h0, h1, h2, k1, k2⟩
  refine wwp_cutG (fun σ => σ.s 5 = .ptr [6, 0] 0 ∧ σ.s 6 = iv 0 ∧ σ.m [6, 0] = some (.box [iv T, iv R, iv S, iv C, iv w1, .sl [16, 0] 5 0 R1.length none]) ∧ ∃ g, σ.m [16, 0] = some (.row g 53 (rowsL R1))) ?_ ?_
  · refine wwp_drw_r [10, 11, 12, 13, 14, 15, 9, 16, 17, 5, 6] [(5, .ptr [6, 0] 0), (6, iv 0)] (by decide)
      (fun τ => if τ = [6, 0] then some (.box [iv T, iv R, iv S, iv C, iv w1, .sl [16, 0] 5 0 R1.length none]) else if τ = [16, 0] then some (.row [16, 0, 0] 53 (rowsL R1)) else match τ with
        | a :: b :: r => if a = 16 ∧ b = 0 then none else σ.m (a :: b :: r)
        | t => σ.m t) (fun x => if x = 5 ∨ x = 15 then 1 else σ.c x) ?_ ?_
    · intro sts hs
      simp only [List.mem_cons, List.not_mem_nil, or_false] at hs
      rcases hs with rfl | rfl
      · simp [h0, h1, h2, k1, k2, e1, h17]
        refine ⟨fun τ => ?_, fun x => ?_⟩
        · by_cases a1 : τ = [6, 0]
          · simp [a1]
          · by_cases a2 : τ = [16, 0]
            · subst a2; simp [k1]
            · match τ with
              | [] => simp [St.adopt]
              | [a] => simp [St.adopt]
              | a :: b :: r =>
                by_cases a3 : a = 16 ∧ b = 0
                · obtain ⟨rfl, rfl⟩ := a3
                  have hr : r ≠ [] := fun e => a2 (by rw [e])
                  obtain ⟨c, r, rfl⟩ := List.exists_cons_of_ne_nil hr
                  simp [St.adopt, k1]
                · simp only [a1, a2, a3, if_false]
                  simp [St.adopt, k1, a3]
        · by_cases x1 : x = 5
          · simp [x1, k2]
          · by_cases x2 : x = 15
            · simp [x2, k1]
            · simp [x1, x2]
      · simp [h0, h1, h2, k1, k2, e1, h17]
        refine ⟨fun τ => ?_, fun x => ?_⟩
        · by_cases a1 : τ = [6, 0]
          · simp [a1]
          · by_cases a2 : τ = [16, 0]
            · subst a2; simp [k1]
            · match τ with
              | [] => simp [St.adopt]
              | [a] => simp [St.adopt]
              | a :: b :: r =>
                by_cases a3 : a = 16 ∧ b = 0
                · obtain ⟨rfl, rfl⟩ := a3
                  have hr : r ≠ [] := fun e => a2 (by rw [e])
                  obtain ⟨c, r, rfl⟩ := List.exists_cons_of_ne_nil hr
                  simp [St.adopt, k1]
                · simp only [a1, a2, a3, if_false]
                  simp [St.adopt, k1, a3]
                  intro e1 e2 e3
                  exact absurd (by rw [e1, e2, k2, e3]) a1
        · by_cases x1 : x = 5
          · simp [x1, k2]
          · by_cases x2 : x = 15
            · simp [x2, k1]
            · simp [x1, x2]
    · simp
  · rintro σ ⟨h5, h6, m6, g, m16⟩
    simp [h5, h6, m6, m16, h18]
end Go.Proofs.Ytpmgaaalfdjikaa
