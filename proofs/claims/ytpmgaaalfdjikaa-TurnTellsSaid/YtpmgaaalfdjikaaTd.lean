/- Part 4 of what the statement needs: contracts of the functions, plain laws, the row. No condition. -/
import Derived.Test.YtpmgaaalfdjikaaTc
namespace Go.Proofs.Ytpmgaaalfdjikaa
open Go.RowKit
set_option linter.unusedSimpArgs false
set_option linter.unusedVariables false
theorem c70Iw (mN mS : FM) (m : Mem) (bt lt : Tok) (K : Nat) (B : Mem) (hN : ∀ M, mN M [.nil] = some (bv true, upM M)) (hb : m bt = some (.box (bagI (.sl lt 1 0 K none)))) (hD : ∀ τ o, B τ = some o → upM m τ = some o) (hDb : B (0 :: bt) = some (.box (bagI (.sl (0 :: lt) 1 0 K none))))
    (hS : ∀ M, Up m M → ∃ D', mS M [.sl (0 :: lt) 1 0 K none] = some (bv true, D') ∧ ∀ τ o, B τ = some o → D' (0 :: τ) = some (o.ren up)) :
    wwp (mkEnv [] [] [(77, mS), (78, mN), (79, mN), (80, mN), (81, mN), (82, mN), (83, mN), (84, mN), (85, mN), (86, mN), (87, mN), (88, mN), (89, mN), (90, mN), (91, mN), (92, mN), (93, mN)]) W70.1 (fun e s => okExit e ∧ resV W70.2 s = some (bv true) ∧ DrM B s.m) (initM m [.ptr bt 0]) := by
  have hbu := hD _ _ hDb
  simp only [bagI] at hbu hDb
  simp only [W70]
  refine wwp_cutW (wf_initM _ _) (fun σ => Up m σ.m ∧ σ.s 0 = .ptr (0 :: bt) 0) (by simp; exact fun t o h => h) ?_
  rintro σ W ⟨hU, h0⟩
  have hx := hU _ _ hbu
  refine wwp_cutN 1 W (fun σ => Up m σ.m ∧ σ.s 0 = .ptr (0 :: bt) 0 ∧ σ.s 6 = .sl (0 :: lt) 1 0 K none) (by simp [h0, hx]; exact hU) ?_
  clear W hU h0 hx σ
  rintro σ W ⟨hU, h0, hr⟩
  simp only [List.drop_succ_cons, List.drop_zero]
  obtain ⟨D', eS, hD'⟩ := hS σ.m hU
  refine wwp_cutN 1 W (fun σ => DrM B σ.m ∧ σ.s 0 = .ptr (0 :: bt) 0 ∧ σ.s 7 = bv true) (by simp [h0, hr, eS]; exact DrM.sp W hU hD hD' 7 (bv true)) ?_
  clear W hU h0 hr eS hD' D' σ
  rintro σ W ⟨hU, h0, hg⟩
  simp only [List.drop_succ_cons, List.drop_zero]
  refine wwp_cutN 1 W (fun σ => DrM B σ.m ∧ σ.s 0 = .ptr (0 :: bt) 0 ∧ σ.s 8 = bv true) (by simp [h0, hg]; exact hU) ?_
  clear W hU h0 hg σ
  rintro σ W ⟨hU, h0, hg⟩
  simp only [List.drop_succ_cons, List.drop_zero]
  have hx := hU _ _ hDb
  refine wwp_cutN 4 W (fun σ => DrM B σ.m ∧ σ.s 0 = .ptr (0 :: bt) 0 ∧ σ.s 8 = bv true ∧ σ.s 12 = .nil) (by simp [h0, hx, hg]; exact hU) ?_
  clear W hU h0 hx hg σ
  rintro σ W ⟨hU, h0, hg, hr⟩
  simp only [List.drop_succ_cons, List.drop_zero]
  refine wwp_cutN 1 W (fun σ => DrM B σ.m ∧ σ.s 0 = .ptr (0 :: bt) 0 ∧ σ.s 13 = bv true ∧ σ.s 8 = bv true) (by simp [h0, hr, hg, hN]; exact DrM.nil W hU hD 13 (bv true)) ?_
  clear W hU h0 hg hr σ
  rintro σ W ⟨hU, h0, hp, hg⟩
  simp only [List.drop_succ_cons, List.drop_zero]
  refine wwp_cutN 2 W (fun σ => DrM B σ.m ∧ σ.s 0 = .ptr (0 :: bt) 0 ∧ σ.s 15 = bv true) (by simp [h0, hp, hg]; exact hU) ?_
  clear W hU h0 hp hg σ
  rintro σ W ⟨hU, h0, hg⟩
  simp only [List.drop_succ_cons, List.drop_zero]
  have hx := hU _ _ hDb
  refine wwp_cutN 4 W (fun σ => DrM B σ.m ∧ σ.s 0 = .ptr (0 :: bt) 0 ∧ σ.s 15 = bv true ∧ σ.s 19 = .nil) (by simp [h0, hx, hg]; exact hU) ?_
  clear W hU h0 hx hg σ
  rintro σ W ⟨hU, h0, hg, hr⟩
  simp only [List.drop_succ_cons, List.drop_zero]
  refine wwp_cutN 1 W (fun σ => DrM B σ.m ∧ σ.s 0 = .ptr (0 :: bt) 0 ∧ σ.s 20 = bv true ∧ σ.s 15 = bv true) (by simp [h0, hr, hg, hN]; exact DrM.nil W hU hD 20 (bv true)) ?_
  clear W hU h0 hg hr σ
  rintro σ W ⟨hU, h0, hp, hg⟩
  simp only [List.drop_succ_cons, List.drop_zero]
  refine wwp_cutN 2 W (fun σ => DrM B σ.m ∧ σ.s 0 = .ptr (0 :: bt) 0 ∧ σ.s 22 = bv true) (by simp [h0, hp, hg]; exact hU) ?_
  clear W hU h0 hp hg σ
  rintro σ W ⟨hU, h0, hg⟩
  simp only [List.drop_succ_cons, List.drop_zero]
  have hx := hU _ _ hDb
  refine wwp_cutN 4 W (fun σ => DrM B σ.m ∧ σ.s 0 = .ptr (0 :: bt) 0 ∧ σ.s 22 = bv true ∧ σ.s 26 = .nil) (by simp [h0, hx, hg]; exact hU) ?_
  clear W hU h0 hx hg σ
  rintro σ W ⟨hU, h0, hg, hr⟩
  simp only [List.drop_succ_cons, List.drop_zero]
  refine wwp_cutN 1 W (fun σ => DrM B σ.m ∧ σ.s 0 = .ptr (0 :: bt) 0 ∧ σ.s 27 = bv true ∧ σ.s 22 = bv true) (by simp [h0, hr, hg, hN]; exact DrM.nil W hU hD 27 (bv true)) ?_
  clear W hU h0 hg hr σ
  rintro σ W ⟨hU, h0, hp, hg⟩
  simp only [List.drop_succ_cons, List.drop_zero]
  refine wwp_cutN 2 W (fun σ => DrM B σ.m ∧ σ.s 0 = .ptr (0 :: bt) 0 ∧ σ.s 29 = bv true) (by simp [h0, hp, hg]; exact hU) ?_
  clear W hU h0 hp hg σ
  rintro σ W ⟨hU, h0, hg⟩
  simp only [List.drop_succ_cons, List.drop_zero]
  have hx := hU _ _ hDb
  refine wwp_cutN 4 W (fun σ => DrM B σ.m ∧ σ.s 0 = .ptr (0 :: bt) 0 ∧ σ.s 29 = bv true ∧ σ.s 33 = .nil) (by simp [h0, hx, hg]; exact hU) ?_
  clear W hU h0 hx hg σ
  rintro σ W ⟨hU, h0, hg, hr⟩
  simp only [List.drop_succ_cons, List.drop_zero]
  refine wwp_cutN 1 W (fun σ => DrM B σ.m ∧ σ.s 0 = .ptr (0 :: bt) 0 ∧ σ.s 34 = bv true ∧ σ.s 29 = bv true) (by simp [h0, hr, hg, hN]; exact DrM.nil W hU hD 34 (bv true)) ?_
  clear W hU h0 hg hr σ
  rintro σ W ⟨hU, h0, hp, hg⟩
  simp only [List.drop_succ_cons, List.drop_zero]
  refine wwp_cutN 2 W (fun σ => DrM B σ.m ∧ σ.s 0 = .ptr (0 :: bt) 0 ∧ σ.s 36 = bv true) (by simp [h0, hp, hg]; exact hU) ?_
  clear W hU h0 hp hg σ
  rintro σ W ⟨hU, h0, hg⟩
  simp only [List.drop_succ_cons, List.drop_zero]
  have hx := hU _ _ hDb
  refine wwp_cutN 4 W (fun σ => DrM B σ.m ∧ σ.s 0 = .ptr (0 :: bt) 0 ∧ σ.s 36 = bv true ∧ σ.s 40 = .nil) (by simp [h0, hx, hg]; exact hU) ?_
  clear W hU h0 hx hg σ
  rintro σ W ⟨hU, h0, hg, hr⟩
  simp only [List.drop_succ_cons, List.drop_zero]
  refine wwp_cutN 1 W (fun σ => DrM B σ.m ∧ σ.s 0 = .ptr (0 :: bt) 0 ∧ σ.s 41 = bv true ∧ σ.s 36 = bv true) (by simp [h0, hr, hg, hN]; exact DrM.nil W hU hD 41 (bv true)) ?_
  clear W hU h0 hg hr σ
  rintro σ W ⟨hU, h0, hp, hg⟩
  simp only [List.drop_succ_cons, List.drop_zero]
  refine wwp_cutN 2 W (fun σ => DrM B σ.m ∧ σ.s 0 = .ptr (0 :: bt) 0 ∧ σ.s 43 = bv true) (by simp [h0, hp, hg]; exact hU) ?_
  clear W hU h0 hp hg σ
  rintro σ W ⟨hU, h0, hg⟩
  simp only [List.drop_succ_cons, List.drop_zero]
  have hx := hU _ _ hDb
  refine wwp_cutN 4 W (fun σ => DrM B σ.m ∧ σ.s 0 = .ptr (0 :: bt) 0 ∧ σ.s 43 = bv true ∧ σ.s 47 = .nil) (by simp [h0, hx, hg]; exact hU) ?_
  clear W hU h0 hx hg σ
  rintro σ W ⟨hU, h0, hg, hr⟩
  simp only [List.drop_succ_cons, List.drop_zero]
  refine wwp_cutN 1 W (fun σ => DrM B σ.m ∧ σ.s 0 = .ptr (0 :: bt) 0 ∧ σ.s 48 = bv true ∧ σ.s 43 = bv true) (by simp [h0, hr, hg, hN]; exact DrM.nil W hU hD 48 (bv true)) ?_
  clear W hU h0 hg hr σ
  rintro σ W ⟨hU, h0, hp, hg⟩
  simp only [List.drop_succ_cons, List.drop_zero]
  refine wwp_cutN 2 W (fun σ => DrM B σ.m ∧ σ.s 0 = .ptr (0 :: bt) 0 ∧ σ.s 50 = bv true) (by simp [h0, hp, hg]; exact hU) ?_
  clear W hU h0 hp hg σ
  rintro σ W ⟨hU, h0, hg⟩
  simp only [List.drop_succ_cons, List.drop_zero]
  have hx := hU _ _ hDb
  refine wwp_cutN 4 W (fun σ => DrM B σ.m ∧ σ.s 0 = .ptr (0 :: bt) 0 ∧ σ.s 50 = bv true ∧ σ.s 54 = .nil) (by simp [h0, hx, hg]; exact hU) ?_
  clear W hU h0 hx hg σ
  rintro σ W ⟨hU, h0, hg, hr⟩
  simp only [List.drop_succ_cons, List.drop_zero]
  refine wwp_cutN 1 W (fun σ => DrM B σ.m ∧ σ.s 0 = .ptr (0 :: bt) 0 ∧ σ.s 55 = bv true ∧ σ.s 50 = bv true) (by simp [h0, hr, hg, hN]; exact DrM.nil W hU hD 55 (bv true)) ?_
  clear W hU h0 hg hr σ
  rintro σ W ⟨hU, h0, hp, hg⟩
  simp only [List.drop_succ_cons, List.drop_zero]
  refine wwp_cutN 2 W (fun σ => DrM B σ.m ∧ σ.s 0 = .ptr (0 :: bt) 0 ∧ σ.s 57 = bv true) (by simp [h0, hp, hg]; exact hU) ?_
  clear W hU h0 hp hg σ
  rintro σ W ⟨hU, h0, hg⟩
  simp only [List.drop_succ_cons, List.drop_zero]
  have hx := hU _ _ hDb
  refine wwp_cutN 4 W (fun σ => DrM B σ.m ∧ σ.s 0 = .ptr (0 :: bt) 0 ∧ σ.s 57 = bv true ∧ σ.s 61 = .nil) (by simp [h0, hx, hg]; exact hU) ?_
  clear W hU h0 hx hg σ
  rintro σ W ⟨hU, h0, hg, hr⟩
  simp only [List.drop_succ_cons, List.drop_zero]
  refine wwp_cutN 1 W (fun σ => DrM B σ.m ∧ σ.s 0 = .ptr (0 :: bt) 0 ∧ σ.s 62 = bv true ∧ σ.s 57 = bv true) (by simp [h0, hr, hg, hN]; exact DrM.nil W hU hD 62 (bv true)) ?_
  clear W hU h0 hg hr σ
  rintro σ W ⟨hU, h0, hp, hg⟩
  simp only [List.drop_succ_cons, List.drop_zero]
  refine wwp_cutN 2 W (fun σ => DrM B σ.m ∧ σ.s 0 = .ptr (0 :: bt) 0 ∧ σ.s 64 = bv true) (by simp [h0, hp, hg]; exact hU) ?_
  clear W hU h0 hp hg σ
  rintro σ W ⟨hU, h0, hg⟩
  simp only [List.drop_succ_cons, List.drop_zero]
  have hx := hU _ _ hDb
  refine wwp_cutN 4 W (fun σ => DrM B σ.m ∧ σ.s 0 = .ptr (0 :: bt) 0 ∧ σ.s 64 = bv true ∧ σ.s 68 = .nil) (by simp [h0, hx, hg]; exact hU) ?_
  clear W hU h0 hx hg σ
  rintro σ W ⟨hU, h0, hg, hr⟩
  simp only [List.drop_succ_cons, List.drop_zero]
  refine wwp_cutN 1 W (fun σ => DrM B σ.m ∧ σ.s 0 = .ptr (0 :: bt) 0 ∧ σ.s 69 = bv true ∧ σ.s 64 = bv true) (by simp [h0, hr, hg, hN]; exact DrM.nil W hU hD 69 (bv true)) ?_
  clear W hU h0 hg hr σ
  rintro σ W ⟨hU, h0, hp, hg⟩
  simp only [List.drop_succ_cons, List.drop_zero]
  refine wwp_cutN 2 W (fun σ => DrM B σ.m ∧ σ.s 0 = .ptr (0 :: bt) 0 ∧ σ.s 71 = bv true) (by simp [h0, hp, hg]; exact hU) ?_
  clear W hU h0 hp hg σ
  rintro σ W ⟨hU, h0, hg⟩
  simp only [List.drop_succ_cons, List.drop_zero]
  have hx := hU _ _ hDb
  refine wwp_cutN 4 W (fun σ => DrM B σ.m ∧ σ.s 0 = .ptr (0 :: bt) 0 ∧ σ.s 71 = bv true ∧ σ.s 75 = .nil) (by simp [h0, hx, hg]; exact hU) ?_
  clear W hU h0 hx hg σ
  rintro σ W ⟨hU, h0, hg, hr⟩
  simp only [List.drop_succ_cons, List.drop_zero]
  refine wwp_cutN 1 W (fun σ => DrM B σ.m ∧ σ.s 0 = .ptr (0 :: bt) 0 ∧ σ.s 76 = bv true ∧ σ.s 71 = bv true) (by simp [h0, hr, hg, hN]; exact DrM.nil W hU hD 76 (bv true)) ?_
  clear W hU h0 hg hr σ
  rintro σ W ⟨hU, h0, hp, hg⟩
  simp only [List.drop_succ_cons, List.drop_zero]
  refine wwp_cutN 2 W (fun σ => DrM B σ.m ∧ σ.s 0 = .ptr (0 :: bt) 0 ∧ σ.s 78 = bv true) (by simp [h0, hp, hg]; exact hU) ?_
  clear W hU h0 hp hg σ
  rintro σ W ⟨hU, h0, hg⟩
  simp only [List.drop_succ_cons, List.drop_zero]
  have hx := hU _ _ hDb
  refine wwp_cutN 4 W (fun σ => DrM B σ.m ∧ σ.s 0 = .ptr (0 :: bt) 0 ∧ σ.s 78 = bv true ∧ σ.s 82 = .nil) (by simp [h0, hx, hg]; exact hU) ?_
  clear W hU h0 hx hg σ
  rintro σ W ⟨hU, h0, hg, hr⟩
  simp only [List.drop_succ_cons, List.drop_zero]
  refine wwp_cutN 1 W (fun σ => DrM B σ.m ∧ σ.s 0 = .ptr (0 :: bt) 0 ∧ σ.s 83 = bv true ∧ σ.s 78 = bv true) (by simp [h0, hr, hg, hN]; exact DrM.nil W hU hD 83 (bv true)) ?_
  clear W hU h0 hg hr σ
  rintro σ W ⟨hU, h0, hp, hg⟩
  simp only [List.drop_succ_cons, List.drop_zero]
  refine wwp_cutN 2 W (fun σ => DrM B σ.m ∧ σ.s 0 = .ptr (0 :: bt) 0 ∧ σ.s 85 = bv true) (by simp [h0, hp, hg]; exact hU) ?_
  clear W hU h0 hp hg σ
  rintro σ W ⟨hU, h0, hg⟩
  simp only [List.drop_succ_cons, List.drop_zero]
  have hx := hU _ _ hDb
  refine wwp_cutN 4 W (fun σ => DrM B σ.m ∧ σ.s 0 = .ptr (0 :: bt) 0 ∧ σ.s 85 = bv true ∧ σ.s 89 = .nil) (by simp [h0, hx, hg]; exact hU) ?_
  clear W hU h0 hx hg σ
  rintro σ W ⟨hU, h0, hg, hr⟩
  simp only [List.drop_succ_cons, List.drop_zero]
  refine wwp_cutN 1 W (fun σ => DrM B σ.m ∧ σ.s 0 = .ptr (0 :: bt) 0 ∧ σ.s 90 = bv true ∧ σ.s 85 = bv true) (by simp [h0, hr, hg, hN]; exact DrM.nil W hU hD 90 (bv true)) ?_
  clear W hU h0 hg hr σ
  rintro σ W ⟨hU, h0, hp, hg⟩
  simp only [List.drop_succ_cons, List.drop_zero]
  refine wwp_cutN 2 W (fun σ => DrM B σ.m ∧ σ.s 0 = .ptr (0 :: bt) 0 ∧ σ.s 92 = bv true) (by simp [h0, hp, hg]; exact hU) ?_
  clear W hU h0 hp hg σ
  rintro σ W ⟨hU, h0, hg⟩
  simp only [List.drop_succ_cons, List.drop_zero]
  have hx := hU _ _ hDb
  refine wwp_cutN 4 W (fun σ => DrM B σ.m ∧ σ.s 0 = .ptr (0 :: bt) 0 ∧ σ.s 92 = bv true ∧ σ.s 96 = .nil) (by simp [h0, hx, hg]; exact hU) ?_
  clear W hU h0 hx hg σ
  rintro σ W ⟨hU, h0, hg, hr⟩
  simp only [List.drop_succ_cons, List.drop_zero]
  refine wwp_cutN 1 W (fun σ => DrM B σ.m ∧ σ.s 0 = .ptr (0 :: bt) 0 ∧ σ.s 97 = bv true ∧ σ.s 92 = bv true) (by simp [h0, hr, hg, hN]; exact DrM.nil W hU hD 97 (bv true)) ?_
  clear W hU h0 hg hr σ
  rintro σ W ⟨hU, h0, hp, hg⟩
  simp only [List.drop_succ_cons, List.drop_zero]
  refine wwp_cutN 2 W (fun σ => DrM B σ.m ∧ σ.s 0 = .ptr (0 :: bt) 0 ∧ σ.s 99 = bv true) (by simp [h0, hp, hg]; exact hU) ?_
  clear W hU h0 hp hg σ
  rintro σ W ⟨hU, h0, hg⟩
  simp only [List.drop_succ_cons, List.drop_zero]
  have hx := hU _ _ hDb
  refine wwp_cutN 4 W (fun σ => DrM B σ.m ∧ σ.s 0 = .ptr (0 :: bt) 0 ∧ σ.s 99 = bv true ∧ σ.s 103 = .nil) (by simp [h0, hx, hg]; exact hU) ?_
  clear W hU h0 hx hg σ
  rintro σ W ⟨hU, h0, hg, hr⟩
  simp only [List.drop_succ_cons, List.drop_zero]
  refine wwp_cutN 1 W (fun σ => DrM B σ.m ∧ σ.s 0 = .ptr (0 :: bt) 0 ∧ σ.s 104 = bv true ∧ σ.s 99 = bv true) (by simp [h0, hr, hg, hN]; exact DrM.nil W hU hD 104 (bv true)) ?_
  clear W hU h0 hg hr σ
  rintro σ W ⟨hU, h0, hp, hg⟩
  simp only [List.drop_succ_cons, List.drop_zero]
  refine wwp_cutN 2 W (fun σ => DrM B σ.m ∧ σ.s 0 = .ptr (0 :: bt) 0 ∧ σ.s 106 = bv true) (by simp [h0, hp, hg]; exact hU) ?_
  clear W hU h0 hp hg σ
  rintro σ W ⟨hU, h0, hg⟩
  simp only [List.drop_succ_cons, List.drop_zero]
  have hx := hU _ _ hDb
  refine wwp_cutN 4 W (fun σ => DrM B σ.m ∧ σ.s 0 = .ptr (0 :: bt) 0 ∧ σ.s 106 = bv true ∧ σ.s 110 = .nil) (by simp [h0, hx, hg]; exact hU) ?_
  clear W hU h0 hx hg σ
  rintro σ W ⟨hU, h0, hg, hr⟩
  simp only [List.drop_succ_cons, List.drop_zero]
  refine wwp_cutN 1 W (fun σ => DrM B σ.m ∧ σ.s 0 = .ptr (0 :: bt) 0 ∧ σ.s 111 = bv true ∧ σ.s 106 = bv true) (by simp [h0, hr, hg, hN]; exact DrM.nil W hU hD 111 (bv true)) ?_
  clear W hU h0 hg hr σ
  rintro σ W ⟨hU, h0, hp, hg⟩
  simp only [List.drop_succ_cons, List.drop_zero]
  refine wwp_cutN 2 W (fun σ => DrM B σ.m ∧ σ.s 0 = .ptr (0 :: bt) 0 ∧ σ.s 113 = bv true) (by simp [h0, hp, hg]; exact hU) ?_
  clear W hU h0 hp hg σ
  rintro σ W ⟨hU, h0, hg⟩
  simp only [List.drop_succ_cons, List.drop_zero]
  have hx := hU _ _ hDb
  refine wwp_cutN 4 W (fun σ => DrM B σ.m ∧ σ.s 0 = .ptr (0 :: bt) 0 ∧ σ.s 113 = bv true ∧ σ.s 117 = .nil) (by simp [h0, hx, hg]; exact hU) ?_
  clear W hU h0 hx hg σ
  rintro σ W ⟨hU, h0, hg, hr⟩
  simp only [List.drop_succ_cons, List.drop_zero]
  refine wwp_cutN 1 W (fun σ => DrM B σ.m ∧ σ.s 0 = .ptr (0 :: bt) 0 ∧ σ.s 118 = bv true ∧ σ.s 113 = bv true) (by simp [h0, hr, hg, hN]; exact DrM.nil W hU hD 118 (bv true)) ?_
  clear W hU h0 hg hr σ
  rintro σ W ⟨hU, h0, hp, hg⟩
  simp only [List.drop_succ_cons, List.drop_zero]
  simp [hp, hg]
  exact hU
theorem FlR.pass {F F9 : FlR} {C C9 : Nat → List Row} (h : F.In C F.U) (eK : F9.K = F.K) (en : F9.nl = F.nl) (eg : F9.gr = fun k => 0 :: F.gr k) (h9 : F9.In C9 F9.U) (hU : Up F.U F9.U) :
    ∀ τ o, dropM (grpsOf F.U F.hrow) (upM F.U) τ = some o → dropM (grpsOf F9.U F9.hrow) (upM F9.U) (0 :: τ) = some (o.ren up) := fun τ o ho => by
  obtain ⟨h1, h2⟩ := dropM_some.1 ho
  refine dropM_some.2 ⟨by rw [upM_up, hU _ _ h1]; rfl, fun g hg hP => ?_⟩
  rw [HO.ren_grp] at hg
  obtain ⟨g0, hg0, rfl⟩ := Option.map_eq_some_iff.1 hg
  obtain ⟨j, hj, hn, e⟩ := (FlR.grps h9 _).1 hP
  rw [eK] at hj
  rw [en] at hn
  rw [eg] at e
  exact h2 g0 hg0 ((FlR.grps h _).2 ⟨j, hj, hn, (List.cons.inj e).2⟩)
theorem FlR.CK.of {F F9 : FlR} (hc : F.CK) (eK : F9.K = F.K) (en : F9.nl = F.nl) (el : F9.ln = F.ln) (ee : F9.ez = fun k => (F.ez k).map fun t => 0 :: t) (et : F9.tk = fun k => 0 :: F.tk k) (eg : F9.gr = fun k => 0 :: F.gr k) (em : F9.mrk = F.mrk) (hl : F9.U F9.lt = some (.row F9.lg 22 F9.hrow)) (hg : ∀ k, 0 :: F.gr k ≠ F9.lg ∨ F9.lg = 0 :: F.lg) : F9.CK where
  K1 := by rw [eK]; exact hc.K1
  zero := by rw [en, el]; exact hc.zero
  small := by rw [eK, el]; exact hc.small
  ezE := by
    rw [eK, en, ee, et]
    intro k t hk ht
    obtain ⟨t', h', rfl⟩ := Option.map_eq_some_iff.1 ht
    obtain ⟨j, a, b, rfl⟩ := hc.ezE k t' hk h'
    exact ⟨j, a, b, rfl⟩
  tkI := by rw [eK, en, et]; exact fun j k hj hk nj nk e => hc.tkI j k hj hk nj nk (List.cons.inj e).2
  grI := by rw [eK, en, eg]; exact fun j k hj hk nj nk e => hc.grI j k hj hk nj nk (List.cons.inj e).2
  hl := hl
  lgne := by
    rw [eK, en, eg]
    intro j hj hn e
    rcases hg j with h | h
    · exact h e
    · rw [h] at e; exact hc.lgne j hj hn (List.cons.inj e).2
  mrkE := by rw [em]; exact hc.mrkE
theorem FlR.In.of {F F9 : FlR} {C : Nat → List Row} (h : F.In C F.U) (eK : F9.K = F.K) (en : F9.nl = F.nl) (el : F9.ln = F.ln) (et : F9.tk = fun k => 0 :: F.tk k) (eg : F9.gr = fun k => 0 :: F.gr k) (hU : Up F.U F9.U) : F9.In C F9.U := fun j hj hn => by
  rw [eK] at hj
  rw [en] at hn
  obtain ⟨h1, h2⟩ := h.dn j hj hn
  rw [et, eg, el]
  exact ⟨hU _ _ h1, h2⟩
theorem c70R (F : FlR) (hc : F.CK) (C : Nat → List Row) (h : F.In C F.U) (bt : Tok) (hb : F.U bt = some (.box (bagR (.sl F.lt 1 0 F.K none)))) : VCm Try.prog 70 F.U [.ptr bt 0] (bv true) (dropM (grpsOf F.U F.hrow) (upM F.U)) :=
  wcontract_m (Γ := mkEnv [] [] [(77, Snil), (78, Snil), (79, Snil), (80, Snil), (81, Snil), (82, Snil), (83, Snil), (84, Snil), (85, Snil), (86, S86), (87, Snil), (88, Snil), (89, Snil), (90, Snil), (91, Snil), (92, Snil), (93, Snil)]) (sound_mk (by simp) (by simp) (by simp [snil c77nil, snil c78nil, snil c79nil, snil c80nil, snil c81nil, snil c82nil, snil c83nil, snil c84nil, snil c85nil, s86, snil c87nil, snil c88nil, snil c89nil, snil c90nil, snil c91nil, snil c92nil, snil c93nil])) mixed is70 (by rw [nt70]; simp)
    (c70Rw Snil S86 F.U bt F.lt F.K (dropM (grpsOf F.U F.hrow) (upM F.U)) (fun M => rfl) hb (fun τ o ho => (dropM_some.1 ho).1) (dropM_some.2 ⟨by rw [upM_up, hb]; rfl, fun g hg => by cases hg⟩)
      fun M hU => by
        have hI : ({ F.dn with U := M } : FlR).In C M := FlR.In.of (F9 := { F.dn with U := M }) h rfl rfl rfl rfl rfl hU
        have hC : ({ F.dn with U := M } : FlR).CK := FlR.CK.of hc rfl rfl rfl rfl rfl rfl rfl (hU _ _ hc.ok.hl) fun k => .inr rfl
        exact ⟨_, S86_at hC hI, FlR.pass (F9 := { F.dn with U := M }) h rfl rfl rfl hI hU⟩)
open Classical in
noncomputable def S70R : FM := fun M ds => match ds with
  | [.ptr bt 0] => match M bt with
    | some (.box fs) => match fs.getD 9 .undef with
      | .sl lt 1 0 n none => match M lt with
        | some (.row _ 22 hs) => if ∃ (F : FlR) (C : Nat → List Row), F.CK ∧ F.In C F.U ∧ F.U = M ∧ F.lt = lt ∧ F.K = n ∧ fs = bagR (.sl lt 1 0 n none) then some (bv true, dropM (grpsOf M hs) (upM M)) else none
        | _ => none
      | _ => none
    | _ => none
  | _ => none
theorem s70R : OkM 70 S70R := fun m ds d m' h => by
  unfold S70R at h
  split at h
  · split at h
    · rename_i fs hb
      split at h
      · split at h
        · split at h
          · rename_i hM hc
            cases h
            obtain ⟨F, C, h1, h2, rfl, rfl, rfl, rfl⟩ := hc
            rw [h1.hl] at hM
            cases hM
            exact c70R F h1 C h2 _ hb
          · cases h
        · cases h
      · cases h
    · cases h
  · cases h
theorem S70R_at {F : FlR} {C : Nat → List Row} (hc : F.CK) (h : F.In C F.U) {bt : Tok} (hb : F.U bt = some (.box (bagR (.sl F.lt 1 0 F.K none)))) : S70R F.U [.ptr bt 0] = some (bv true, dropM (grpsOf F.U F.hrow) (upM F.U)) := by
  have : (bagR (D.sl F.lt 1 0 F.K none)).getD 9 .undef = .sl F.lt 1 0 F.K none := rfl
  simp only [S70R, hb, this, hc.hl]
  exact if_pos ⟨F, C, hc, h, rfl, rfl, rfl, rfl⟩
/-- The bag, with so many slices. -/
def FlR.BG (F : FlR) (k : Nat) (M : Mem) : Prop := M [7, 0] = some (.box (bagR (if k = 0 then .nil else .sl [19, k - 1, 12, 0] 1 0 k none))) ∧ (0 < k → M [19, k - 1, 12, 0] = some (.row [19, 0, 12, 0] 22 ((List.range k).map fun i => [F.dn.hdr i])))
theorem FlR.hdr_ren (F : FlR) (k : Nat) : ((F.hdr k).renC up).renC (dnTok 18 0) = F.hdr k ∧ ∀ c, ((F.hdr k).renC up).renC (dnTok 18 c) = F.hdr k := by
  refine ⟨?_, fun c => ?_⟩ <;> · unfold FlR.hdr FlR.emp; split <;> (try split) <;> rfl
theorem FlR.BG.step {F : FlR} {k : Nat} {σ : St} (W : WF σ) (hU : Up F.U σ.m) (hc : σ.c 18 = k) (h : F.BG k σ.m) (lt lg : Tok) (hs : List (List D)) (hg : k ≠ 0 → lg = [19, 0, 12, 0]) (hhs : hs = (List.range k).map fun i => [F.dn.hdr i]) (d : D) :
    F.BG (k + 1) (σ.adoptM 18 d (putMR σ.m [7, 0] lt lg k (F.dn.hdr k) hs)).m ∧ Up F.U (σ.adoptM 18 d (putMR σ.m [7, 0] lt lg k (F.dn.hdr k) hs)).m := by
  refine ⟨⟨?_, fun _ => ?_⟩, fun τ o ho => ?_⟩
  · have e0 : putMR σ.m [7, 0] lt lg k (F.dn.hdr k) hs (0 :: [7, 0]) = some (.box (bagR (.sl [12, 0] 1 0 (k + 1) none))) := by simp [putMR]
    rw [adoptM_g2 W h.1 18 d e0, hc]
    simp [bagR, dnTok]
  · have e2 := adoptM_new (σ := σ) (x := 18) (d := d) (m' := putMR σ.m [7, 0] lt lg k (F.dn.hdr k) hs) (b := 11) (r := [0])
    rw [hc] at e2
    show (σ.adoptM 18 d (putMR σ.m [7, 0] lt lg k (F.dn.hdr k) hs)).m [19, k + 1 - 1, 12, 0] = _
    rw [Nat.add_sub_cancel, e2]
    have e1 : putMR σ.m [7, 0] lt lg k (F.dn.hdr k) hs [12, 0] = some (.row (if k = 0 then [12, 0] else 0 :: lg) 22 ((hs.map (List.map (D.renC up))) ++ [[(F.dn.hdr k).renC up]])) := by simp [putMR]
    rw [e1, Option.map_some]
    simp only [HO.ren, Option.some.injEq, HO.row.injEq, true_and]
    refine ⟨?_, ?_⟩
    · by_cases h0 : k = 0
      · rw [if_pos h0, h0]; rfl
      · rw [if_neg h0, hg h0]; rfl
    · rw [List.range_succ, List.map_append, List.map_append, hhs]
      congr 1
      · simp only [List.map_map]
        refine List.map_congr_left fun i _ => ?_
        simp only [Function.comp_def, List.map_cons, List.map_nil, (F.dn.hdr_ren i).2]
      · simp only [List.map_cons, List.map_nil, (F.dn.hdr_ren k).2]
  · have h1 := hU τ o ho
    have h2 : putMR σ.m [7, 0] lt lg k (F.dn.hdr k) hs (0 :: τ) = some (o.ren up) := by
      obtain ⟨r, q, rfl, hq, rfl⟩ := upM_dom ho
      simp only [putMR]
      rw [if_neg (by simp), if_neg (by simp)]
      refine dropM_some.2 ⟨by rw [upM_up, h1]; rfl, fun g hg' hP => ?_⟩
      rw [HO.ren_grp, HO.ren_grp] at hg'
      obtain ⟨g0, hg0, rfl⟩ := Option.map_eq_some_iff.1 hg'
      obtain ⟨g1, _, rfl⟩ := Option.map_eq_some_iff.1 hg0
      have := hP.2
      rw [hg hP.1] at this
      simp [up] at this
    rw [adoptM_gen W h1 18 d h2, up_ren ho]
theorem c51w (m69 m70 : FM) (F : FlR) (hc : F.CK) (C : Nat → List Row) (h : F.In C F.U) (hK0 : 0 < F.K)
    (h69n : ∀ (M : Mem) (bt : Tok) (h : D), M bt = some (.box (bagR .nil)) → hdD h = true → m69 M [.ptr bt 0, h] = some (.tup [], putMR M bt [] [] 0 h []))
    (h69 : ∀ (M : Mem) (bt lt lg : Tok) (h : D) (n : Nat) (hs : List (List D)), M bt = some (.box (bagR (.sl lt 1 0 n none))) → n ≠ 0 → M lt = some (.row lg 22 hs) → hs.length = n → (∀ c ∈ hs, c.length = 1) → hdD h = true → n ≤ 1000 → m69 M [.ptr bt 0, h] = some (.tup [], putMR M bt lt lg n h hs))
    (h70 : ∀ (F9 : FlR) (C9 : Nat → List Row) (bt : Tok), F9.CK → F9.In C9 F9.U → F9.U bt = some (.box (bagR (.sl F9.lt 1 0 F9.K none))) → m70 F9.U [.ptr bt 0] = some (bv true, dropM (grpsOf F9.U F9.hrow) (upM F9.U))) :
    wwp (mkEnv [] [] [(69, m69), (70, m70)]) W51.1 (fun e s => okExit e ∧ resV W51.2 s = some (bv true) ∧ DrM (dropM (grpsOf F.U F.hrow) (upM F.U)) s.m) (initM F.U [.sl F.lt 1 0 F.K none]) := by
  obtain ⟨K, hK⟩ : ∃ K, K = F.K := ⟨_, rfl⟩
  have hK1 := hc.K1
  have hra : ∀ k, k < K → F.dn.hrow[k]? = some [F.dn.hdr k] := fun k h => F.dn.hrow_at (by show k < F.K; omega)
  have hlt : ∀ M, Up F.U M → M (0 :: F.lt) = some (.row (0 :: F.lg) 22 F.dn.hrow) := fun M hU => hU _ _ hc.ok.hl
  have hz : zrep 17 D.nil = bagR .nil := rfl
  have hzl : (bagR .nil).length = 17 := rfl
  have hzo : (bagR .nil).all D.okC = true := rfl
  rw [← hK] at hK0 hK1 ⊢
  simp only [W51]
  refine wwp_cutW (wf_initM _ _) (fun σ => Up F.U σ.m ∧ σ.s 0 = .sl (0 :: F.lt) 1 0 K none ∧ σ.c 6 = 0 ∧ σ.c 18 = 0) (by simp; exact fun t o h => h) ?_
  rintro σ W ⟨hU, h0, c6, c18⟩
  refine wwp_cutW W (fun σ => Up F.U σ.m ∧ σ.s 0 = .sl (0 :: F.lt) 1 0 K none ∧ σ.c 18 = 0 ∧ σ.s 3 = .ptr [7, 0] 0 ∧ F.BG 0 σ.m) ?_ ?_
  · rw [hz]
    simp [h0, c6, c18, bagR]
    refine ⟨Up.new' W hU 6 _ _ ?_ ?_, by simp [FlR.BG, bagR, c6]⟩
    · repeat (refine set_m_of ?_)
      rfl
    · repeat (refine set_c_of ?_)
      rfl
  clear W hU h0 c6 c18 σ
  rintro σ W ⟨hU, h0, c18, h3, hB⟩
  refine wwp_cutG (fun σ => WF σ ∧ Up F.U σ.m ∧ σ.s 3 = .ptr [7, 0] 0 ∧ F.BG K σ.m) ?_ ?_
  · refine wwp_cut (fun σ => Up F.U σ.m ∧ σ.s 0 = .sl (0 :: F.lt) 1 0 K none ∧ σ.c 18 = 0 ∧ σ.s 3 = .ptr [7, 0] 0 ∧ F.BG 0 σ.m ∧ σ.s 4 = iv 0) (by simp [hU, h0, c18, h3, hB]) ?_
    clear W hU h0 c18 h3 hB σ
    rintro σ ⟨hU, h0, c18, h3, hB, h4⟩
    simp only [wwp_block]
    refine wwp_loop (fun σ => ∃ k : Nat, k ≤ K ∧ Up F.U σ.m ∧ σ.s 0 = .sl (0 :: F.lt) 1 0 K none ∧ σ.c 18 = k ∧ σ.s 3 = .ptr [7, 0] 0 ∧ F.BG k σ.m ∧ σ.s 4 = iv k) (fun σ => cnt K (σ.s 4)) ?_ ?_
    · exact ⟨0, by omega, hU, h0, c18, h3, hB, h4⟩
    clear hU h0 c18 h3 hB h4 σ
    rintro σ W ⟨k, hk, hU, h0, c18, h3, hB, h4⟩
    refine wwp_seq_assoc ?_
    by_cases hkl : k < K
    · have hw1 := wrap_succ (show k ≤ 1000000000 by omega)
      have hmu : cnt K (σ.s 4) = K - k := by simp [h4]
      simp only [hmu]
      clear hmu
      have hz2 : (k : Int) < K := by omega
      refine wwp_on (fun σ => WF σ ∧ Up F.U σ.m ∧ σ.s 0 = .sl (0 :: F.lt) 1 0 K none ∧ σ.c 18 = k ∧ σ.s 3 = .ptr [7, 0] 0 ∧ F.BG k σ.m ∧ σ.s 4 = iv k) (by simp [hU, h0, c18, h3, hB, h4, hz2, hkl]; exact W.of rfl rfl) ?_
      clear W hU h0 c18 h3 hB h4 σ
      rintro σ ⟨W, hU, h0, c18, h3, hB, h4⟩
      refine wwp_body (fun σ => Up F.U σ.m ∧ σ.s 0 = .sl (0 :: F.lt) 1 0 K none ∧ σ.c 18 = k + 1 ∧ σ.s 3 = .ptr [7, 0] 0 ∧ F.BG (k + 1) σ.m ∧ σ.s 4 = iv k) ?_ ?_
      · have hlr := hlt σ.m hU
        have hrk := hra k hkl
        refine wwp_cutN1 1 W (fun σ => Up F.U σ.m ∧ σ.s 0 = .sl (0 :: F.lt) 1 0 K none ∧ σ.c 18 = k ∧ σ.s 3 = .ptr [7, 0] 0 ∧ F.BG k σ.m ∧ σ.s 4 = iv k ∧ σ.s 13 = .ptr [7, 0] 0 ∧ σ.s 17 = F.dn.hdr k) (by simp [hU, h0, c18, h3, hB, h4, hlr, hrk, hkl]) ?_
        clear W hU h0 c18 h3 hB h4 hlr σ
        rintro σ W ⟨hU, h0, c18, h3, hB, h4, h13, h17⟩
        simp only [List.drop_succ_cons, List.drop_zero]
        obtain ⟨hd, hhd⟩ : ∃ hd, hd = F.dn.hdr k := ⟨_, rfl⟩
        have hdk : hdD hd = true := by rw [hhd]; unfold FlR.hdr FlR.emp; split <;> (try split) <;> rfl
        have hdd : hd.isDef = true := by rw [hhd]; unfold FlR.hdr FlR.emp; split <;> (try split) <;> rfl
        by_cases hk0 : k = 0
        · have e69 := h69n σ.m [7, 0] hd (by rw [hB.1, if_pos hk0]) hdk
          have st := hB.step W hU c18 [] [] [] (fun h => absurd hk0 h) (by rw [hk0]; rfl) (.tup [])
          rw [← hhd] at h17 st
          rw [hk0] at st c18 h4 ⊢
          simp [h0, c18, h3, h4, h13, h17, hdd, e69]
          exact ⟨st.2, st.1⟩
        · have hl := hB.2 (by omega)
          have e69 := h69 σ.m [7, 0] [19, k - 1, 12, 0] [19, 0, 12, 0] hd k _ (by rw [hB.1, if_neg hk0]) hk0 hl (by simp) (fun c hc => by obtain ⟨i, _, rfl⟩ := List.mem_map.1 hc; rfl) hdk (by omega)
          have st := hB.step W hU c18 [19, k - 1, 12, 0] [19, 0, 12, 0] _ (fun _ => rfl) rfl (.tup [])
          rw [← hhd] at h17 st
          obtain ⟨P, hP⟩ : ∃ P, P = putMR σ.m [7, 0] [19, k - 1, 12, 0] [19, 0, 12, 0] k hd ((List.range k).map fun i => [F.dn.hdr i]) := ⟨_, rfl⟩
          rw [← hP] at e69 st
          simp [h0, c18, h3, h4, h13, h17, hdd, e69]
          exact ⟨st.2, st.1⟩
      · clear W hU h0 c18 h3 hB h4 σ
        rintro σ ⟨hU, h0, c18, h3, hB, h4⟩
        simp [hU, h0, c18, h3, hB, h4, hw1]
        exact ⟨⟨k + 1, by omega, rfl, hB, by simp⟩, by omega⟩
    · obtain rfl : k = K := by omega
      refine wwp_off ?_
      simp [hU, h0, h3, hB, h4]
      exact W.of rfl rfl
  · clear W hU h0 c18 h3 hB σ
    rintro σ ⟨W, hU, h3, hB⟩
    have hb := hB.1
    rw [if_neg (by omega)] at hb
    have hl := hB.2 hK0
    refine wwp_cutN 1 W (fun σ => Up F.U σ.m ∧ σ.s 19 = .ptr [7, 0] 0 ∧ σ.m [7, 0] = some (.box (bagR (.sl [19, K - 1, 12, 0] 1 0 K none))) ∧ σ.m [19, K - 1, 12, 0] = some (.row [19, 0, 12, 0] 22 ((List.range K).map fun i => [F.dn.hdr i]))) (by simp [h3, hb, hl]; exact hU) ?_
    clear W hU h3 hB hb hl σ
    rintro σ W ⟨hU, h19, hb, hl⟩
    simp only [List.drop_succ_cons, List.drop_zero]
    have hI : ({ F.dn with lt := [19, K - 1, 12, 0], lg := [19, 0, 12, 0], U := σ.m } : FlR).In C σ.m := FlR.In.of (F9 := { F.dn with lt := [19, K - 1, 12, 0], lg := [19, 0, 12, 0], U := σ.m }) h rfl rfl rfl rfl rfl hU
    have hC : ({ F.dn with lt := [19, K - 1, 12, 0], lg := [19, 0, 12, 0], U := σ.m } : FlR).CK := FlR.CK.of hc rfl rfl rfl rfl rfl rfl rfl (by have e : List.range K = List.range F.K := by { rw [hK] }; rw [e] at hl; exact hl) fun k => .inl (by simp)
    have e70 := h70 _ C [7, 0] hC hI (by have e : D.sl [19, K - 1, 12, 0] 1 0 K none = D.sl [19, K - 1, 12, 0] 1 0 F.K none := by { rw [← hK] }; rw [e] at hb; exact hb)
    have hp := FlR.pass (F9 := { F.dn with lt := [19, K - 1, 12, 0], lg := [19, 0, 12, 0], U := σ.m }) h rfl rfl rfl hI hU
    obtain ⟨D9, hD9⟩ : ∃ D9, D9 = dropM (grpsOf σ.m ({ F.dn with lt := [19, K - 1, 12, 0], lg := [19, 0, 12, 0], U := σ.m } : FlR).hrow) (upM σ.m) := ⟨_, rfl⟩
    have e70' : m70 σ.m [.ptr [7, 0] 0] = some (bv true, D9) := by rw [hD9]; exact e70
    have hp' : ∀ τ o, dropM (grpsOf F.U F.hrow) (upM F.U) τ = some o → D9 (0 :: τ) = some (o.ren up) := by rw [hD9]; exact hp
    clear e70 hp hD9
    simp [h19, e70']
    exact DrM.sp W hU (fun τ o ho => (dropM_some.1 ho).1) hp' 20 (bv true)
theorem c51 (F : FlR) (hc : F.CK) (C : Nat → List Row) (h : F.In C F.U) (hK0 : 0 < F.K) : VCm Try.prog 51 F.U [.sl F.lt 1 0 F.K none] (bv true) (dropM (grpsOf F.U F.hrow) (upM F.U)) :=
  wcontract_m (Γ := mkEnv [] [] [(69, S69), (70, S70R)]) (sound_mk (by simp) (by simp) (by simp [s69, s70R])) mixed is51 (by rw [nt51]; simp)
    (c51w S69 S70R F hc C h hK0 (fun M bt h h1 h2 => S69_nil h1 h2) (fun M bt lt lg h n hs h1 h2 h3 h4 h5 h6 h7 => S69_at h1 h2 h3 h4 h5 h6 h7) fun F9 C9 bt h1 h2 h3 => S70R_at h1 h2 h3)
theorem FlI.pass {F F9 : FlI} {C C9 : Nat → List Int} (h : F.In C F.U) (eK : F9.K = F.K) (en : F9.nl = F.nl) (eg : F9.gr = fun k => 0 :: F.gr k) (h9 : F9.In C9 F9.U) (hU : Up F.U F9.U) :
    ∀ τ o, dropM (grpsOf F.U F.hrow) (upM F.U) τ = some o → dropM (grpsOf F9.U F9.hrow) (upM F9.U) (0 :: τ) = some (o.ren up) := fun τ o ho => by
  obtain ⟨h1, h2⟩ := dropM_some.1 ho
  refine dropM_some.2 ⟨by rw [upM_up, hU _ _ h1]; rfl, fun g hg hP => ?_⟩
  rw [HO.ren_grp] at hg
  obtain ⟨g0, hg0, rfl⟩ := Option.map_eq_some_iff.1 hg
  obtain ⟨j, hj, hn, e⟩ := (FlI.grps h9 _).1 hP
  rw [eK] at hj
  rw [en] at hn
  rw [eg] at e
  exact h2 g0 hg0 ((FlI.grps h _).2 ⟨j, hj, hn, (List.cons.inj e).2⟩)
theorem FlI.CK.of {F F9 : FlI} (hc : F.CK) (eK : F9.K = F.K) (en : F9.nl = F.nl) (el : F9.ln = F.ln) (ee : F9.ez = fun k => (F.ez k).map fun t => 0 :: t) (et : F9.tk = fun k => 0 :: F.tk k) (eg : F9.gr = fun k => 0 :: F.gr k) (em : F9.mrk = F.mrk) (hl : F9.U F9.lt = some (.row F9.lg 34 F9.hrow)) (hg : ∀ k, 0 :: F.gr k ≠ F9.lg ∨ F9.lg = 0 :: F.lg) : F9.CK where
  K1 := by rw [eK]; exact hc.K1
  zero := by rw [en, el]; exact hc.zero
  small := by rw [eK, el]; exact hc.small
  ezE := by
    rw [eK, en, ee, et]
    intro k t hk ht
    obtain ⟨t', h', rfl⟩ := Option.map_eq_some_iff.1 ht
    obtain ⟨j, a, b, rfl⟩ := hc.ezE k t' hk h'
    exact ⟨j, a, b, rfl⟩
  tkI := by rw [eK, en, et]; exact fun j k hj hk nj nk e => hc.tkI j k hj hk nj nk (List.cons.inj e).2
  grI := by rw [eK, en, eg]; exact fun j k hj hk nj nk e => hc.grI j k hj hk nj nk (List.cons.inj e).2
  hl := hl
  lgne := by
    rw [eK, en, eg]
    intro j hj hn e
    rcases hg j with h | h
    · exact h e
    · rw [h] at e; exact hc.lgne j hj hn (List.cons.inj e).2
  mrkE := by rw [em]; exact hc.mrkE
theorem FlI.In.of {F F9 : FlI} {C : Nat → List Int} (h : F.In C F.U) (eK : F9.K = F.K) (en : F9.nl = F.nl) (el : F9.ln = F.ln) (et : F9.tk = fun k => 0 :: F.tk k) (eg : F9.gr = fun k => 0 :: F.gr k) (hU : Up F.U F9.U) : F9.In C F9.U := fun j hj hn => by
  rw [eK] at hj
  rw [en] at hn
  obtain ⟨h1, h2⟩ := h.dn j hj hn
  rw [et, eg, el]
  exact ⟨hU _ _ h1, h2⟩
theorem c70I (F : FlI) (hc : F.CK) (C : Nat → List Int) (h : F.In C F.U) (bt : Tok) (hb : F.U bt = some (.box (bagI (.sl F.lt 1 0 F.K none)))) : VCm Try.prog 70 F.U [.ptr bt 0] (bv true) (dropM (grpsOf F.U F.hrow) (upM F.U)) :=
  wcontract_m (Γ := mkEnv [] [] [(77, S77), (78, Snil), (79, Snil), (80, Snil), (81, Snil), (82, Snil), (83, Snil), (84, Snil), (85, Snil), (86, Snil), (87, Snil), (88, Snil), (89, Snil), (90, Snil), (91, Snil), (92, Snil), (93, Snil)]) (sound_mk (by simp) (by simp) (by simp [s77, snil c78nil, snil c79nil, snil c80nil, snil c81nil, snil c82nil, snil c83nil, snil c84nil, snil c85nil, snil c86nil, snil c87nil, snil c88nil, snil c89nil, snil c90nil, snil c91nil, snil c92nil, snil c93nil])) mixed is70 (by rw [nt70]; simp)
    (c70Iw Snil S77 F.U bt F.lt F.K (dropM (grpsOf F.U F.hrow) (upM F.U)) (fun M => rfl) hb (fun τ o ho => (dropM_some.1 ho).1) (dropM_some.2 ⟨by rw [upM_up, hb]; rfl, fun g hg => by cases hg⟩)
      fun M hU => by
        have hI : ({ F.dn with U := M } : FlI).In C M := FlI.In.of (F9 := { F.dn with U := M }) h rfl rfl rfl rfl rfl hU
        have hC : ({ F.dn with U := M } : FlI).CK := FlI.CK.of hc rfl rfl rfl rfl rfl rfl rfl (hU _ _ hc.ok.hl) fun k => .inr rfl
        exact ⟨_, S77_at hC hI, FlI.pass (F9 := { F.dn with U := M }) h rfl rfl rfl hI hU⟩)
open Classical in
noncomputable def S70I : FM := fun M ds => match ds with
  | [.ptr bt 0] => match M bt with
    | some (.box fs) => match fs.getD 0 .undef with
      | .sl lt 1 0 n none => match M lt with
        | some (.row _ 34 hs) => if ∃ (F : FlI) (C : Nat → List Int), F.CK ∧ F.In C F.U ∧ F.U = M ∧ F.lt = lt ∧ F.K = n ∧ fs = bagI (.sl lt 1 0 n none) then some (bv true, dropM (grpsOf M hs) (upM M)) else none
        | _ => none
      | _ => none
    | _ => none
  | _ => none
theorem s70I : OkM 70 S70I := fun m ds d m' h => by
  unfold S70I at h
  split at h
  · split at h
    · rename_i fs hb
      split at h
      · split at h
        · split at h
          · rename_i hM hc
            cases h
            obtain ⟨F, C, h1, h2, rfl, rfl, rfl, rfl⟩ := hc
            rw [h1.hl] at hM
            cases hM
            exact c70I F h1 C h2 _ hb
          · cases h
        · cases h
      · cases h
    · cases h
  · cases h
theorem S70I_at {F : FlI} {C : Nat → List Int} (hc : F.CK) (h : F.In C F.U) {bt : Tok} (hb : F.U bt = some (.box (bagI (.sl F.lt 1 0 F.K none)))) : S70I F.U [.ptr bt 0] = some (bv true, dropM (grpsOf F.U F.hrow) (upM F.U)) := by
  have : (bagI (D.sl F.lt 1 0 F.K none)).getD 0 .undef = .sl F.lt 1 0 F.K none := rfl
  simp only [S70I, hb, this, hc.hl]
  exact if_pos ⟨F, C, hc, h, rfl, rfl, rfl, rfl⟩
/-- The bag, with so many slices. -/
def FlI.BG (F : FlI) (k : Nat) (M : Mem) : Prop := M [7, 0] = some (.box (bagI (if k = 0 then .nil else .sl [19, k - 1, 12, 0] 1 0 k none))) ∧ (0 < k → M [19, k - 1, 12, 0] = some (.row [19, 0, 12, 0] 34 ((List.range k).map fun i => [F.dn.hdr i])))
theorem FlI.hdr_ren (F : FlI) (k : Nat) : ((F.hdr k).renC up).renC (dnTok 18 0) = F.hdr k ∧ ∀ c, ((F.hdr k).renC up).renC (dnTok 18 c) = F.hdr k := by
  refine ⟨?_, fun c => ?_⟩ <;> · unfold FlI.hdr FlI.emp; split <;> (try split) <;> rfl
theorem FlI.BG.step {F : FlI} {k : Nat} {σ : St} (W : WF σ) (hU : Up F.U σ.m) (hc : σ.c 18 = k) (h : F.BG k σ.m) (lt lg : Tok) (hs : List (List D)) (hg : k ≠ 0 → lg = [19, 0, 12, 0]) (hhs : hs = (List.range k).map fun i => [F.dn.hdr i]) (d : D) :
    F.BG (k + 1) (σ.adoptM 18 d (putMI σ.m [7, 0] lt lg k (F.dn.hdr k) hs)).m ∧ Up F.U (σ.adoptM 18 d (putMI σ.m [7, 0] lt lg k (F.dn.hdr k) hs)).m := by
  refine ⟨⟨?_, fun _ => ?_⟩, fun τ o ho => ?_⟩
  · have e0 : putMI σ.m [7, 0] lt lg k (F.dn.hdr k) hs (0 :: [7, 0]) = some (.box (bagI (.sl [12, 0] 1 0 (k + 1) none))) := by simp [putMI]
    rw [adoptM_g2 W h.1 18 d e0, hc]
    simp [bagI, dnTok]
  · have e2 := adoptM_new (σ := σ) (x := 18) (d := d) (m' := putMI σ.m [7, 0] lt lg k (F.dn.hdr k) hs) (b := 11) (r := [0])
    rw [hc] at e2
    show (σ.adoptM 18 d (putMI σ.m [7, 0] lt lg k (F.dn.hdr k) hs)).m [19, k + 1 - 1, 12, 0] = _
    rw [Nat.add_sub_cancel, e2]
    have e1 : putMI σ.m [7, 0] lt lg k (F.dn.hdr k) hs [12, 0] = some (.row (if k = 0 then [12, 0] else 0 :: lg) 34 ((hs.map (List.map (D.renC up))) ++ [[(F.dn.hdr k).renC up]])) := by simp [putMI]
    rw [e1, Option.map_some]
    simp only [HO.ren, Option.some.injEq, HO.row.injEq, true_and]
    refine ⟨?_, ?_⟩
    · by_cases h0 : k = 0
      · rw [if_pos h0, h0]; rfl
      · rw [if_neg h0, hg h0]; rfl
    · rw [List.range_succ, List.map_append, List.map_append, hhs]
      congr 1
      · simp only [List.map_map]
        refine List.map_congr_left fun i _ => ?_
        simp only [Function.comp_def, List.map_cons, List.map_nil, (F.dn.hdr_ren i).2]
      · simp only [List.map_cons, List.map_nil, (F.dn.hdr_ren k).2]
  · have h1 := hU τ o ho
    have h2 : putMI σ.m [7, 0] lt lg k (F.dn.hdr k) hs (0 :: τ) = some (o.ren up) := by
      obtain ⟨r, q, rfl, hq, rfl⟩ := upM_dom ho
      simp only [putMI]
      rw [if_neg (by simp), if_neg (by simp)]
      refine dropM_some.2 ⟨by rw [upM_up, h1]; rfl, fun g hg' hP => ?_⟩
      rw [HO.ren_grp, HO.ren_grp] at hg'
      obtain ⟨g0, hg0, rfl⟩ := Option.map_eq_some_iff.1 hg'
      obtain ⟨g1, _, rfl⟩ := Option.map_eq_some_iff.1 hg0
      have := hP.2
      rw [hg hP.1] at this
      simp [up] at this
    rw [adoptM_gen W h1 18 d h2, up_ren ho]
theorem c52w (m71 m70 : FM) (F : FlI) (hc : F.CK) (C : Nat → List Int) (h : F.In C F.U) (hK0 : 0 < F.K)
    (h71n : ∀ (M : Mem) (bt : Tok) (h : D), M bt = some (.box (bagI .nil)) → hdD h = true → m71 M [.ptr bt 0, h] = some (.tup [], putMI M bt [] [] 0 h []))
    (h71 : ∀ (M : Mem) (bt lt lg : Tok) (h : D) (n : Nat) (hs : List (List D)), M bt = some (.box (bagI (.sl lt 1 0 n none))) → n ≠ 0 → M lt = some (.row lg 34 hs) → hs.length = n → (∀ c ∈ hs, c.length = 1) → hdD h = true → n ≤ 1000 → m71 M [.ptr bt 0, h] = some (.tup [], putMI M bt lt lg n h hs))
    (h70 : ∀ (F9 : FlI) (C9 : Nat → List Int) (bt : Tok), F9.CK → F9.In C9 F9.U → F9.U bt = some (.box (bagI (.sl F9.lt 1 0 F9.K none))) → m70 F9.U [.ptr bt 0] = some (bv true, dropM (grpsOf F9.U F9.hrow) (upM F9.U))) :
    wwp (mkEnv [] [] [(71, m71), (70, m70)]) W52.1 (fun e s => okExit e ∧ resV W52.2 s = some (bv true) ∧ DrM (dropM (grpsOf F.U F.hrow) (upM F.U)) s.m) (initM F.U [.sl F.lt 1 0 F.K none]) := by
  obtain ⟨K, hK⟩ : ∃ K, K = F.K := ⟨_, rfl⟩
  have hK1 := hc.K1
  have hra : ∀ k, k < K → F.dn.hrow[k]? = some [F.dn.hdr k] := fun k h => F.dn.hrow_at (by show k < F.K; omega)
  have hlt : ∀ M, Up F.U M → M (0 :: F.lt) = some (.row (0 :: F.lg) 34 F.dn.hrow) := fun M hU => hU _ _ hc.ok.hl
  have hz : zrep 17 D.nil = bagI .nil := rfl
  have hzl : (bagI .nil).length = 17 := rfl
  have hzo : (bagI .nil).all D.okC = true := rfl
  rw [← hK] at hK0 hK1 ⊢
  simp only [W52]
  refine wwp_cutW (wf_initM _ _) (fun σ => Up F.U σ.m ∧ σ.s 0 = .sl (0 :: F.lt) 1 0 K none ∧ σ.c 6 = 0 ∧ σ.c 18 = 0) (by simp; exact fun t o h => h) ?_
  rintro σ W ⟨hU, h0, c6, c18⟩
  refine wwp_cutW W (fun σ => Up F.U σ.m ∧ σ.s 0 = .sl (0 :: F.lt) 1 0 K none ∧ σ.c 18 = 0 ∧ σ.s 3 = .ptr [7, 0] 0 ∧ F.BG 0 σ.m) ?_ ?_
  · rw [hz]
    simp [h0, c6, c18, bagI]
    refine ⟨Up.new' W hU 6 _ _ ?_ ?_, by simp [FlI.BG, bagI, c6]⟩
    · repeat (refine set_m_of ?_)
      rfl
    · repeat (refine set_c_of ?_)
      rfl
  clear W hU h0 c6 c18 σ
  rintro σ W ⟨hU, h0, c18, h3, hB⟩
  refine wwp_cutG (fun σ => WF σ ∧ Up F.U σ.m ∧ σ.s 3 = .ptr [7, 0] 0 ∧ F.BG K σ.m) ?_ ?_
  · refine wwp_cut (fun σ => Up F.U σ.m ∧ σ.s 0 = .sl (0 :: F.lt) 1 0 K none ∧ σ.c 18 = 0 ∧ σ.s 3 = .ptr [7, 0] 0 ∧ F.BG 0 σ.m ∧ σ.s 4 = iv 0) (by simp [hU, h0, c18, h3, hB]) ?_
    clear W hU h0 c18 h3 hB σ
    rintro σ ⟨hU, h0, c18, h3, hB, h4⟩
    simp only [wwp_block]
    refine wwp_loop (fun σ => ∃ k : Nat, k ≤ K ∧ Up F.U σ.m ∧ σ.s 0 = .sl (0 :: F.lt) 1 0 K none ∧ σ.c 18 = k ∧ σ.s 3 = .ptr [7, 0] 0 ∧ F.BG k σ.m ∧ σ.s 4 = iv k) (fun σ => cnt K (σ.s 4)) ?_ ?_
    · exact ⟨0, by omega, hU, h0, c18, h3, hB, h4⟩
    clear hU h0 c18 h3 hB h4 σ
    rintro σ W ⟨k, hk, hU, h0, c18, h3, hB, h4⟩
    refine wwp_seq_assoc ?_
    by_cases hkl : k < K
    · have hw1 := wrap_succ (show k ≤ 1000000000 by omega)
      have hmu : cnt K (σ.s 4) = K - k := by simp [h4]
      simp only [hmu]
      clear hmu
      have hz2 : (k : Int) < K := by omega
      refine wwp_on (fun σ => WF σ ∧ Up F.U σ.m ∧ σ.s 0 = .sl (0 :: F.lt) 1 0 K none ∧ σ.c 18 = k ∧ σ.s 3 = .ptr [7, 0] 0 ∧ F.BG k σ.m ∧ σ.s 4 = iv k) (by simp [hU, h0, c18, h3, hB, h4, hz2, hkl]; exact W.of rfl rfl) ?_
      clear W hU h0 c18 h3 hB h4 σ
      rintro σ ⟨W, hU, h0, c18, h3, hB, h4⟩
      refine wwp_body (fun σ => Up F.U σ.m ∧ σ.s 0 = .sl (0 :: F.lt) 1 0 K none ∧ σ.c 18 = k + 1 ∧ σ.s 3 = .ptr [7, 0] 0 ∧ F.BG (k + 1) σ.m ∧ σ.s 4 = iv k) ?_ ?_
      · have hlr := hlt σ.m hU
        have hrk := hra k hkl
        refine wwp_cutN1 1 W (fun σ => Up F.U σ.m ∧ σ.s 0 = .sl (0 :: F.lt) 1 0 K none ∧ σ.c 18 = k ∧ σ.s 3 = .ptr [7, 0] 0 ∧ F.BG k σ.m ∧ σ.s 4 = iv k ∧ σ.s 13 = .ptr [7, 0] 0 ∧ σ.s 17 = F.dn.hdr k) (by simp [hU, h0, c18, h3, hB, h4, hlr, hrk, hkl]) ?_
        clear W hU h0 c18 h3 hB h4 hlr σ
        rintro σ W ⟨hU, h0, c18, h3, hB, h4, h13, h17⟩
        simp only [List.drop_succ_cons, List.drop_zero]
        obtain ⟨hd, hhd⟩ : ∃ hd, hd = F.dn.hdr k := ⟨_, rfl⟩
        have hdk : hdD hd = true := by rw [hhd]; unfold FlI.hdr FlI.emp; split <;> (try split) <;> rfl
        have hdd : hd.isDef = true := by rw [hhd]; unfold FlI.hdr FlI.emp; split <;> (try split) <;> rfl
        by_cases hk0 : k = 0
        · have e71 := h71n σ.m [7, 0] hd (by rw [hB.1, if_pos hk0]) hdk
          have st := hB.step W hU c18 [] [] [] (fun h => absurd hk0 h) (by rw [hk0]; rfl) (.tup [])
          rw [← hhd] at h17 st
          rw [hk0] at st c18 h4 ⊢
          simp [h0, c18, h3, h4, h13, h17, hdd, e71]
          exact ⟨st.2, st.1⟩
        · have hl := hB.2 (by omega)
          have e71 := h71 σ.m [7, 0] [19, k - 1, 12, 0] [19, 0, 12, 0] hd k _ (by rw [hB.1, if_neg hk0]) hk0 hl (by simp) (fun c hc => by obtain ⟨i, _, rfl⟩ := List.mem_map.1 hc; rfl) hdk (by omega)
          have st := hB.step W hU c18 [19, k - 1, 12, 0] [19, 0, 12, 0] _ (fun _ => rfl) rfl (.tup [])
          rw [← hhd] at h17 st
          obtain ⟨P, hP⟩ : ∃ P, P = putMI σ.m [7, 0] [19, k - 1, 12, 0] [19, 0, 12, 0] k hd ((List.range k).map fun i => [F.dn.hdr i]) := ⟨_, rfl⟩
          rw [← hP] at e71 st
          simp [h0, c18, h3, h4, h13, h17, hdd, e71]
          exact ⟨st.2, st.1⟩
      · clear W hU h0 c18 h3 hB h4 σ
        rintro σ ⟨hU, h0, c18, h3, hB, h4⟩
        simp [hU, h0, c18, h3, hB, h4, hw1]
        exact ⟨⟨k + 1, by omega, rfl, hB, by simp⟩, by omega⟩
    · obtain rfl : k = K := by omega
      refine wwp_off ?_
      simp [hU, h0, h3, hB, h4]
      exact W.of rfl rfl
  · clear W hU h0 c18 h3 hB σ
    rintro σ ⟨W, hU, h3, hB⟩
    have hb := hB.1
    rw [if_neg (by omega)] at hb
    have hl := hB.2 hK0
    refine wwp_cutN 1 W (fun σ => Up F.U σ.m ∧ σ.s 19 = .ptr [7, 0] 0 ∧ σ.m [7, 0] = some (.box (bagI (.sl [19, K - 1, 12, 0] 1 0 K none))) ∧ σ.m [19, K - 1, 12, 0] = some (.row [19, 0, 12, 0] 34 ((List.range K).map fun i => [F.dn.hdr i]))) (by simp [h3, hb, hl]; exact hU) ?_
    clear W hU h3 hB hb hl σ
    rintro σ W ⟨hU, h19, hb, hl⟩
    simp only [List.drop_succ_cons, List.drop_zero]
    have hI : ({ F.dn with lt := [19, K - 1, 12, 0], lg := [19, 0, 12, 0], U := σ.m } : FlI).In C σ.m := FlI.In.of (F9 := { F.dn with lt := [19, K - 1, 12, 0], lg := [19, 0, 12, 0], U := σ.m }) h rfl rfl rfl rfl rfl hU
    have hC : ({ F.dn with lt := [19, K - 1, 12, 0], lg := [19, 0, 12, 0], U := σ.m } : FlI).CK := FlI.CK.of hc rfl rfl rfl rfl rfl rfl rfl (by have e : List.range K = List.range F.K := by { rw [hK] }; rw [e] at hl; exact hl) fun k => .inl (by simp)
    have e70 := h70 _ C [7, 0] hC hI (by have e : D.sl [19, K - 1, 12, 0] 1 0 K none = D.sl [19, K - 1, 12, 0] 1 0 F.K none := by { rw [← hK] }; rw [e] at hb; exact hb)
    have hp := FlI.pass (F9 := { F.dn with lt := [19, K - 1, 12, 0], lg := [19, 0, 12, 0], U := σ.m }) h rfl rfl rfl hI hU
    obtain ⟨D9, hD9⟩ : ∃ D9, D9 = dropM (grpsOf σ.m ({ F.dn with lt := [19, K - 1, 12, 0], lg := [19, 0, 12, 0], U := σ.m } : FlI).hrow) (upM σ.m) := ⟨_, rfl⟩
    have e70' : m70 σ.m [.ptr [7, 0] 0] = some (bv true, D9) := by rw [hD9]; exact e70
    have hp' : ∀ τ o, dropM (grpsOf F.U F.hrow) (upM F.U) τ = some o → D9 (0 :: τ) = some (o.ren up) := by rw [hD9]; exact hp
    clear e70 hp hD9
    simp [h19, e70']
    exact DrM.sp W hU (fun τ o ho => (dropM_some.1 ho).1) hp' 20 (bv true)
theorem c52 (F : FlI) (hc : F.CK) (C : Nat → List Int) (h : F.In C F.U) (hK0 : 0 < F.K) : VCm Try.prog 52 F.U [.sl F.lt 1 0 F.K none] (bv true) (dropM (grpsOf F.U F.hrow) (upM F.U)) :=
  wcontract_m (Γ := mkEnv [] [] [(71, S71), (70, S70I)]) (sound_mk (by simp) (by simp) (by simp [s71, s70I])) mixed is52 (by rw [nt52]; simp)
    (c52w S71 S70I F hc C h hK0 (fun M bt h h1 h2 => S71_nil h1 h2) (fun M bt lt lg h n hs h1 h2 h3 h4 h5 h6 h7 => S71_at h1 h2 h3 h4 h5 h6 h7) fun F9 C9 bt h1 h2 h3 => S70I_at h1 h2 h3)
end Go.Proofs.Ytpmgaaalfdjikaa
namespace Go.Proofs.Ytpmgaaalfdjikaa
open Go.RowKit
set_option linter.unusedSimpArgs false
set_option linter.unusedVariables false

/-- As frOf; but Turn, exchange and Clone are handed memory. -/
def frH (f : Nat) : Nat := if f = 17 ∨ f = 41 ∨ f = 24 then 2 else frOf f
def WH17 : WC × List VRes := ((.seq (.reg [(.stm (.eff (.box 2 (.t 0)) none)), (.stm (.eff (.box 4 (.c (.agg [(.v (.int .i64 0)), (.v (.int .i64 0)), (.v (.int .i64 0)), (.v (.int .i64 0)), (.v (.int .i64 0)), .nil]))) none)), (.set [(5, (.c (.v (.int .i64 0))))] [5])]) (.seq (.seq (.reg [(.set [(8, (.ap .inot [(.ap (.call 27) [(.ap (.load 6 true) [(.t 2)])])]))] [6, 7, 8])]) (.cond (.t 8) (.seq (.reg [(.set [(9, (.ap (.build [(.v (.int .i64 0)), (.v (.int .i64 0)), (.v (.int .i64 0)), (.v (.int .i64 0)), (.v (.int .i64 0)), .nil] []) []))] [9]), (.stm (.eff (.store 6 (.t 4) (.t 9)) none)), (.set [(5, (.c (.v (.int .i64 290))))] [5])]) .ret) .skip)) (.seq (.seq (.reg [(.set [(13, (.ap .inot [(.ap (.call 39) [(.ap (.load 6 true) [(.t 2)]), (.t 1)])]))] [10, 11, 12, 13])]) (.cond (.t 13) (.seq (.reg [(.set [(14, (.ap (.build [(.v (.int .i64 0)), (.v (.int .i64 0)), (.v (.int .i64 0)), (.v (.int .i64 0)), (.v (.int .i64 0)), .nil] []) []))] [14]), (.stm (.eff (.store 6 (.t 4) (.t 14)) none)), (.set [(5, (.c (.v (.int .i64 291))))] [5])]) .ret) .skip)) (.seq (.reg [(.set [(15, (.ap (.load 6 true) [(.t 2)])), (16, (.t 1))] [15, 16]), (.stm (.eff (.callm 17 41 [(.t 15), (.t 16)]) none)), (.stm (.eff (.store 6 (.t 4) (.t 17)) none)), (.set [(5, (.c (.v (.int .i64 0))))] [5])]) .ret)))), [(.cell 4 6 true), (.t 5)])
theorem isH17 : IsFn Try.prog frH 17 Try.f17 WH17 := ⟨by kernel_rfl, by kernel_rfl, by kernel_rfl⟩
def WH41 : WC × List VRes := ((.seq (.reg [(.stm (.eff (.box 2 (.t 0)) none)), (.stm (.eff (.box 3 (.t 1)) none)), (.stm (.eff (.box 4 (.c (.agg [(.v (.int .i64 0)), (.v (.int .i64 0)), (.v (.int .i64 0)), (.v (.int .i64 0)), (.v (.int .i64 0)), .nil]))) none))]) (.seq (.reg [(.set [(5, (.ap (.clo 62) [(.t 3)]))] [8, 5])]) (.seq (.reg [(.set [(10, (.ap (.load 1 false) [(.ap (.fld 5) [(.t 2)])]))] [9, 10]), (.stm (.eff (.callm 11 24 [(.t 10)]) none)), (.set [(12, (.ap (.fld 5) [(.t 2)]))] [12]), (.stm (.eff (.store 1 (.t 12) (.t 11)) none))]) (.seq (.seq (.reg [(.set [(14, (.ap (.load 1 false) [(.ap (.fld 5) [(.t 2)])])), (15, (.ap .llen [(.ap (.load 1 false) [(.ap (.fld 5) [(.t 2)])])])), (16, (.c (.v (.int .i64 0))))] [13, 14, 15, 16])]) (.block 0 (.loop (.seq (.reg [(.set [(17, (.ap (.ibin .lss) [(.t 16), (.t 15)]))] [17])]) (.seq (.cond (.t 17) .skip (.exit 0)) (.seq (.block 1 (.seq (.reg [(.set [(18, (.t 16)), (20, (.ap (.load 5 true) [(.ap (.idx 53 5) [(.t 14), (.t 16)])]))] [18, 19, 20]), (.stm (.eff (.box 7 (.c (.agg [(.v (.int .i64 0)), (.v (.int .i64 0)), (.v (.int .i64 0)), (.v (.int .i64 0)), (.v (.int .i64 0))]))) none)), (.set [(6, (.t 18))] [6]), (.stm (.eff (.store 5 (.t 7) (.t 20)) none))]) (.seq (.reg [(.set [(24, (.ap .ccall [(.t 5), (.ap (.load 1 false) [(.ap (.fld 0) [(.t 7)])])]))] [21, 22, 23, 24])]) (.cond (.t 24) (.drw [[(.op 25 (.fld 5) [(.t 2)] none), (.op 26 (.load 1 false) [(.t 25)] none), (.op 27 .mv [(.t 6)] none), (.op 28 (.fld 5) [(.t 2)] none), (.op 30 .mv [(.t 6)] none), (.op 31 (.fld 3) [(.t 7)] none), (.op 32 (.load 1 false) [(.t 31)] none), (.op 33 (.fld 2) [(.t 7)] none), (.op 35 (.idx 53 5) [(.t 26), (.t 27)] none), (.op 36 (.fld 2) [(.t 35)] none), (.op 29 (.load 1 false) [(.t 28)] none), (.op 34 (.load 1 false) [(.t 33)] none), (.eff (.store 1 (.t 36) (.t 32)) none), (.op 37 (.idx 53 5) [(.t 29), (.t 30)] none), (.op 38 (.fld 3) [(.t 37)] none), (.eff (.store 1 (.t 38) (.t 34)) none)], [(.op 25 (.fld 5) [(.t 2)] none), (.op 26 (.load 1 false) [(.t 25)] none), (.op 27 .mv [(.t 6)] none), (.op 28 (.fld 5) [(.t 2)] none), (.op 30 .mv [(.t 6)] none), (.op 31 (.fld 3) [(.t 7)] none), (.op 32 (.load 1 false) [(.t 31)] none), (.op 33 (.fld 2) [(.t 7)] none), (.op 35 (.idx 53 5) [(.t 26), (.t 27)] none), (.op 36 (.fld 2) [(.t 35)] none), (.op 29 (.load 1 false) [(.t 28)] none), (.eff (.store 1 (.t 36) (.t 32)) none), (.op 34 (.load 1 false) [(.t 33)] none), (.op 37 (.idx 53 5) [(.t 29), (.t 30)] none), (.op 38 (.fld 3) [(.t 37)] none), (.eff (.store 1 (.t 38) (.t 34)) none)], [(.op 25 (.fld 5) [(.t 2)] none), (.op 26 (.load 1 false) [(.t 25)] none), (.op 27 .mv [(.t 6)] none), (.op 28 (.fld 5) [(.t 2)] none), (.op 30 .mv [(.t 6)] none), (.op 31 (.fld 3) [(.t 7)] none), (.op 32 (.load 1 false) [(.t 31)] none), (.op 33 (.fld 2) [(.t 7)] none), (.op 35 (.idx 53 5) [(.t 26), (.t 27)] none), (.op 36 (.fld 2) [(.t 35)] none), (.op 34 (.load 1 false) [(.t 33)] none), (.op 29 (.load 1 false) [(.t 28)] none), (.eff (.store 1 (.t 36) (.t 32)) none), (.op 37 (.idx 53 5) [(.t 29), (.t 30)] none), (.op 38 (.fld 3) [(.t 37)] none), (.eff (.store 1 (.t 38) (.t 34)) none)], [(.op 25 (.fld 5) [(.t 2)] none), (.op 26 (.load 1 false) [(.t 25)] none), (.op 27 .mv [(.t 6)] none), (.op 28 (.fld 5) [(.t 2)] none), (.op 30 .mv [(.t 6)] none), (.op 31 (.fld 3) [(.t 7)] none), (.op 32 (.load 1 false) [(.t 31)] none), (.op 33 (.fld 2) [(.t 7)] none), (.op 35 (.idx 53 5) [(.t 26), (.t 27)] none), (.op 36 (.fld 2) [(.t 35)] none), (.op 34 (.load 1 false) [(.t 33)] none), (.eff (.store 1 (.t 36) (.t 32)) none), (.op 29 (.load 1 false) [(.t 28)] none), (.op 37 (.idx 53 5) [(.t 29), (.t 30)] none), (.op 38 (.fld 3) [(.t 37)] none), (.eff (.store 1 (.t 38) (.t 34)) none)], [(.op 25 (.fld 5) [(.t 2)] none), (.op 26 (.load 1 false) [(.t 25)] none), (.op 27 .mv [(.t 6)] none), (.op 28 (.fld 5) [(.t 2)] none), (.op 30 .mv [(.t 6)] none), (.op 31 (.fld 3) [(.t 7)] none), (.op 32 (.load 1 false) [(.t 31)] none), (.op 33 (.fld 2) [(.t 7)] none), (.op 35 (.idx 53 5) [(.t 26), (.t 27)] none), (.op 36 (.fld 2) [(.t 35)] none), (.eff (.store 1 (.t 36) (.t 32)) none), (.op 29 (.load 1 false) [(.t 28)] none), (.op 34 (.load 1 false) [(.t 33)] none), (.op 37 (.idx 53 5) [(.t 29), (.t 30)] none), (.op 38 (.fld 3) [(.t 37)] none), (.eff (.store 1 (.t 38) (.t 34)) none)]]) .skip)))) (.reg [(.set [(16, (.ap (.ibin .add) [(.t 16), (.c (.v (.int .i64 1)))]))] [39, 16])]))))))) (.seq (.seq (.reg [(.set [(42, (.ap (.ibin .gtr) [(.ap .llen [(.ap (.load 1 false) [(.t 3)])]), (.c (.v (.int .i64 0)))]))] [40, 41, 42])]) (.cond (.t 42) (.reg [(.set [(43, (.ap (.fld 4) [(.t 2)]))] [43]), (.stm (.eff (.store 1 (.t 43) (.c (.v (.int .i64 1)))) none))]) .skip)) (.seq (.reg [(.set [(44, (.ap (.load 6 true) [(.t 2)]))] [44]), (.stm (.eff (.store 6 (.t 4) (.t 44)) none))]) .ret)))))), [(.cell 4 6 true)])
theorem isH41 : IsFn Try.prog frH 41 Try.f41 WH41 := ⟨by kernel_rfl, by kernel_rfl, by kernel_rfl⟩
/-- A callee's own tokens. -/
def one (t : Tok) : Tok := 1 :: t
def oneM (m m' : Mem) : Mem := fun τ => match τ with
  | 0 :: r => (m r).map (HO.ren up)
  | 1 :: r => (m' r).map (HO.ren one)
  | _ => none
/-- A function that hands back new memory may be read as one that is handed memory. -/
theorem VCm.ofq {P : Program} {f : Nat} {m m' : Mem} {ds es : List D} {d : D} (h : VCq P f es d m')
    (hv : ∀ (w : World) (pr : Prot) (tk : Places) (vs : List Value), (∀ b o, pr b o → b < w.heap.size) → MemOK P w pr tk m → Reps w pr tk vs ds → Reps w (allPr w) noTok vs es) : VCm P f m ds (d.ren one) (oneM m m') := by
  refine ⟨h.1, fun w pr tk cargs hpr hprA M hargs => ?_⟩
  refine (h.2 w (allPr w) cargs (fun _ _ h => h) (hv w pr tk _ hpr M hargs)).mono ?_
  rintro e w' ⟨v, tkc, rfl, hc, MC, hnew, hv'⟩
  let tk' : Places := fun t => match t with
    | 0 :: r => tk r
    | 1 :: r => tkc r
    | _ => none
  have oldlt : ∀ t q b c, m t = some q → tk t = some (b, c) → b < w.heap.size := fun t q b c h ht => by
    obtain ⟨b1, c1, h1, h2⟩ := (M.obj t q h).place
    rw [ht] at h1; cases h1; exact h2
  have K : Keeps w w' pr pr tk tk := ⟨fun b o hb => ⟨hc.cell o (hpr b o hb) id, hb⟩, fun _ _ h => h⟩
  have dom : ∀ t o, oneM m m' t = some o → (∃ r q, t = up r ∧ m r = some q ∧ o = q.ren up) ∨ ∃ r q, t = one r ∧ m' r = some q ∧ o = q.ren one := fun t o h => by
    match t, h with
    | [], h => cases h
    | 0 :: r, h => obtain ⟨q, hq, rfl⟩ := Option.map_eq_some_iff.1 h; exact .inl ⟨r, q, rfl, hq, rfl⟩
    | 1 :: r, h => obtain ⟨q, hq, rfl⟩ := Option.map_eq_some_iff.1 h; exact .inr ⟨r, q, rfl, hq, rfl⟩
    | (_ + 2) :: _, h => cases h
  refine ⟨v, tk', rfl, hc.mono fun _ _ h => h.elim, fun t => rfl, ⟨fun t o ho => ?_, fun t t' o o' b c c' ho ho' ht ht' => ?_⟩, fun t o b c ho ht => ?_, hv'.ren (f := one) (fun _ _ h => h.elim) (fun t p h => h)⟩
  · rcases dom t o ho with ⟨r, q, rfl, hq, rfl⟩ | ⟨r, q, rfl, hq, rfl⟩
    · exact ((M.obj r q hq).keeps K fun b c hb => hc.block b (oldlt r q b c hq hb) id).ren (fun _ _ h => h) (fun t p h => h)
    · exact (MC.obj r q hq).ren (fun _ _ h => h.elim) (fun t p h => h)
  · rcases dom t o ho with ⟨r, q, rfl, hq, rfl⟩ | ⟨r, q, rfl, hq, rfl⟩ <;> rcases dom t' o' ho' with ⟨r', q', rfl, hq', rfl⟩ | ⟨r', q', rfl, hq', rfl⟩
    · rcases M.inj r r' q q' b c c' hq hq' ht ht' with h | ⟨h1, h2⟩
      · left; rw [h]
      · right
        rw [HO.ren_grp, HO.ren_grp, h2]
        exact ⟨by rw [← h2]; simpa using h1, rfl⟩
    · have := oldlt r q b c hq ht
      have := hnew r' q' b c' hq' ht'
      omega
    · have := oldlt r' q' b c' hq' ht'
      have := hnew r q b c hq ht
      omega
    · rcases MC.inj r r' q q' b c c' hq hq' ht ht' with h | ⟨h1, h2⟩
      · left; rw [h]
      · right
        rw [HO.ren_grp, HO.ren_grp, h2]
        exact ⟨by rw [← h2]; simpa using h1, rfl⟩
  · rcases dom t o ho with ⟨r, q, rfl, hq, rfl⟩ | ⟨r, q, rfl, hq, rfl⟩
    · exact .inr ⟨r, q, c, hq, ht⟩
    · exact .inl (hnew r q b c hq ht)
theorem rep_mt {w : World} {pr pr' : Prot} {tk tk' : Places} {v : Value} (h : Rep w pr tk v .mt) : Rep w pr' tk' v .mt := by
  cases h; exact .mt
theorem rep_sl0 {w : World} {pr pr' : Prot} {tk tk' : Places} {v : Value} {t : Tok} {size off : Nat} {lim : Option Nat} (h : Rep w pr tk v (.sl t size off 0 lim)) : Rep w pr' tk' v .mt := by
  cases h; exact .mt
def S24H : FM := fun M ds => match ds with
  | [.mt] => some (.sl [1] 5 0 0 none, oneM M (rowMem 53 []))
  | _ => none
theorem s24H : OkM 24 S24H := fun m ds d m' h => by
  unfold S24H at h
  split at h
  · cases h
    exact VCm.ofq c24_mt fun w pr tk vs _ _ hr => by
      match vs, hr with
      | [v], hr => exact ⟨rep_mt hr.1, trivial⟩
  · cases h
theorem c41Hw (m24 : FM) (m : Mv) (L : List Int) (h24 : ∀ M, m24 M [.mt] = some (.sl [1] 5 0 0 none, oneM M (rowMem 53 []))) :
    wwp (mkEnv [] [] [(24, m24)]) WH41.1 (fun e s => okExit e ∧ ∃ d0, resV WH41.2 s = some d0 ∧ Out s d0 (.agg ((exch m L).cellsW (.sl [] 5 0 0 none))) (rowMem 53 [])) (initV [.agg (m.cellsW .mt), .list (ints L)]) := by
  simp only [WH41]
  refine wwp_cutW (wf_init _) (fun σ => σ.s 2 = .ptr [3, 0] 0 ∧ σ.s 3 = .ptr [4, 0] 0 ∧ σ.s 4 = .ptr [5, 0] 0 ∧ σ.m [3, 0] = some (.box (m.cellsW .mt)) ∧ σ.m [4, 0] = some (.box [.list (ints L)]) ∧ σ.m [5, 0] = some (.box noMv) ∧ σ.c 11 = 0) (by simp [Mv.cellsW, noMv]) ?_
  rintro σ W ⟨h2, h3, h4, m3, m4, m5, c11⟩
  simp only [Mv.cellsW, noMv] at m3 m5
  refine wwp_cutW W (fun σ => σ.s 2 = .ptr [3, 0] 0 ∧ σ.s 3 = .ptr [4, 0] 0 ∧ σ.s 4 = .ptr [5, 0] 0 ∧ σ.m [3, 0] = some (.box [iv m.t, iv m.r, iv m.s, iv m.c, iv m.w, .mt]) ∧ σ.m [4, 0] = some (.box [.list (ints L)]) ∧ σ.m [5, 0] = some (.box [iv 0, iv 0, iv 0, iv 0, iv 0, .nil]) ∧ σ.c 11 = 0) (by simp [h2, h3, h4, m3, m4, m5, c11]) ?_
  clear W h2 h3 h4 m3 m4 m5 c11 σ
  rintro σ W ⟨h2, h3, h4, m3, m4, m5, c11⟩
  refine wwp_cutN 1 W (fun σ => σ.s 10 = .mt ∧ σ.s 2 = .ptr [3, 0] 0 ∧ σ.s 3 = .ptr [4, 0] 0 ∧ σ.s 4 = .ptr [5, 0] 0 ∧ σ.m [3, 0] = some (.box [iv m.t, iv m.r, iv m.s, iv m.c, iv m.w, .mt]) ∧ σ.m [4, 0] = some (.box [.list (ints L)]) ∧ σ.m [5, 0] = some (.box [iv 0, iv 0, iv 0, iv 0, iv 0, .nil]) ∧ σ.c 11 = 0) (by simp [h2, h3, h4, m3, m4, m5, c11]) ?_
  clear W h2 h3 h4 m3 m4 m5 c11 σ
  rintro σ W ⟨h10, h2, h3, h4, m3, m4, m5, c11⟩
  simp only [List.drop_succ_cons, List.drop_zero]
  have e24 := h24 σ.m
  refine wwp_cutN 1 W (fun σ => σ.s 11 = .sl [12, 0, 1] 5 0 0 none ∧ σ.s 2 = .ptr [3, 0] 0 ∧ σ.s 3 = .ptr [4, 0] 0 ∧ σ.s 4 = .ptr [5, 0] 0 ∧ σ.m [3, 0] = some (.box [iv m.t, iv m.r, iv m.s, iv m.c, iv m.w, .mt]) ∧ σ.m [4, 0] = some (.box [.list (ints L)]) ∧ σ.m [5, 0] = some (.box [iv 0, iv 0, iv 0, iv 0, iv 0, .nil]) ∧ σ.m [12, 0, 1] = some (.row [12, 0, 1, 0] 53 [])) ?_ ?_
  · have k3 := adoptM_gen W m3 11 (.sl [1] 5 0 0 none) (m' := oneM σ.m (rowMem 53 [])) (by simp only [oneM, m3]; rfl)
    have k4 := adoptM_gen W m4 11 (.sl [1] 5 0 0 none) (m' := oneM σ.m (rowMem 53 [])) (by simp only [oneM, m4]; rfl)
    have k5 := adoptM_gen W m5 11 (.sl [1] 5 0 0 none) (m' := oneM σ.m (rowMem 53 [])) (by simp only [oneM, m5]; rfl)
    have k6 := adoptM_new (σ := σ) (x := 11) (d := .sl [1] 5 0 0 none) (m' := oneM σ.m (rowMem 53 [])) (b := 0) (r := [])
    rw [c11] at k6
    simp [h10, h2, h3, h4, e24, c11]
    exact ⟨by simp [dnTok], by rw [k3]; rfl, by rw [k4]; rfl, by rw [k5]; rfl, by rw [show ([12, 0, 1] : Tok) = (11 + 1) :: 0 :: (0 + 1) :: [] from rfl, k6]; rfl⟩
  clear W h10 h2 h3 h4 m3 m4 m5 c11 e24 σ
  rintro σ W ⟨h11, h2, h3, h4, m3, m4, m5, m12⟩
  simp only [List.drop_succ_cons, List.drop_zero]
  refine wwp_cutW W (fun σ => σ.s 2 = .ptr [3, 0] 0 ∧ σ.s 3 = .ptr [4, 0] 0 ∧ σ.s 4 = .ptr [5, 0] 0 ∧ σ.m [3, 0] = some (.box [iv m.t, iv m.r, iv m.s, iv m.c, iv m.w, .sl [12, 0, 1] 5 0 0 none]) ∧ σ.m [4, 0] = some (.box [.list (ints L)]) ∧ σ.m [5, 0] = some (.box [iv 0, iv 0, iv 0, iv 0, iv 0, .nil]) ∧ σ.m [12, 0, 1] = some (.row [12, 0, 1, 0] 53 [])) (by simp [h11, h2, h3, h4, m3, m4, m5, m12, putAt]) ?_
  clear W h11 h2 h3 h4 m3 m4 m5 m12 σ
  rintro σ W ⟨h2, h3, h4, m3, m4, m5, m12⟩
  refine wwp_cutG (fun σ => σ.s 2 = .ptr [3, 0] 0 ∧ σ.s 3 = .ptr [4, 0] 0 ∧ σ.s 4 = .ptr [5, 0] 0 ∧ σ.m [3, 0] = some (.box [iv m.t, iv m.r, iv m.s, iv m.c, iv m.w, .sl [12, 0, 1] 5 0 0 none]) ∧ σ.m [4, 0] = some (.box [.list (ints L)]) ∧ σ.m [5, 0] = some (.box [iv 0, iv 0, iv 0, iv 0, iv 0, .nil]) ∧ σ.m [12, 0, 1] = some (.row [12, 0, 1, 0] 53 [])) ?_ ?_
  · refine wwp_cut (fun σ => σ.s 2 = .ptr [3, 0] 0 ∧ σ.s 3 = .ptr [4, 0] 0 ∧ σ.s 4 = .ptr [5, 0] 0 ∧ σ.m [3, 0] = some (.box [iv m.t, iv m.r, iv m.s, iv m.c, iv m.w, .sl [12, 0, 1] 5 0 0 none]) ∧ σ.m [4, 0] = some (.box [.list (ints L)]) ∧ σ.m [5, 0] = some (.box [iv 0, iv 0, iv 0, iv 0, iv 0, .nil]) ∧ σ.m [12, 0, 1] = some (.row [12, 0, 1, 0] 53 []) ∧ σ.s 15 = iv 0 ∧ σ.s 16 = iv 0) (by simp [h2, h3, h4, m3, m4, m5, m12]) ?_
    clear W h2 h3 h4 m3 m4 m5 m12 σ
    rintro σ ⟨h2, h3, h4, m3, m4, m5, m12, h15, h16⟩
    simp only [wwp_block]
    refine wwp_loop (fun σ' => σ' = σ) (fun _ => 0) rfl ?_
    rintro σ' W rfl
    simp [h2, h3, h4, m3, m4, m5, m12, h15, h16]
  clear W h2 h3 h4 m3 m4 m5 m12 σ
  rintro σ ⟨h2, h3, h4, m3, m4, m5, m12⟩
  by_cases h0 : L = []
  · subst h0
    simp [h2, h3, h4, m3, m4, m5, putAt, exch, Mv.cellsW]
    exact Out.aggRow (t := [12, 0, 1]) (g := [12, 0, 1, 0]) (es := []) (pre := [iv m.t, iv m.r, iv m.s, iv m.c, iv m.w]) rfl (by simp [m12]) (by simp)
  · have hl : 0 < L.length := List.length_pos_iff.2 h0
    have hz : (0 : Int) < (L.length : Int) := by omega
    simp [h2, h3, h4, m3, m4, m5, putAt, exch, Mv.cellsW, hl, hz, h0]
    exact Out.aggRow (t := [12, 0, 1]) (g := [12, 0, 1, 0]) (es := []) (pre := [iv m.t, iv m.r, iv m.s, iv m.c, iv 1]) rfl (by simp [m12]) (by simp)
theorem c41H (m : Mv) (L : List Int) : VCq Try.prog 41 [.agg (m.cellsW .mt), .list (ints L)] (.agg ((exch m L).cellsW (.sl [] 5 0 0 none))) (rowMem 53 []) :=
  wcontract_q (Γ := mkEnv [] [] [(24, S24H)]) (sound_mk (by simp) (by simp) (by simp [s24H])) mixed isH41 (by rw [nt41]; simp) (c41Hw S24H m L fun M => rfl)
theorem rep_agg_mt {w : World} {pr : Prot} {tk : Places} {v : Value} {m : Mv} {d : D} (h : Rep w pr tk v (.agg (m.cellsW d))) (hd : ∀ v, Rep w pr tk v d → Rep w (allPr w) noTok v .mt) : Rep w (allPr w) noTok v (.agg (m.cellsW .mt)) := by
  obtain ⟨cs, rfl, h1, h2, h3⟩ := rep_agg.1 h
  refine rep_agg.2 ⟨cs, rfl, h1, h2, fun i c x hc hx => ?_⟩
  match i, hx with
  | 0, hx => cases hx; exact rep_flat (h3 0 c _ hc rfl) rfl
  | 1, hx => cases hx; exact rep_flat (h3 1 c _ hc rfl) rfl
  | 2, hx => cases hx; exact rep_flat (h3 2 c _ hc rfl) rfl
  | 3, hx => cases hx; exact rep_flat (h3 3 c _ hc rfl) rfl
  | 4, hx => cases hx; exact rep_flat (h3 4 c _ hc rfl) rfl
  | 5, hx => cases hx; exact hd _ (h3 5 c _ hc rfl)
  | _ + 6, hx => simp [Mv.cellsW] at hx
def S41H : FM := fun M ds => match ds with
  | [.agg [.v (.int .i64 a), .v (.int .i64 b), .v (.int .i64 c), .v (.int .i64 d), .v (.int .i64 e), .mt], .list es] => (asInts es).map fun L => (.agg ((exch ⟨a, b, c, d, e, []⟩ L).cellsW (.sl [1] 5 0 0 none)), oneM M (rowMem 53 []))
  | _ => none
theorem s41H : OkM 41 S41H := fun m ds d m' h => by
  unfold S41H at h
  split at h
  · rename_i es
    obtain ⟨L, hL, h⟩ := Option.map_eq_some_iff.1 h
    cases h
    rw [asInts_eq hL]
    exact VCm.ofq (c41H ⟨_, _, _, _, _, []⟩ L) fun w pr tk vs hpr hM hr => by
      match vs, hr with
      | [v1, v2], hr => exact ⟨rep_agg_mt (m := ⟨_, _, _, _, _, []⟩) hr.1 fun v h => rep_mt h, viewA_sound (d := .list (ints L)) hM hpr rfl hr.2.1, trivial⟩
  · cases h
theorem c17Hw (p27 p39 : FP) (m41 : FM) (m : Mv) (L : List Int) (h27 : p27 [.agg [iv m.t, iv m.r, iv m.s, iv m.c, iv m.w, .list []]] = some (bv true)) (h39 : p39 [.agg [iv m.t, iv m.r, iv m.s, iv m.c, iv m.w, .list []], .list (ints L)] = some (bv true))
    (h41 : ∀ M, m41 M [.agg [iv m.t, iv m.r, iv m.s, iv m.c, iv m.w, .mt], .list (ints L)] = some (.agg ((exch m L).cellsW (.sl [1] 5 0 0 none)), oneM M (rowMem 53 []))) :
    wwp (mkEnv [(27, p27), (39, p39)] [] [(41, m41)]) WH17.1 (fun e s => okExit e ∧ ∃ d0, resV WH17.2 s = some d0 ∧ Out s d0 (.tup [.agg ((exch m L).cellsW (.sl [] 5 0 0 none)), iv 0]) (rowMem 53 [])) (initV [.agg (m.cellsW .mt), .list (ints L)]) := by
  simp only [WH17]
  refine wwp_cutW (wf_init _) (fun σ => σ.s 1 = .list (ints L) ∧ σ.s 2 = .ptr [3, 0] 0 ∧ σ.s 4 = .ptr [5, 0] 0 ∧ σ.m [3, 0] = some (.box [iv m.t, iv m.r, iv m.s, iv m.c, iv m.w, .mt]) ∧ σ.m [5, 0] = some (.box [iv 0, iv 0, iv 0, iv 0, iv 0, .nil]) ∧ σ.c 17 = 0) (by simp [Mv.cellsW]) ?_
  rintro σ W ⟨h1, h2, h4, m3, m5, c17⟩
  refine wwp_condW W (fun σ => σ.s 1 = .list (ints L) ∧ σ.s 2 = .ptr [3, 0] 0 ∧ σ.s 4 = .ptr [5, 0] 0 ∧ σ.m [3, 0] = some (.box [iv m.t, iv m.r, iv m.s, iv m.c, iv m.w, .mt]) ∧ σ.m [5, 0] = some (.box [iv 0, iv 0, iv 0, iv 0, iv 0, .nil]) ∧ σ.c 17 = 0) (by simp [h1, h2, h4, m3, m5, c17, h27]) ?_
  clear W h1 h2 h4 m3 m5 c17 σ
  rintro σ W ⟨h1, h2, h4, m3, m5, c17⟩
  refine wwp_condW W (fun σ => σ.s 1 = .list (ints L) ∧ σ.s 2 = .ptr [3, 0] 0 ∧ σ.s 4 = .ptr [5, 0] 0 ∧ σ.m [3, 0] = some (.box [iv m.t, iv m.r, iv m.s, iv m.c, iv m.w, .mt]) ∧ σ.m [5, 0] = some (.box [iv 0, iv 0, iv 0, iv 0, iv 0, .nil]) ∧ σ.c 17 = 0) (by simp [h1, h2, h4, m3, m5, c17, h39]) ?_
  clear W h1 h2 h4 m3 m5 c17 σ
  rintro σ W ⟨h1, h2, h4, m3, m5, c17⟩
  refine wwp_cutN 1 W (fun σ => σ.s 15 = .agg [iv m.t, iv m.r, iv m.s, iv m.c, iv m.w, .mt] ∧ σ.s 16 = .list (ints L) ∧ σ.s 4 = .ptr [5, 0] 0 ∧ σ.m [5, 0] = some (.box [iv 0, iv 0, iv 0, iv 0, iv 0, .nil]) ∧ σ.c 17 = 0) (by simp [h1, h2, h4, m3, m5, c17]) ?_
  clear W h1 h2 h4 m3 m5 c17 σ
  rintro σ W ⟨h15, h16, h4, m5, c17⟩
  simp only [List.drop_succ_cons, List.drop_zero]
  have e41 := h41 σ.m
  refine wwp_cutN 1 W (fun σ => σ.s 17 = .agg ((exch m L).cellsW (.sl [18, 0, 1] 5 0 0 none)) ∧ σ.s 4 = .ptr [5, 0] 0 ∧ σ.m [5, 0] = some (.box [iv 0, iv 0, iv 0, iv 0, iv 0, .nil]) ∧ σ.m [18, 0, 1] = some (.row [18, 0, 1, 0] 53 [])) ?_ ?_
  · have k5 := adoptM_gen W m5 17 (.agg ((exch m L).cellsW (.sl [1] 5 0 0 none))) (m' := oneM σ.m (rowMem 53 [])) (by simp only [oneM, m5]; rfl)
    have k6 := adoptM_new (σ := σ) (x := 17) (d := .agg ((exch m L).cellsW (.sl [1] 5 0 0 none))) (m' := oneM σ.m (rowMem 53 [])) (b := 0) (r := [])
    rw [c17] at k6
    simp [h15, h16, h4, e41, c17]
    exact ⟨by simp [dnTok, Mv.cellsW], by rw [k5]; rfl, by rw [show ([18, 0, 1] : Tok) = (17 + 1) :: 0 :: (0 + 1) :: [] from rfl, k6]; rfl⟩
  clear W h15 h16 h4 m5 c17 e41 σ
  rintro σ W ⟨h17, h4, m5, m18⟩
  simp only [Mv.cellsW] at h17
  simp only [List.drop_succ_cons, List.drop_zero]
  simp [h17, h4, m5, putAt, Mv.cellsW]
  exact Out.tup (Out.aggRow (t := [18, 0, 1]) (g := [18, 0, 1, 0]) (es := []) (pre := [iv (exch m L).t, iv (exch m L).r, iv (exch m L).s, iv (exch m L).c, iv (exch m L).w]) rfl (by simp [m18]) (by simp)) _
theorem c17H (m : Mv) (L : List Int) (hr : m.rows = []) (hf : fitB m = true) (hk : listOK m.r (-1) L = true) (hL : L.length ≤ 1000000) : VCq Try.prog 17 [.agg (m.cellsW .mt), .list (ints L)] (.tup [.agg ((exch m L).cellsW (.sl [] 5 0 0 none)), iv 0]) (rowMem 53 []) := by
  obtain ⟨mt, mr, ms, mc, mw, rows⟩ := m
  simp only at hr
  subst hr
  refine wcontract_q (Γ := mkEnv [(27, S27), (39, S39)] [] [(41, S41H)]) (sound_mk (by simp [s27, s39]) (by simp) (by simp [s41H])) mixed isH17 (by rw [nt17]; simp) (c17Hw S27 S39 S41H _ L ?_ ?_ fun M => ?_)
  · simp [S27, hf]
  · simp [S39, hL, hk]
  · simp [S41H]
end Go.Proofs.Ytpmgaaalfdjikaa
namespace Go.Proofs.Ytpmgaaalfdjikaa
open Go.RowKit
set_option linter.unusedSimpArgs false
set_option linter.unusedVariables false

def W44 : WC × List VRes := ((.seq (.reg [(.stm (.eff (.box 2 (.t 0)) none)), (.set [(4, (.c .nil)), (5, (.c (.v (.int .i64 0))))] [4, 5])]) (.seq (.seq (.reg [(.set [(10, (.ap .inot [(.ap (.call 49) [(.ap (.load 6 true) [(.t 2)])])]))] [8, 9, 10])]) (.cond (.t 10) (.seq (.reg [(.set [(4, (.c .nil)), (5, (.c (.v (.int .i64 290))))] [4, 5])]) .ret) .skip)) (.seq (.seq (.reg [(.set [(18, (.ite (.ap (.ibin .lss) [(.t 1), (.c (.v (.int .i64 0)))]) (.c (.v (.bool true))) (.ap (.ibin .gtr) [(.t 1), (.ap (.load 1 false) [(.ap (.fld 1) [(.t 2)])])])))] [11, 12, 13, 14, 15, 16, 17, 18])]) (.cond (.t 18) (.seq (.reg [(.set [(4, (.c .nil)), (5, (.c (.v (.int .i64 2))))] [4, 5])]) .ret) .skip)) (.seq (.reg [(.set [(6, (.c .nil))] [6])]) (.seq (.seq (.reg [(.set [(7, (.c (.v (.int .i64 0))))] [7])]) (.block 0 (.loop (.seq (.seq (.reg [(.set [(22, (.ap (.ibin .lss) [(.t 7), (.ap (.load 1 false) [(.ap (.fld 1) [(.t 2)])])]))] [19, 20, 21, 22])]) (.cond (.t 22) .skip (.exit 0))) (.seq (.block 1 (.seq (.reg [(.set [(30, (.ap (.ibin .geq) [(.t 7), (.ap (.ibin .sub) [(.ap (.load 1 false) [(.ap (.fld 1) [(.t 2)])]), (.t 1)])]))] [25, 26, 27, 28, 29, 30])]) (.cond (.t 30) (.reg [(.set [(31, (.t 6)), (32, (.t 7))] [31, 32]), (.stm (.eff (.lit 33 3 1 1 [(.v (.int .i64 0))] [(0, 1)] [(.t 32)]) none)), (.stm (.eff (.app 34 3 1 (.t 31) (.t 33)) none)), (.set [(6, (.t 34))] [6])]) .skip))) (.reg [(.set [(7, (.ap (.ibin .add) [(.t 7), (.c (.v (.int .i64 1)))]))] [23, 24, 7])])))))) (.seq (.reg [(.set [(4, (.t 6)), (5, (.c (.v (.int .i64 0))))] [35, 4, 5])]) .ret)))))), [(.t 4), (.t 5)])
theorem is44 : IsFn Try.prog frOf 44 Try.f44 W44 := ⟨by kernel_rfl, by kernel_rfl, by kernel_rfl⟩
theorem nt44 : Try.f44.ntmps = 36 := by kernel_rfl
def W45 : WC × List VRes := ((.seq (.reg [(.stm (.eff (.box 3 (.t 0)) none)), (.set [(6, (.c (.v (.int .i64 0)))), (7, (.c (.v (.int .i64 0))))] [6, 7])]) (.seq (.seq (.reg [(.set [(11, (.ap .inot [(.ap (.call 49) [(.ap (.load 6 true) [(.t 3)])])]))] [9, 10, 11])]) (.cond (.t 11) (.seq (.reg [(.set [(6, (.c (.v (.int .i64 0)))), (7, (.c (.v (.int .i64 290))))] [6, 7])]) .ret) .skip)) (.seq (.reg [(.set [(8, (.ap (.call 65) [(.ap (.load 6 true) [(.t 3)])]))] [12, 13, 8])]) (.seq (.seq (.reg [(.set [(34, (.ite (.ite (.ite (.ite (.ap (.ibin .lss) [(.t 1), (.c (.v (.int .i64 1)))]) (.c (.v (.bool true))) (.ap (.ibin .lss) [(.t 2), (.c (.v (.int .i64 1)))])) (.c (.v (.bool true))) (.ap (.ibin .gtr) [(.t 1), (.t 8)])) (.c (.v (.bool true))) (.ap (.ibin .gtr) [(.t 2), (.t 8)])) (.c (.v (.bool true))) (.ap (.ibin .eql) [(.t 1), (.t 2)])))] [14, 15, 16, 17, 18, 19, 20, 21, 22, 23, 24, 25, 26, 27, 28, 29, 30, 31, 32, 33, 34])]) (.cond (.t 34) (.seq (.reg [(.set [(6, (.c (.v (.int .i64 0)))), (7, (.c (.v (.int .i64 2))))] [6, 7])]) .ret) .skip)) (.seq (.reg [(.set [(6, (.ap (.call 66) [(.ap (.load 6 true) [(.t 3)]), (.t 1), (.t 2)])), (7, (.c (.v (.int .i64 0))))] [35, 36, 37, 38, 6, 7])]) .ret))))), [(.t 6), (.t 7)])
theorem is45 : IsFn Try.prog frOf 45 Try.f45 W45 := ⟨by kernel_rfl, by kernel_rfl, by kernel_rfl⟩
theorem nt45 : Try.f45.ntmps = 39 := by kernel_rfl
theorem c45 (m : Mv) (p q : Int) (hl : m.rows.length ≤ 60) : VCp Try.prog 45 [.agg m.cells, iv p, iv q] (.tup [iv (contestR m p q).1, iv (contestR m p q).2]) := by
  have h49 := S49_at m (by omega)
  have h65 := S65_at m (by omega)
  have h66 := S66_at m p q hl
  simp only [Mv.cells, Mv.cellsW] at h49 h65 h66
  refine wcontract_p (Γ := mkEnv [(49, S49), (65, S65), (66, S66)] [] []) (sound_mk (by simp [s49, s65, s66]) (by simp) (by simp)) mixed is45 (by rw [nt45]; simp) ?_ rfl
  cases hf : fitB m with
  | false =>
    rw [hf] at h49
    simp [W45, Mv.cells, Mv.cellsW, h49, contestR, hf]
  | true =>
    rw [hf] at h49
    have hg := great_bounds (fit_pairs hf)
    by_cases hb : p < 1 ∨ great m.rows < p ∨ q < 1 ∨ great m.rows < q ∨ p = q
    · have hB : (decide (p < 1) || decide (q < 1) || decide (great m.rows < p) || decide (great m.rows < q) || p == q) = true := by
        simp only [Bool.or_eq_true, decide_eq_true_eq, beq_iff_eq]; omega
      have hB' : (((((p < 1 ∨ q < 1) ∨ great m.rows < p) ∨ great m.rows < q) ∨ p = q)) := by omega
      simp [W45, Mv.cells, Mv.cellsW, h49, h65, contestR, hf, hb, hB]
    · have hB : (decide (p < 1) || decide (q < 1) || decide (great m.rows < p) || decide (great m.rows < q) || p == q) = false := by
        simp only [Bool.or_eq_false_iff, decide_eq_false_iff_not, beq_eq_false_iff_ne]; omega
      obtain ⟨a, rfl⟩ : ∃ a : Nat, p = a := ⟨p.toNat, by omega⟩
      obtain ⟨b, rfl⟩ : ∃ b : Nat, q = b := ⟨q.toNat, by omega⟩
      have e : outS m.rows a b m.rows.length = conT m (a * 50 + b) := by
        rw [out_cont hf (by omega) (by omega) (by omega), conT_eq hl]
      rw [e] at h66
      simp [W45, Mv.cells, Mv.cellsW, h49, h65, h66, contestR, hf, hb, hB]
def S45 : List D → Option D
  | [.agg xs, .v (.int .i64 p), .v (.int .i64 q)] => (asMv xs).bind fun m => if m.rows.length ≤ 60 then some (.tup [iv (contestR m p q).1, iv (contestR m p q).2]) else none
  | _ => none
theorem s45 : OkP 45 S45 := fun ds d h => by
  unfold S45 at h
  split at h
  · rw [Option.bind_eq_some_iff] at h
    obtain ⟨m, hm, h⟩ := h
    split at h <;> cases h
    rw [asMv_eq hm]
    exact c45 m _ _ (by assumption)
  · cases h
theorem S45_at (m : Mv) (p q : Int) (h : m.rows.length ≤ 60) : S45 [.agg m.cells, iv p, iv q] = some (.tup [iv (contestR m p q).1, iv (contestR m p q).2]) := by
  simp only [S45, Mv.cells, Mv.cellsW, asMv_cells, Option.bind_some]
  rw [if_pos h]
theorem c44 (m : Mv) (n : Int) (hl : m.rows.length ≤ 1000000) : VCq Try.prog 44 [.agg m.cells, iv n] (lastR m n).1 (lastR m n).2 := by
  have h49 := S49_at m hl
  simp only [Mv.cells, Mv.cellsW] at h49
  refine wcontract_q (Γ := mkEnv [(49, S49)] [] []) (sound_mk (by simp [s49]) (by simp) (by simp)) mixed is44 (by rw [nt44]; simp) ?_
  cases hf : fitB m with
  | false =>
    rw [hf] at h49
    simp [W44, Mv.cells, Mv.cellsW, h49, lastR, lastE, hf]
    exact Out.flat rfl rfl
  | true =>
    rw [hf] at h49
    obtain ⟨b1, b2, b3, b4, b5⟩ := ((fitB_iff m).1 hf).1
    simp only [W44]
    refine wwp_cutW (wf_init _) (fun σ => σ.s 1 = iv n ∧ σ.s 2 = .ptr [3, 0] 0 ∧ σ.m [3, 0] = some (.box [iv m.t, iv m.r, iv m.s, iv m.c, iv m.w, .list (rowsL m.rows)])) (by simp [Mv.cells, Mv.cellsW]) ?_
    rintro σ W ⟨h1, h2, m3⟩
    refine wwp_condW W (fun σ => σ.s 1 = iv n ∧ σ.s 2 = .ptr [3, 0] 0 ∧ σ.m [3, 0] = some (.box [iv m.t, iv m.r, iv m.s, iv m.c, iv m.w, .list (rowsL m.rows)])) (by simp [h1, h2, m3, h49]) ?_
    clear W h1 h2 m3 σ
    rintro σ W ⟨h1, h2, m3⟩
    by_cases hk : n < 0 ∨ m.r < n
    · have hB : (decide (n < 0) || decide (m.r < n)) = true := by
        simp only [Bool.or_eq_true, decide_eq_true_eq]; omega
      simp [h1, h2, m3, hB, lastR, lastE, hf, hk]
      exact Out.flat rfl rfl
    · have hB : (decide (n < 0) || decide (m.r < n)) = false := by
        simp only [Bool.or_eq_false_iff, decide_eq_false_iff_not]; omega
      refine wwp_condW W (fun σ => σ.s 1 = iv n ∧ σ.s 2 = .ptr [3, 0] 0 ∧ σ.m [3, 0] = some (.box [iv m.t, iv m.r, iv m.s, iv m.c, iv m.w, .list (rowsL m.rows)])) (by simp [h1, h2, m3, hB]) ?_
      clear W h1 h2 m3 σ
      rintro σ W ⟨h1, h2, m3⟩
      obtain ⟨N, rfl⟩ : ∃ N : Nat, n = N := ⟨n.toNat, by omega⟩
      obtain ⟨R, hR⟩ : ∃ R : Nat, m.r = R := ⟨m.r.toNat, by omega⟩
      have hw0 : IntKind.i64.wrap ((R : Int) - N) = (R : Int) - N := wrap_in (by omega) (by omega)
      refine wwp_cutW W (fun σ => σ.s 1 = iv N ∧ σ.s 2 = .ptr [3, 0] 0 ∧ σ.m [3, 0] = some (.box [iv m.t, iv m.r, iv m.s, iv m.c, iv m.w, .list (rowsL m.rows)]) ∧ σ.s 6 = .nil) (by simp [h1, h2, m3]) ?_
      clear W h1 h2 m3 σ
      rintro σ W ⟨h1, h2, m3, h6⟩
      refine wwp_cutG (fun σ => (N = 0 ∧ σ.s 6 = .nil) ∨ (0 < N ∧ ∃ t, σ.s 6 = .sl t 1 0 N none ∧ ∃ g, σ.m t = some (.row g 3 (ints (lastF m.r N N))))) ?_ ?_
      · refine wwp_cut (fun σ => σ.s 1 = iv N ∧ σ.s 2 = .ptr [3, 0] 0 ∧ σ.m [3, 0] = some (.box [iv m.t, iv m.r, iv m.s, iv m.c, iv m.w, .list (rowsL m.rows)]) ∧ σ.s 6 = .nil ∧ σ.s 7 = iv 0) (by simp [h1, h2, m3, h6]) ?_
        clear W h1 h2 m3 h6 σ
        rintro σ ⟨h1, h2, m3, h6, h7⟩
        simp only [wwp_block]
        refine wwp_loop (fun σ => ∃ k : Nat, k ≤ R ∧ σ.s 1 = iv N ∧ σ.s 2 = .ptr [3, 0] 0 ∧ σ.m [3, 0] = some (.box [iv m.t, iv m.r, iv m.s, iv m.c, iv m.w, .list (rowsL m.rows)]) ∧
          ((k ≤ R - N ∧ σ.s 6 = .nil) ∨ (R - N < k ∧ ∃ t, σ.s 6 = .sl t 1 0 (k - (R - N)) none ∧ ∃ g, σ.m t = some (.row g 3 (ints (lastF m.r N (k - (R - N))))))) ∧ σ.s 7 = iv k) (fun σ => cnt R (σ.s 7)) ?_ ?_
        · exact ⟨0, by omega, h1, h2, m3, .inl ⟨by omega, h6⟩, h7⟩
        clear h1 h2 m3 h6 h7 σ
        rintro σ W ⟨k, hkR, h1, h2, m3, h6, h7⟩
        refine wwp_seq_assoc ?_
        by_cases hlt : k < R
        · have hw1 := wrap_succ (show k ≤ 1000000000 by omega)
          have hmu : cnt R (σ.s 7) = R - k := by simp [h7]
          simp only [hmu]
          clear hmu
          have hz : (k : Int) < R := by omega
          refine wwp_on (fun σ => WF σ ∧ σ.s 1 = iv N ∧ σ.s 2 = .ptr [3, 0] 0 ∧ σ.m [3, 0] = some (.box [iv m.t, iv m.r, iv m.s, iv m.c, iv m.w, .list (rowsL m.rows)]) ∧
            ((k ≤ R - N ∧ σ.s 6 = .nil) ∨ (R - N < k ∧ ∃ t, σ.s 6 = .sl t 1 0 (k - (R - N)) none ∧ ∃ g, σ.m t = some (.row g 3 (ints (lastF m.r N (k - (R - N))))))) ∧ σ.s 7 = iv k) (by simp [h1, h2, m3, h7, hR, hz, hlt]; exact ⟨W.of rfl rfl, by rw [hR] at h6; exact h6⟩) ?_
          clear W h1 h2 m3 h6 h7 σ
          rintro σ ⟨W, h1, h2, m3, h6, h7⟩
          refine wwp_body (fun σ => σ.s 1 = iv N ∧ σ.s 2 = .ptr [3, 0] 0 ∧ σ.m [3, 0] = some (.box [iv m.t, iv m.r, iv m.s, iv m.c, iv m.w, .list (rowsL m.rows)]) ∧
            ((k + 1 ≤ R - N ∧ σ.s 6 = .nil) ∨ (R - N < k + 1 ∧ ∃ t, σ.s 6 = .sl t 1 0 (k + 1 - (R - N)) none ∧ ∃ g, σ.m t = some (.row g 3 (ints (lastF m.r N (k + 1 - (R - N))))))) ∧ σ.s 7 = iv k) ?_ ?_
          · by_cases hge : R - N ≤ k
            · have hzg : (R : Int) - N ≤ k := by omega
              have ek : k + 1 - (R - N) = k - (R - N) + 1 := by omega
              have nk : ¬ k + 1 ≤ R - N := by omega
              have yk : R - N < k + 1 := by omega
              obtain ⟨c, hc⟩ : ∃ c, c = k - (R - N) := ⟨_, rfl⟩
              rw [← hc] at h6 ek
              rw [ek]
              have hx : m.r - (N : Int) + (c : Int) = k := by omega
              have hlf : lastF m.r N (c + 1) = lastF m.r N c ++ [(k : Int)] := by rw [lastF_succ, hx]
              rw [hlf, ints_append]
              rcases h6 with ⟨hk6, h6⟩ | ⟨hk6, t, h6, g, mt⟩
              · have hc0 : c = 0 := by omega
                rw [hc0]
                simp [h1, h2, m3, h6, h7, hR, hw0, hzg, one_made, nk, yk]
                simp [lastF, ints]
              · have n1 := W.ne mt 33 (σ.c 33) []
                have hmx : c + 1 ≤ maxMade := by unfold maxMade; omega
                have hln : (ints (lastF m.r N c)).length = c := by rw [ints_len, lastF_len]
                obtain ⟨X, hX⟩ : ∃ X, X = ints (lastF m.r N c) := ⟨_, rfl⟩
                rw [← hX] at mt hln ⊢
                have htk : X.take c = X := List.take_of_length_le (by omega)
                simp [h1, h2, m3, h6, h7, mt, n1, hR, hw0, hzg, one_made, nk, yk, hmx, hln, htk]
                simp [ints]
            · have hzg : ¬ (R : Int) - N ≤ k := by omega
              rcases h6 with ⟨hk6, h6⟩ | ⟨hk6, _⟩
              · have nk : k + 1 ≤ R - N := by omega
                simp [h1, h2, m3, h6, h7, hR, hw0, hzg, nk]
              · omega
          · clear W h1 h2 m3 h6 h7 σ
            rintro σ ⟨h1, h2, m3, h6, h7⟩
            simp [h1, h2, m3, h7, hw1]
            exact ⟨⟨k + 1, by omega, h6, by simp⟩, by omega⟩
        · obtain rfl : k = R := by omega
          refine wwp_off ?_
          have e2 : N ≤ k := by omega
          have e1 : k - (k - N) = N := by omega
          rw [e1] at h6
          simp [h1, h2, m3, h7, hR]
          rw [hR] at h6
          rcases h6 with ⟨a, b⟩ | ⟨a, b⟩
          · exact .inl ⟨by omega, b⟩
          · exact .inr ⟨by omega, b⟩
      · clear W h1 h2 m3 h6 σ
        rintro σ h6
        rcases h6 with ⟨h0, h6⟩ | ⟨h0, t, h6, g, mt⟩
        · subst h0
          simp [h6, lastR, lastE, hf, hk, hR]
          exact Out.flat rfl rfl
        · have hk0 : ¬ N = 0 := by omega
          have hNr : (N : Int) ≤ m.r := by omega
          simp [h6, lastR, lastE, hf, hk, hk0, hNr]
          refine Out.tupSl (Out.row (g := g) (es := ints (lastL m.r N)) (by exact mt) (ints_flat _)) _
def S44 : List D → Option (D × Mem)
  | [.agg xs, .v (.int .i64 n)] => (asMv xs).bind fun m => if m.rows.length ≤ 1000000 then some (lastR m n) else none
  | _ => none
theorem s44 : OkQ 44 S44 := fun ds d mm h => by
  unfold S44 at h
  split at h
  · rename_i xs n
    rw [Option.bind_eq_some_iff] at h
    obtain ⟨m, hm, h⟩ := h
    split at h
    · rename_i hc
      rw [asMv_eq hm]
      have := c44 m n hc
      rw [Option.some.inj h] at this
      exact this
    · cases h
  · cases h
theorem S44_at (m : Mv) (n : Int) (h : m.rows.length ≤ 1000000) : S44 [.agg m.cells, iv n] = some (lastR m n) := by
  simp only [S44, Mv.cells, Mv.cellsW, asMv_cells, Option.bind_some]
  rw [if_pos h]
end Go.Proofs.Ytpmgaaalfdjikaa
namespace Go.Proofs.Ytpmgaaalfdjikaa
open Go.RowKit
set_option linter.unusedSimpArgs false
set_option linter.unusedVariables false

/-- Rows cut. -/
def cutM (cut : Tok → Option Nat) (M : Mem) : Mem := fun τ => match M τ, cut τ with
  | some (.row g e es), some n => some (.row g e (es.take n))
  | o, _ => o
theorem cutM_row {cut : Tok → Option Nat} {M : Mem} {t g : Tok} {e : Nat} {es : List (List D)} (h : cutM cut M t = some (.row g e es)) : ∃ es', M t = some (.row g e es') := by
  unfold cutM at h
  split at h
  · rename_i h1 h2
    cases h
    exact ⟨_, h1⟩
  · exact ⟨_, h⟩
theorem cutM_row' {cut : Tok → Option Nat} {M : Mem} {t g : Tok} {e : Nat} {es : List (List D)} (h : M t = some (.row g e es)) : ∃ es', cutM cut M t = some (.row g e es') := by
  unfold cutM
  rw [h]
  cases cut t with
  | none => exact ⟨_, rfl⟩
  | some n => exact ⟨_, rfl⟩
theorem cutM_none {cut : Tok → Option Nat} {M : Mem} {t : Tok} (h : cut t = none) : cutM cut M t = M t := by
  unfold cutM
  rw [h]
  split <;> simp_all
theorem cutM_some {cut : Tok → Option Nat} {M : Mem} {t g : Tok} {e n : Nat} {es : List (List D)} (h : M t = some (.row g e es)) (hc : cut t = some n) : cutM cut M t = some (.row g e (es.take n)) := by
  unfold cutM
  rw [h, hc]
theorem cutM_dom {cut : Tok → Option Nat} {M : Mem} {t : Tok} {o : HO} (h : cutM cut M t = some o) : ∃ o', M t = some o' ∧ o'.grp = o.grp := by
  unfold cutM at h
  split at h
  · rename_i h1 h2
    cases h
    exact ⟨_, h1, rfl⟩
  · exact ⟨_, h, rfl⟩
theorem cutM_dom' {cut : Tok → Option Nat} {M : Mem} {t : Tok} {o : HO} (h : M t = some o) : ∃ o', cutM cut M t = some o' := by
  unfold cutM
  split
  · exact ⟨_, rfl⟩
  · exact ⟨_, h⟩
theorem MemOK.cut {P : Program} {w : World} {pr : Prot} {tk : Places} {M : Mem} (h : MemOK P w pr tk M) (cut : Tok → Option Nat) : MemOK P w pr tk (cutM cut M) := by
  refine ⟨fun t o ho => ?_, fun t t' o o' b c c' ho ho' ht ht' => ?_⟩
  · unfold cutM at ho
    split at ho
    · rename_i g e es n h1 h2
      cases ho
      obtain ⟨b, cap, C, k1, k2, k3, k4, k5, k6, k7⟩ := h.obj t _ h1
      refine ⟨b, cap, C, k1, k2, by rw [List.length_take]; omega, k4, k5, fun c hc => k6 c (List.mem_of_mem_take hc), fun i c hc => k7 i c ?_⟩
      rw [List.getElem?_take] at hc
      split at hc
      · exact hc
      · cases hc
    · exact h.obj t o ho
  · obtain ⟨q, hq, e1⟩ := cutM_dom ho
    obtain ⟨q', hq', e2⟩ := cutM_dom ho'
    have := h.inj t t' q q' b c c' hq hq' ht ht'
    rw [e1, e2] at this
    exact this
theorem VCm.cut {P : Program} {f : Nat} {m m' : Mem} {ds : List D} {d : D} {cut : Tok → Option Nat} (h : VCm P f (cutM cut m) ds d m') : VCm P f m ds d m' := by
  have hb : ∀ tk, blocksOf tk (cutM cut m) = blocksOf tk m := fun tk => by
    funext b
    refine propext ⟨?_, ?_⟩
    · rintro ⟨t, o, c, h1, h2⟩
      obtain ⟨q, hq, _⟩ := cutM_dom h1
      exact ⟨t, q, c, hq, h2⟩
    · rintro ⟨t, o, c, h1, h2⟩
      obtain ⟨q, hq⟩ := cutM_dom' (cut := cut) h1
      exact ⟨t, q, c, hq, h2⟩
  refine ⟨h.1, fun w pr tk cargs hpr hprA M hargs => ?_⟩
  have := h.2 w pr tk cargs hpr (by rw [hb]; exact hprA) (M.cut cut) hargs
  rw [hb] at this
  exact this
theorem grpsOf_cut {cut : Tok → Option Nat} {M : Mem} {hs : List (List D)} (g : Tok) : grpsOf (cutM cut M) hs g ↔ grpsOf M hs g := by
  constructor
  · rintro ⟨t, s, len, h1, g', e, es, h2, rfl⟩
    obtain ⟨es', h3⟩ := cutM_row h2
    exact ⟨t, s, len, h1, g', e, es', h3, rfl⟩
  · rintro ⟨t, s, len, h1, g', e, es, h2, rfl⟩
    obtain ⟨es', h3⟩ := cutM_row' (cut := cut) h2
    exact ⟨t, s, len, h1, g', e, es', h3, rfl⟩
theorem FlR.dropCut {F : FlR} {C : Nat → List Row} (h : F.In C F.U) {M : Mem} {cut : Tok → Option Nat} (hM : F.U = cutM cut M) (hcut : ∀ τ n, cut τ = some n → ∃ j, j < F.K ∧ F.nl j = false ∧ τ = F.tk j) : dropM (grpsOf F.U F.hrow) (upM F.U) = dropM (grpsOf M F.hrow) (upM M) := by
  have hg : grpsOf F.U F.hrow = grpsOf M F.hrow := by rw [hM]; funext g; exact propext (grpsOf_cut g)
  rw [hg]
  funext τ
  match τ with
  | [] => rfl
  | (_ + 1) :: _ => rfl
  | 0 :: τ =>
    cases hc : cut τ with
    | none =>
      have : F.U τ = M τ := by
        rw [hM]
        unfold cutM
        rw [hc]
        split <;> simp_all
      simp only [dropM, upM_up, this]
    | some n =>
      obtain ⟨j, hj, hn, rfl⟩ := hcut τ n hc
      have h1 := (h j hj hn).1
      have h2 := h1
      rw [hM] at h2
      obtain ⟨es', h3⟩ := cutM_row h2
      have hP : grpsOf M F.hrow (0 :: F.gr j) := by rw [← hg]; exact (FlR.grps h _).2 ⟨j, hj, hn, rfl⟩
      simp only [dropM, upM_up, h1, h3, Option.map_some]
      rw [if_pos ⟨_, rfl, hP⟩, if_pos ⟨_, rfl, hP⟩]
open Classical in
noncomputable def S51 : FM := fun M ds => match ds with
  | [.sl t 1 0 n none] => match M t with
    | some (.row _ 22 hs) => if ∃ (F : FlR) (C : Nat → List Row) (cut : Tok → Option Nat), F.CK ∧ F.In C F.U ∧ F.U = cutM cut M ∧ (∀ τ n, cut τ = some n → ∃ j, j < F.K ∧ F.nl j = false ∧ τ = F.tk j) ∧ F.lt = t ∧ F.K = n ∧ 0 < n ∧ hs = F.hrow then some (bv true, dropM (grpsOf M hs) (upM M)) else none
    | _ => none
  | _ => none
theorem s51 : OkM 51 S51 := fun m ds d m' h => by
  unfold S51 at h
  split at h
  · split at h
    · split at h
      · rename_i hc
        cases h
        obtain ⟨F, C, cut, h1, h2, h3, h4, rfl, rfl, h5, rfl⟩ := hc
        rw [← FlR.dropCut h2 h3 h4]
        have := c51 F h1 C h2 h5
        exact VCm.cut (cut := cut) (h3 ▸ this)
      · cases h
    · cases h
  · cases h
theorem S51_at {M : Mem} {F : FlR} {C : Nat → List Row} {cut : Tok → Option Nat} (hc : F.CK) (h : F.In C F.U) (hM : F.U = cutM cut M) (hcut : ∀ τ n, cut τ = some n → ∃ j, j < F.K ∧ F.nl j = false ∧ τ = F.tk j) (h0 : 0 < F.K) (hl : M F.lt = some (.row F.lg 22 F.hrow)) :
    S51 M [.sl F.lt 1 0 F.K none] = some (bv true, dropM (grpsOf M F.hrow) (upM M)) := by
  simp only [S51, hl]
  exact if_pos ⟨F, C, cut, hc, h, hM, hcut, rfl, rfl, h0, rfl⟩
theorem FlI.dropCut {F : FlI} {C : Nat → List Int} (h : F.In C F.U) {M : Mem} {cut : Tok → Option Nat} (hM : F.U = cutM cut M) (hcut : ∀ τ n, cut τ = some n → ∃ j, j < F.K ∧ F.nl j = false ∧ τ = F.tk j) : dropM (grpsOf F.U F.hrow) (upM F.U) = dropM (grpsOf M F.hrow) (upM M) := by
  have hg : grpsOf F.U F.hrow = grpsOf M F.hrow := by rw [hM]; funext g; exact propext (grpsOf_cut g)
  rw [hg]
  funext τ
  match τ with
  | [] => rfl
  | (_ + 1) :: _ => rfl
  | 0 :: τ =>
    cases hc : cut τ with
    | none =>
      have : F.U τ = M τ := by
        rw [hM]
        unfold cutM
        rw [hc]
        split <;> simp_all
      simp only [dropM, upM_up, this]
    | some n =>
      obtain ⟨j, hj, hn, rfl⟩ := hcut τ n hc
      have h1 := (h j hj hn).1
      have h2 := h1
      rw [hM] at h2
      obtain ⟨es', h3⟩ := cutM_row h2
      have hP : grpsOf M F.hrow (0 :: F.gr j) := by rw [← hg]; exact (FlI.grps h _).2 ⟨j, hj, hn, rfl⟩
      simp only [dropM, upM_up, h1, h3, Option.map_some]
      rw [if_pos ⟨_, rfl, hP⟩, if_pos ⟨_, rfl, hP⟩]
open Classical in
noncomputable def S52 : FM := fun M ds => match ds with
  | [.sl t 1 0 n none] => match M t with
    | some (.row _ 34 hs) => if ∃ (F : FlI) (C : Nat → List Int) (cut : Tok → Option Nat), F.CK ∧ F.In C F.U ∧ F.U = cutM cut M ∧ (∀ τ n, cut τ = some n → ∃ j, j < F.K ∧ F.nl j = false ∧ τ = F.tk j) ∧ F.lt = t ∧ F.K = n ∧ 0 < n ∧ hs = F.hrow then some (bv true, dropM (grpsOf M hs) (upM M)) else none
    | _ => none
  | _ => none
theorem s52 : OkM 52 S52 := fun m ds d m' h => by
  unfold S52 at h
  split at h
  · split at h
    · split at h
      · rename_i hc
        cases h
        obtain ⟨F, C, cut, h1, h2, h3, h4, rfl, rfl, h5, rfl⟩ := hc
        rw [← FlI.dropCut h2 h3 h4]
        have := c52 F h1 C h2 h5
        exact VCm.cut (cut := cut) (h3 ▸ this)
      · cases h
    · cases h
  · cases h
theorem S52_at {M : Mem} {F : FlI} {C : Nat → List Int} {cut : Tok → Option Nat} (hc : F.CK) (h : F.In C F.U) (hM : F.U = cutM cut M) (hcut : ∀ τ n, cut τ = some n → ∃ j, j < F.K ∧ F.nl j = false ∧ τ = F.tk j) (h0 : 0 < F.K) (hl : M F.lt = some (.row F.lg 34 F.hrow)) :
    S52 M [.sl F.lt 1 0 F.K none] = some (bv true, dropM (grpsOf M F.hrow) (upM M)) := by
  simp only [S52, hl]
  exact if_pos ⟨F, C, cut, hc, h, hM, hcut, rfl, rfl, h0, rfl⟩
end Go.Proofs.Ytpmgaaalfdjikaa
namespace Go.Proofs.Ytpmgaaalfdjikaa
open Go.RowKit
set_option linter.unusedSimpArgs false
set_option linter.unusedVariables false


def HdR (h : D) (R : List Row) (a : Nat) (M : Mem) : Prop := (h = .nil ∧ R = []) ∨ ∃ r g, h = .sl (a :: 0 :: r) 5 0 R.length none ∧ M (a :: 0 :: r) = some (.row (a :: 0 :: g) 53 (rowsL R))
def HdI (h : D) (R : List Int) (a : Nat) (M : Mem) : Prop := (h = .nil ∧ R = []) ∨ ∃ r g, h = .sl (a :: 0 :: r) 1 0 R.length none ∧ M (a :: 0 :: r) = some (.row (a :: 0 :: g) 3 (ints R))
def tkT (a j : Nat) : Tok := [a, 0, j + 1]
def grT (a j : Nat) : Tok := [a, 0, 0, j]
def HdT (h : D) (Ls : List (List Int)) (a : Nat) (M : Mem) : Prop := (h = .nil ∧ Ls = []) ∨ (0 < Ls.length ∧ h = .sl [a, 0] 1 0 Ls.length none ∧ M [a, 0] = some (.row [a, 0, 0] 34 (hdsF (tkT a) 0 Ls)) ∧ LsF (tkT a) (grT a) M 0 Ls)
def BxR (aM : Mv) (b a : Nat) (M : Mem) : Prop := ∃ hA, M [b, 0] = some (.box (aM.cellsW hA)) ∧ HdR hA aM.rows a M
theorem HdR.mono {h : D} {R : List Row} {a : Nat} {M M' : Mem} (hh : HdR h R a M) (hM : ∀ r o, M (a :: 0 :: r) = some o → M' (a :: 0 :: r) = some o) : HdR h R a M' := by
  rcases hh with h | ⟨r, g, h1, h2⟩
  · exact .inl h
  · exact .inr ⟨r, g, h1, hM _ _ h2⟩
theorem HdI.mono {h : D} {R : List Int} {a : Nat} {M M' : Mem} (hh : HdI h R a M) (hM : ∀ r o, M (a :: 0 :: r) = some o → M' (a :: 0 :: r) = some o) : HdI h R a M' := by
  rcases hh with h | ⟨r, g, h1, h2⟩
  · exact .inl h
  · exact .inr ⟨r, g, h1, hM _ _ h2⟩
theorem HdT.mono {h : D} {Ls : List (List Int)} {a : Nat} {M M' : Mem} (hh : HdT h Ls a M) (hM : ∀ r o, M (a :: 0 :: r) = some o → M' (a :: 0 :: r) = some o) : HdT h Ls a M' := by
  rcases hh with h | ⟨h0, h1, h2, h3⟩
  · exact .inl h
  · exact .inr ⟨h0, h1, hM [] _ h2, fun i L hi hL => hM _ _ (h3 i L hi hL)⟩
theorem BxR.mono {aM : Mv} {b a : Nat} {M M' : Mem} (hh : BxR aM b a M) (hb : ∀ o, M [b, 0] = some o → M' [b, 0] = some o) (hM : ∀ r o, M (a :: 0 :: r) = some o → M' (a :: 0 :: r) = some o) : BxR aM b a M' := by
  obtain ⟨hA, h1, h2⟩ := hh
  exact ⟨hA, hb _ h1, h2.mono hM⟩
theorem HdR.view {h : D} {R : List Row} {a : Nat} {M : Mem} (hh : HdR h R a M) (n : Nat) : viewC M (n + 1) h = some (.list (rowsL R)) := by
  rcases hh with ⟨rfl, rfl⟩ | ⟨r, g, rfl, h2⟩
  · rfl
  · simp [h2]
theorem HdI.view {h : D} {R : List Int} {a : Nat} {M : Mem} (hh : HdI h R a M) : viewA M h = some (.list (ints R)) := by
  rcases hh with ⟨rfl, rfl⟩ | ⟨r, g, rfl, h2⟩
  · rfl
  · simp [h2]
theorem HdT.view {h : D} {Ls : List (List Int)} {a : Nat} {M : Mem} (hh : HdT h Ls a M) : viewA M h = some (.list (lists Ls)) := by
  rcases hh with ⟨rfl, rfl⟩ | ⟨h0, rfl, h2, h3⟩
  · rfl
  · have hl := hdsF_len (tkT a) Ls 0
    have ht : (hdsF (tkT a) 0 Ls).take Ls.length = hdsF (tkT a) 0 Ls := List.take_of_length_le (by omega)
    have hv := view_listsF (n := 4) h3
    simp [h2, hl, ht, hv]
/-- What tells has from the beginning. -/
structure TB (m : Mv) (L : List Int) (n p q : Int) (E : List Row) (Mk : List Int) (σ : St) : Prop where
  s1 : σ.s 1 = .list (ints L)
  s2 : σ.s 2 = iv n
  s3 : σ.s 3 = iv p
  s4 : σ.s 4 = iv q
  s5 : σ.s 5 = .ptr [6, 0] 0
  m6 : σ.m [6, 0] = some (.box [iv m.t, iv m.r, iv m.s, iv m.c, iv m.w, .list (rowsL m.rows)])
  s11 : σ.s 11 = .ptr [12, 0] 0
  m12 : σ.m [12, 0] = some (.box [iv m.t, iv m.r, iv m.s, iv m.c, iv m.w, .sl [40, 0] 5 0 m.rows.length none])
  s12 : σ.s 12 = .sl [42, 0] 1 0 L.length none
  m40 : σ.m [40, 0] = some (.row [40, 0, 0] 53 (rowsL (m.rows ++ E)))
  m42 : σ.m [42, 0] = some (.row [42, 0, 0] 3 (ints (L ++ Mk)))
/-- .. and behind Turn. -/
structure T3 (m : Mv) (L : List Int) (n p q : Int) (E : List Row) (Mk : List Int) (aM : Mv) (eT : Int) (σ : St) : Prop where
  b : TB m L n p q E Mk σ
  s13 : σ.s 13 = .ptr [14, 0] 0
  a : BxR aM 14 46 σ.m
  s14 : σ.s 14 = iv eT
  c : σ.c 15 = 0 ∧ σ.c 51 = 0 ∧ σ.c 57 = 0 ∧ σ.c 63 = 0 ∧ σ.c 82 = 0 ∧ σ.c 87 = 0 ∧ σ.c 172 = 0 ∧ σ.c 178 = 0 ∧ σ.c 179 = 0
def PreR (h : D) (R : List Row) (M : Mem) : Prop := (h = .nil ∧ M = noMem ∧ R = []) ∨ (h = .sl [] 5 0 R.length none ∧ M = rowMem 53 (rowsL R))
def PreI (h : D) (R : List Int) (M : Mem) : Prop := (h = .nil ∧ M = noMem ∧ R = []) ∨ (h = .sl [] 1 0 R.length none ∧ M = rowMem 3 (ints R))
def PreT (h : D) (Ls : List (List Int)) (M : Mem) : Prop := (h = .nil ∧ M = noMem ∧ Ls = []) ∨ (0 < Ls.length ∧ h = .sl [] 1 0 Ls.length none ∧ M = tableMem Ls)
theorem HdR.keep {h : D} {R : List Row} {a : Nat} {σ : St} (W : WF σ) (hh : HdR h R a σ.m) (x : Nat) (d : D) : HdR h R a (σ.adoptM x d (upM σ.m)).m := by
  rcases hh with h | ⟨r, g, h1, h2⟩
  · exact .inl h
  · exact .inr ⟨r, g, h1, by rw [adoptM_keep W h2]; simp⟩
theorem HdI.keep {h : D} {R : List Int} {a : Nat} {σ : St} (W : WF σ) (hh : HdI h R a σ.m) (x : Nat) (d : D) : HdI h R a (σ.adoptM x d (upM σ.m)).m := by
  rcases hh with h | ⟨r, g, h1, h2⟩
  · exact .inl h
  · exact .inr ⟨r, g, h1, by rw [adoptM_keep W h2]; simp⟩
theorem HdT.keep {h : D} {Ls : List (List Int)} {a : Nat} {σ : St} (W : WF σ) (hh : HdT h Ls a σ.m) (x : Nat) (d : D) : HdT h Ls a (σ.adoptM x d (upM σ.m)).m := by
  rcases hh with h | ⟨h0, h1, h2, h3⟩
  · exact .inl h
  · exact .inr ⟨h0, h1, by rw [adoptM_keep W h2]; simp only [HO.ren, hdsF_ren], fun i L hi hL => by rw [adoptM_keep W (h3 i L hi hL)]; simp⟩
theorem BxR.keep {aM : Mv} {b a : Nat} {σ : St} (W : WF σ) (hh : BxR aM b a σ.m) (x : Nat) (d : D) : BxR aM b a (σ.adoptM x d (upM σ.m)).m := by
  obtain ⟨hA, h1, h2⟩ := hh
  refine ⟨hA, ?_, h2.keep W x d⟩
  rw [adoptM_keep W h1]
  rcases h2 with ⟨rfl, _⟩ | ⟨r, g, rfl, _⟩ <;> rfl
theorem TB.keep {m : Mv} {L : List Int} {n p q : Int} {E : List Row} {Mk : List Int} {σ : St} (W : WF σ) (B : TB m L n p q E Mk σ) (x : Nat) (hx : 200 > x ∧ 20 ≤ x) (d : D) : TB m L n p q E Mk (σ.adoptM x d (upM σ.m)) := by
  have e : ∀ j, j < 20 → (σ.adoptM x d (upM σ.m)).s j = σ.s j := fun j hj => by rw [adoptM_s, if_neg (by omega)]
  exact ⟨by rw [e 1 (by omega), B.s1], by rw [e 2 (by omega), B.s2], by rw [e 3 (by omega), B.s3], by rw [e 4 (by omega), B.s4], by rw [e 5 (by omega), B.s5], by rw [adoptM_keep W B.m6]; rfl, by rw [e 11 (by omega), B.s11], by rw [adoptM_keep W B.m12]; rfl, by rw [e 12 (by omega), B.s12], by rw [adoptM_keep W B.m40]; simp, by rw [adoptM_keep W B.m42]; simp⟩
theorem apartR {M : Mem} {rows E : List Row} {hA : D} {R : List Row} (h40 : M [40, 0] = some (.row [40, 0, 0] 53 (rowsL (rows ++ E)))) (hh : HdR hA R 46 M) (h173 : M [173, 0] = some (.row [173, 0] 22 [[.sl [40, 0] 5 0 rows.length none], [hA]])) (hl : rows.length ≤ 60) (hR : R.length ≤ 60) :
    ∃ D', S51 M [.sl [173, 0] 1 0 2 none] = some (bv true, D') ∧ ∀ τ o, M τ = some o → (∀ g, o.grp = some g → g ≠ [40, 0, 0] ∧ ∀ r, g ≠ 46 :: r) → D' (0 :: τ) = some (o.ren up) := by
  obtain ⟨nl1, t1, g1, hnl, hA1, hM1⟩ : ∃ (nl1 : Bool) (t1 g1 : Tok), (nl1 = true → R = []) ∧ (hA = if nl1 then .nil else .sl (46 :: t1) 5 0 R.length none) ∧ (nl1 = false → M (46 :: t1) = some (.row (46 :: g1) 53 (rowsL R))) := by
    rcases hh with ⟨h1, h2⟩ | ⟨r, g, h1, h2⟩
    · exact ⟨true, [], [], fun _ => h2, by simp [h1], fun h => by cases h⟩
    · exact ⟨false, 0 :: r, 0 :: g, (fun h => by cases h), by simp [h1], fun _ => h2⟩
  obtain ⟨cut, hcut⟩ : ∃ cut : Tok → Option Nat, cut = fun τ => if τ = [40, 0] then some rows.length else none := ⟨_, rfl⟩
  have c40 : cutM cut M [40, 0] = some (.row [40, 0, 0] 53 (rowsL rows)) := by
    rw [cutM_some h40 (n := rows.length) (by rw [hcut]; rfl), rowsL_append]
    congr 2
    exact List.take_left' (by simp)
  have c173 : cutM cut M [173, 0] = some (.row [173, 0] 22 [[.sl [40, 0] 5 0 rows.length none], [hA]]) := by rw [cutM_none (by rw [hcut]; rfl), h173]
  obtain ⟨F, hF⟩ : ∃ F : FlR, F = { K := 2, nl := fun k => if k = 0 then false else nl1, ez := fun _ => none, ln := fun k => if k = 0 then rows.length else R.length, tk := fun k => if k = 0 then [40, 0] else 46 :: t1, gr := fun k => if k = 0 then [40, 0, 0] else 46 :: g1, lt := [173, 0], lg := [173, 0], U := cutM cut M, mrk := fun k i => markRw k i } := ⟨_, rfl⟩
  have two : ∀ k, k < 2 → k = 0 ∨ k = 1 := fun k h => by omega
  have hhr : F.hrow = [[.sl [40, 0] 5 0 rows.length none], [hA]] := by
    rw [hF, hA1]
    rfl
  have hI : F.In (fun k => if k = 0 then rows else R) F.U := fun j hj hn => by
    rw [hF] at hj hn ⊢
    rcases two j hj with rfl | rfl
    · exact ⟨c40, rfl⟩
    · refine ⟨?_, rfl⟩
      show cutM cut M (46 :: t1) = _
      rw [cutM_none (by rw [hcut]; simp), hM1 hn]
      rfl
  have hC : F.CK := by
    refine ⟨by rw [hF]; show 2 ≤ 100; omega, fun k hk => ?_, fun k hk => ?_, (fun k t hk ht => by rw [hF] at ht; cases ht), fun j k hj hk nj nk e => ?_, fun j k hj hk nj nk e => ?_, ?_, fun j hj hn => ?_, fun k i => by rw [hF]⟩
    · rw [hF] at hk ⊢
      by_cases h0 : k = 0
      · subst h0; cases hk
      · simp only [if_neg h0] at hk ⊢
        rw [hnl hk]; rfl
    · rw [hF]
      show (if k = 0 then rows.length else R.length) ≤ 1000
      split <;> omega
    · rw [hF] at hj hk e
      rcases two j hj with rfl | rfl <;> rcases two k hk with rfl | rfl
      · rfl
      · simp at e
      · simp at e
      · rfl
    · rw [hF] at hj hk e
      rcases two j hj with rfl | rfl <;> rcases two k hk with rfl | rfl
      · rfl
      · simp at e
      · simp at e
      · rfl
    · rw [hhr, hF]; exact c173
    · rw [hF] at hj ⊢
      rcases two j hj with rfl | rfl <;> simp
  have hU : F.U = cutM cut M := by rw [hF]
  have e := S51_at (M := M) hC hI hU (fun τ k h => by
    rw [hcut] at h
    by_cases h0 : τ = [40, 0]
    · exact ⟨0, by rw [hF]; show 0 < 2; omega, by rw [hF]; rfl, by rw [hF]; exact h0⟩
    · simp only [if_neg h0] at h; cases h) (by rw [hF]; show 0 < 2; omega) (by rw [hhr, hF]; exact h173)
  have e1 : F.lt = [173, 0] := by rw [hF]
  have e2 : F.K = 2 := by rw [hF]
  rw [e1, e2] at e
  refine ⟨_, e, fun τ o ho hg => dropM_some.2 ⟨by rw [upM_up, ho]; rfl, fun g hg' hP => ?_⟩⟩
  rw [HO.ren_grp] at hg'
  obtain ⟨g0, hg0, rfl⟩ := Option.map_eq_some_iff.1 hg'
  have hP' : grpsOf F.U F.hrow (up g0) := by rw [hU]; exact (grpsOf_cut _).2 hP
  obtain ⟨j, hj, hn, ee⟩ := (FlR.grps hI _).1 hP'
  have := hg g0 hg0
  rw [hF] at hj ee
  have ee := (List.cons.inj ee).2
  rcases two j hj with rfl | rfl
  · exact this.1 ee
  · exact this.2 _ ee
theorem apartI {M : Mem} {L Mk : List Int} {hL : D} {RL : List Int} {Ls : List (List Int)} {lg : Tok} (h42 : M [42, 0] = some (.row [42, 0, 0] 3 (ints (L ++ Mk)))) (hh : HdI hL RL 58 M) (hT : LsF (tkT 83) (grT 83) M 0 Ls) (hne : ∀ l ∈ Ls, l ≠ []) (hlg : lg = [180, 0] ∨ lg = [83, 0, 0])
    (h180 : M [180, 0] = some (.row lg 34 (hdsF (tkT 83) 0 Ls ++ [[.sl [42, 0] 1 0 L.length none], [hL]]))) (hl : L.length ≤ 60) (hR : RL.length ≤ 60) (hLs : Ls.length ≤ 60) (hLl : ∀ l ∈ Ls, l.length ≤ 60) :
    ∃ D', S52 M [.sl [180, 0] 1 0 (Ls.length + 2) none] = some (bv true, D') := by
  obtain ⟨nl1, t1, g1, hnl, hL1, hM1⟩ : ∃ (nl1 : Bool) (t1 g1 : Tok), (nl1 = true → RL = []) ∧ (hL = if nl1 then .nil else .sl (58 :: t1) 1 0 RL.length none) ∧ (nl1 = false → M (58 :: t1) = some (.row (58 :: g1) 3 (ints RL))) := by
    rcases hh with ⟨h1, h2⟩ | ⟨r, g, h1, h2⟩
    · exact ⟨true, [], [], fun _ => h2, by simp [h1], fun h => by cases h⟩
    · exact ⟨false, 0 :: r, 0 :: g, (fun h => by cases h), by simp [h1], fun _ => h2⟩
  obtain ⟨cut, hcut⟩ : ∃ cut : Tok → Option Nat, cut = fun τ => if τ = [42, 0] then some L.length else none := ⟨_, rfl⟩
  obtain ⟨N, hN⟩ : ∃ N, N = Ls.length := ⟨_, rfl⟩
  have c42 : cutM cut M [42, 0] = some (.row [42, 0, 0] 3 (ints L)) := by
    rw [cutM_some h42 (n := L.length) (by rw [hcut]; rfl), ints_append]
    congr 2
    exact List.take_left' (by simp)
  obtain ⟨F, hF⟩ : ∃ F : FlI, F = { K := N + 2, nl := fun k => if k = N + 1 then nl1 else false, ez := fun _ => none, ln := fun k => if k < N then (Ls.getD k []).length else if k = N then L.length else RL.length, tk := fun k => if k < N then [83, 0, k + 1] else if k = N then [42, 0] else 58 :: t1, gr := fun k => if k < N then [83, 0, 0, k] else if k = N then [42, 0, 0] else 58 :: g1, lt := [180, 0], lg := lg, U := cutM cut M, mrk := fun k i => markI k i } := ⟨_, rfl⟩
  have three : ∀ k, k < N + 2 → k < N ∨ k = N ∨ k = N + 1 := fun k h => by omega
  have gd : ∀ k (h : k < Ls.length), Ls.getD k [] = Ls[k] := fun k h => by simp [List.getD, h]
  have hhr : F.hrow = hdsF (tkT 83) 0 Ls ++ [[.sl [42, 0] 1 0 L.length none], [hL]] := by
    apply List.ext_getElem?
    intro k
    have hfl := hdsF_len (tkT 83) Ls 0
    by_cases h1 : k < N
    · rw [F.hrow_at (by rw [hF]; show k < N + 2; omega), List.getElem?_append_left (by omega), hdsF_at _ _ _ k (by omega), Nat.zero_add]
      have hne' := hne Ls[k] (List.getElem_mem (by omega))
      rw [hF]
      simp only [FlI.hdr, hd, if_neg (show ¬ k = N + 1 by omega), if_pos h1, if_neg hne', gd k (by omega)]
      rfl
    · rw [List.getElem?_append_right (by omega)]
      by_cases h2 : k = N
      · subst h2
        rw [F.hrow_at (by rw [hF]; show k < k + 2; omega), hfl, ← hN, Nat.sub_self, hF]
        simp only [FlI.hdr, if_neg (show ¬ k = k + 1 by omega), if_neg (Nat.lt_irrefl k)]
        rfl
      · by_cases h3 : k = N + 1
        · subst h3
          rw [F.hrow_at (by rw [hF]; show N + 1 < N + 2; omega), hfl, ← hN, Nat.add_sub_cancel_left, hL1, hF]
          simp only [FlI.hdr, FlI.emp, if_true, if_neg (show ¬ N + 1 < N by omega), if_neg (show ¬ N + 1 = N by omega)]
          rfl
        · have a1 : F.hrow.length = N + 2 := by rw [F.hrow_len, hF]
          rw [List.getElem?_eq_none (by omega), List.getElem?_eq_none (by simp; omega)]
  have hI : F.In (fun k => if k < N then Ls.getD k [] else if k = N then L else RL) F.U := fun j hj hn => by
    rw [hF] at hj hn ⊢
    rcases three j hj with h | rfl | rfl
    · simp only [if_pos h]
      refine ⟨?_, trivial⟩
      have e := hT j Ls[j] (by simp [hN ▸ h]) (hne _ (List.getElem_mem (by omega)))
      rw [cutM_none (by rw [hcut]; simp), gd j (by omega)]
      simpa [tkT, grT] using e
    · simp only [if_neg (Nat.lt_irrefl j), if_true]
      exact ⟨c42, trivial⟩
    · simp only [if_neg (show ¬ N + 1 < N by omega), if_neg (show ¬ N + 1 = N by omega)]
      simp only [if_true] at hn
      refine ⟨?_, trivial⟩
      rw [cutM_none (by rw [hcut]; simp), hM1 hn]
  have hC : F.CK := by
    refine ⟨by rw [hF]; show N + 2 ≤ 100; omega, fun k hk => ?_, fun k hk => ?_, (fun k t hk ht => by rw [hF] at ht; cases ht), fun j k hj hk nj nk e => ?_, fun j k hj hk nj nk e => ?_, ?_, fun j hj hn => ?_, fun k i => by rw [hF]⟩
    · rw [hF] at hk ⊢
      by_cases h0 : k = N + 1
      · subst h0
        simp only [if_true] at hk
        simp only [if_neg (show ¬ N + 1 < N by omega), if_neg (show ¬ N + 1 = N by omega)]
        rw [hnl hk]; rfl
      · simp only [if_neg h0] at hk; cases hk
    · rw [hF] at hk ⊢
      show (if k < N then (Ls.getD k []).length else if k = N then L.length else RL.length) ≤ 1000
      split
      · rename_i h
        rw [gd k (by omega)]
        have := hLl Ls[k] (List.getElem_mem (by omega))
        omega
      · split <;> omega
    · rw [hF] at hj hk e
      rcases three j hj with h | rfl | rfl <;> rcases three k hk with h' | rfl | rfl
      · simp only [if_pos h, if_pos h'] at e; simpa using e
      · simp [h] at e
      · simp [h, show ¬ N + 1 < N by omega] at e
      · simp [h'] at e
      · rfl
      · simp [show ¬ j + 1 < j by omega] at e
      · simp [h', show ¬ N + 1 < N by omega] at e
      · simp [show ¬ k + 1 < k by omega] at e
      · rfl
    · rw [hF] at hj hk e
      rcases three j hj with h | rfl | rfl <;> rcases three k hk with h' | rfl | rfl
      · simp only [if_pos h, if_pos h'] at e; simpa using e
      · simp [h] at e
      · simp [h, show ¬ N + 1 < N by omega] at e
      · simp [h'] at e
      · rfl
      · simp [show ¬ j + 1 < j by omega] at e
      · simp [h', show ¬ N + 1 < N by omega] at e
      · simp [show ¬ k + 1 < k by omega] at e
      · rfl
    · rw [hhr, hF]
      show cutM cut M [180, 0] = _
      rw [cutM_none (by rw [hcut]; rfl), h180]
    · rw [hF] at hj ⊢
      rcases three j hj with h | rfl | rfl
      · rcases hlg with rfl | rfl <;> simp [h]
      · rcases hlg with rfl | rfl <;> simp
      · rcases hlg with rfl | rfl <;> simp [show ¬ N + 1 < N by omega]
  have hU : F.U = cutM cut M := by rw [hF]
  have e := S52_at (M := M) hC hI hU (fun τ k h => by
    rw [hcut] at h
    by_cases h0 : τ = [42, 0]
    · exact ⟨N, by rw [hF]; show N < N + 2; omega, by rw [hF]; simp, by rw [hF]; simp [h0]⟩
    · simp only [if_neg h0] at h; cases h) (by rw [hF]; show 0 < N + 2; omega) (by rw [hhr, hF]; exact h180)
  have e1 : F.lt = [180, 0] := by rw [hF]
  have e2 : F.K = Ls.length + 2 := by rw [hF, hN]
  rw [e1, e2] at e
  exact ⟨_, e⟩
end Go.Proofs.Ytpmgaaalfdjikaa
namespace Go.Proofs.Ytpmgaaalfdjikaa
open Go.RowKit
set_option linter.unusedSimpArgs false
set_option linter.unusedVariables false

def W21T : WC := (.seq (.reg [(.set [(49, (.ap (.load 6 true) [(.t 5)])), (50, (.t 1))] [49, 50]), (.stm (.eff (.callq 51 43 [(.t 49), (.t 50)]) none)), (.set [(52, (.ap (.ext 0) [(.t 51)])), (53, (.ap (.ext 1) [(.t 51)]))] [48, 52, 53]), (.stm (.eff (.box 15 (.c (.agg [(.v (.int .i64 0)), (.v (.int .i64 0)), (.v (.int .i64 0)), (.v (.int .i64 0)), (.v (.int .i64 0)), .nil]))) none)), (.stm (.eff (.store 6 (.t 15) (.t 52)) none)), (.set [(16, (.t 53))] [16])]) (.seq (.reg [(.set [(55, (.ap (.load 6 true) [(.t 11)])), (56, (.t 2))] [55, 56]), (.stm (.eff (.callq 57 20 [(.t 55), (.t 56)]) none)), (.set [(17, (.ap (.ext 0) [(.t 57)])), (18, (.ap (.ext 1) [(.t 57)]))] [54, 58, 59, 17, 18])]) (.seq (.reg [(.set [(61, (.ap (.load 6 true) [(.t 5)])), (62, (.t 2))] [61, 62]), (.stm (.eff (.callq 63 44 [(.t 61), (.t 62)]) none)), (.set [(19, (.ap (.ext 0) [(.t 63)])), (20, (.ap (.ext 1) [(.t 63)]))] [60, 64, 65, 19, 20])]) (.seq (.reg [(.set [(21, (.ap (.ext 0) [(.ap (.call 25) [(.ap (.load 6 true) [(.t 11)]), (.t 3), (.t 4)])])), (22, (.ap (.ext 1) [(.ap (.call 25) [(.ap (.load 6 true) [(.t 11)]), (.t 3), (.t 4)])]))] [67, 68, 69, 70, 66, 71, 72, 21, 22])]) (.seq (.reg [(.set [(23, (.ap (.ext 0) [(.ap (.call 45) [(.ap (.load 6 true) [(.t 5)]), (.t 3), (.t 4)])])), (24, (.ap (.ext 1) [(.ap (.call 45) [(.ap (.load 6 true) [(.t 5)]), (.t 3), (.t 4)])]))] [74, 75, 76, 77, 73, 78, 79, 23, 24])]) (.seq (.reg [(.set [(81, (.ap (.load 6 true) [(.t 11)]))] [81]), (.stm (.eff (.callq 82 26 [(.t 81)]) none)), (.set [(25, (.ap (.ext 0) [(.t 82)])), (26, (.ap (.ext 1) [(.t 82)]))] [80, 83, 84, 25, 26])]) (.seq (.reg [(.set [(86, (.ap (.load 6 true) [(.t 5)]))] [86]), (.stm (.eff (.callq 87 46 [(.t 86)]) none)), (.set [(27, (.ap (.ext 0) [(.t 87)])), (28, (.ap (.ext 1) [(.t 87)]))] [85, 88, 89, 27, 28])]) (.seq (.reg [(.set [(29, (.ap (.ext 0) [(.ap (.call 18) [(.ap (.load 6 true) [(.t 11)])])])), (30, (.ap (.ext 1) [(.ap (.call 18) [(.ap (.load 6 true) [(.t 11)])])]))] [91, 92, 90, 93, 94, 29, 30])]) (.seq (.reg [(.set [(31, (.ap (.ext 0) [(.ap (.call 47) [(.ap (.load 6 true) [(.t 5)])])])), (32, (.ap (.ext 1) [(.ap (.call 47) [(.ap (.load 6 true) [(.t 5)])])]))] [96, 97, 95, 98, 99, 31, 32])]) (.seq (.seq (.reg [(.set [(132, (.ite (.ite (.ite (.ite (.ite (.ap .inot [(.ap (.call 48) [(.ap (.load 6 true) [(.t 13)]), (.ap (.load 6 true) [(.t 15)])])]) (.c (.v (.bool true))) (.ap .inot [(.ap (.call 38) [(.t 17), (.t 19)])])) (.c (.v (.bool true))) (.ap (.ibin .neq) [(.t 21), (.t 23)])) (.c (.v (.bool true))) (.ap .inot [(.ap (.call 30) [(.t 25), (.t 27)])])) (.c (.v (.bool true))) (.ap (.ibin .neq) [(.t 29), (.t 31)])) (.c (.v (.bool true))) (.ap (.beq true) [(.ap (.call 27) [(.ap (.load 6 true) [(.t 11)])]), (.ap (.call 49) [(.ap (.load 6 true) [(.t 5)])])])))] [100, 101, 102, 103, 104, 105, 106, 107, 108, 109, 110, 111, 112, 113, 114, 115, 116, 117, 118, 119, 120, 121, 122, 123, 124, 125, 126, 127, 128, 129, 130, 131, 132])]) (.cond (.t 132) (.seq (.reg [(.set [(10, (.c (.v (.bool false))))] [10])]) .ret) .skip)) (.seq (.seq (.reg [(.stm (.op 133 .mv [(.t 14)] none)), (.stm (.op 134 .mv [(.t 16)] none)), (.stm (.op 135 (.ibin .neq) [(.t 133), (.t 134)] none)), (.stm (.op 136 .mv [(.t 135)] none)), (.stm (.op 137 .mv [(.t 18)] (some (136, false)))), (.stm (.op 138 .mv [(.t 20)] (some (136, false)))), (.stm (.op 139 (.ibin .neq) [(.t 137), (.t 138)] (some (136, false)))), (.stm (.op 140 .pick [(.t 136), (.c (.v (.bool true))), (.t 139)] none)), (.stm (.op 141 .mv [(.t 140)] none)), (.stm (.op 142 .mv [(.t 22)] (some (141, false)))), (.stm (.op 143 .mv [(.t 24)] (some (141, false)))), (.stm (.op 144 (.ibin .neq) [(.t 142), (.t 143)] (some (141, false)))), (.stm (.op 145 .pick [(.t 141), (.c (.v (.bool true))), (.t 144)] none)), (.stm (.op 146 .mv [(.t 145)] none)), (.stm (.op 147 .mv [(.t 26)] (some (146, false)))), (.stm (.op 148 .mv [(.t 28)] (some (146, false)))), (.stm (.op 149 (.ibin .neq) [(.t 147), (.t 148)] (some (146, false)))), (.stm (.op 150 .pick [(.t 146), (.c (.v (.bool true))), (.t 149)] none)), (.stm (.op 151 .mv [(.t 150)] none)), (.stm (.op 152 .mv [(.t 30)] (some (151, false)))), (.stm (.op 153 .mv [(.t 32)] (some (151, false)))), (.stm (.op 154 (.ibin .neq) [(.t 152), (.t 153)] (some (151, false)))), (.stm (.op 155 .pick [(.t 151), (.c (.v (.bool true))), (.t 154)] none)), (.stm (.op 156 .mv [(.t 155)] none)), (.stm (.op 157 (.load 6 true) [(.t 11)] (some (156, false)))), (.stm (.op 158 (.load 6 true) [(.t 5)] (some (156, false)))), (.stm (.eff (.callm 159 36 [(.t 157), (.t 158)]) (some (156, false)))), (.stm (.op 160 .inot [(.t 159)] (some (156, false)))), (.stm (.op 161 .pick [(.t 156), (.c (.v (.bool true))), (.t 160)] none)), (.stm (.op 162 .mv [(.t 161)] none)), (.stm (.op 163 .mv [(.t 12)] (some (162, false)))), (.stm (.op 164 .mv [(.t 1)] (some (162, false)))), (.stm (.eff (.callm 165 50 [(.t 163), (.t 164)]) (some (162, false)))), (.stm (.op 166 .inot [(.t 165)] (some (162, false)))), (.stm (.op 167 .pick [(.t 162), (.c (.v (.bool true))), (.t 166)] none))]) (.cond (.t 167) (.seq (.reg [(.set [(10, (.c (.v (.bool false))))] [10])]) .ret) .skip)) (.seq (.reg [(.set [(169, (.ap (.load 1 false) [(.ap (.fld 5) [(.t 11)])])), (171, (.ap (.load 1 false) [(.ap (.fld 5) [(.t 13)])]))] [168, 169, 170, 171]), (.stm (.eff (.lit 172 22 1 2 [.nil, .nil] [(0, 1), (1, 1)] [(.t 169), (.t 171)]) none)), (.stm (.eff (.callm 173 51 [(.t 172)]) none)), (.stm (.op 174 .mv [(.t 173)] none)), (.stm (.op 175 .mv [(.t 25)] (some (174, true)))), (.stm (.op 176 .mv [(.t 12)] (some (174, true)))), (.stm (.op 177 .mv [(.t 17)] (some (174, true)))), (.stm (.eff (.lit 178 34 1 2 [.nil, .nil] [(0, 1), (1, 1)] [(.t 176), (.t 177)]) (some (174, true)))), (.stm (.eff (.app 179 34 1 (.t 175) (.t 178)) (some (174, true)))), (.stm (.eff (.callm 180 52 [(.t 179)]) (some (174, true)))), (.set [(10, (.ite (.t 174) (.t 180) (.c (.v (.bool false)))))] [181, 10])]) .ret))))))))))))
def W21 : WC × List VRes := ((.seq (.reg [(.stm (.eff (.box 5 (.t 0)) none)), (.set [(10, (.c (.v (.bool false))))] [10])]) (.seq (.seq (.reg [(.set [(33, (.ap (.load 6 true) [(.t 5)])), (34, (.t 1))] [33, 34]), (.stm (.eff (.lit 35 34 1 1 [.nil] [(0, 1)] [(.t 34)]) none)), (.set [(37, (.ap .inot [(.ap (.call 32) [(.t 33), (.t 35)])]))] [36, 37])]) (.cond (.t 37) (.seq (.reg [(.set [(10, (.c (.v (.bool true))))] [10])]) .ret) .skip)) (.seq (.reg [(.set [(38, (.ap (.load 6 true) [(.t 5)]))] [38]), (.stm (.eff (.callq 39 33 [(.t 38)]) none)), (.set [(40, (.t 1))] [40]), (.stm (.eff (.callq 41 42 [(.t 40)]) none)), (.stm (.eff (.box 11 (.c (.agg [(.v (.int .i64 0)), (.v (.int .i64 0)), (.v (.int .i64 0)), (.v (.int .i64 0)), (.v (.int .i64 0)), .nil]))) none)), (.stm (.eff (.store 6 (.t 11) (.t 39)) none)), (.set [(12, (.t 41))] [12])]) (.seq (.reg [(.set [(43, (.ap (.load 6 true) [(.t 11)])), (44, (.t 12))] [43, 44]), (.stm (.eff (.callq 45 17 [(.t 43), (.t 44)]) none)), (.set [(46, (.ap (.ext 0) [(.t 45)])), (47, (.ap (.ext 1) [(.t 45)]))] [42, 46, 47]), (.stm (.eff (.box 13 (.c (.agg [(.v (.int .i64 0)), (.v (.int .i64 0)), (.v (.int .i64 0)), (.v (.int .i64 0)), (.v (.int .i64 0)), .nil]))) none)), (.stm (.eff (.store 6 (.t 13) (.t 46)) none)), (.set [(14, (.t 47))] [14])]) W21T)))), [(.t 10)])
theorem is21 : IsFn Try.prog frOf 21 Try.f21 W21 := ⟨by kernel_rfl, by kernel_rfl, by kernel_rfl⟩
def WH21 : WC × List VRes := ((.seq (.reg [(.stm (.eff (.box 5 (.t 0)) none)), (.set [(10, (.c (.v (.bool false))))] [10])]) (.seq (.seq (.reg [(.set [(33, (.ap (.load 6 true) [(.t 5)])), (34, (.t 1))] [33, 34]), (.stm (.eff (.lit 35 34 1 1 [.nil] [(0, 1)] [(.t 34)]) none)), (.set [(37, (.ap .inot [(.ap (.call 32) [(.t 33), (.t 35)])]))] [36, 37])]) (.cond (.t 37) (.seq (.reg [(.set [(10, (.c (.v (.bool true))))] [10])]) .ret) .skip)) (.seq (.reg [(.set [(38, (.ap (.load 6 true) [(.t 5)]))] [38]), (.stm (.eff (.callq 39 33 [(.t 38)]) none)), (.set [(40, (.t 1))] [40]), (.stm (.eff (.callq 41 42 [(.t 40)]) none)), (.stm (.eff (.box 11 (.c (.agg [(.v (.int .i64 0)), (.v (.int .i64 0)), (.v (.int .i64 0)), (.v (.int .i64 0)), (.v (.int .i64 0)), .nil]))) none)), (.stm (.eff (.store 6 (.t 11) (.t 39)) none)), (.set [(12, (.t 41))] [12])]) (.seq (.reg [(.set [(43, (.ap (.load 6 true) [(.t 11)])), (44, (.t 12))] [43, 44]), (.stm (.eff (.callm 45 17 [(.t 43), (.t 44)]) none)), (.set [(46, (.ap (.ext 0) [(.t 45)])), (47, (.ap (.ext 1) [(.t 45)]))] [42, 46, 47]), (.stm (.eff (.box 13 (.c (.agg [(.v (.int .i64 0)), (.v (.int .i64 0)), (.v (.int .i64 0)), (.v (.int .i64 0)), (.v (.int .i64 0)), .nil]))) none)), (.stm (.eff (.store 6 (.t 13) (.t 46)) none)), (.set [(14, (.t 47))] [14])]) W21T)))), [(.t 10)])
theorem isH21 : IsFn Try.prog frH 21 Try.f21 WH21 := ⟨by kernel_rfl, by kernel_rfl, by kernel_rfl⟩
theorem nt21 : Try.f21.ntmps = 182 := by kernel_rfl
theorem c21t (q17 : FQ) (m17 : FM) (p25 p45 p18 p47 p48 p38 p30 p27 p49 p32 : FP) (q43 q20 q44 q26 q46 q33 q42 : FQ) (m36 m50 : FM) (m : Mv) (L : List Int) (n p q : Int) (E : List Row) (Mk : List Int) (aM : Mv) (eT eL cx ex eB cu eu : Int) (RL : List Int) (Ls : List (List Int)) (fB : Bool)
    (hB : D) (MB : Mem) (hB0 : PreR hB aM.rows MB) (h43 : q43 [.agg [iv m.t, iv m.r, iv m.s, iv m.c, iv m.w, .list (rowsL m.rows)], .list (ints L)] = some (.tup [.agg (aM.cellsW hB), iv eT], MB))
    (hL : D) (ML : Mem) (hL0 : PreI hL RL ML) (h20 : q20 [.agg [iv m.t, iv m.r, iv m.s, iv m.c, iv m.w, .list (rowsL m.rows)], iv n] = some (.tup [hL, iv eL], ML)) (h44 : q44 [.agg [iv m.t, iv m.r, iv m.s, iv m.c, iv m.w, .list (rowsL m.rows)], iv n] = some (.tup [hL, iv eL], ML))
    (h25 : p25 [.agg [iv m.t, iv m.r, iv m.s, iv m.c, iv m.w, .list (rowsL m.rows)], iv p, iv q] = some (.tup [iv cx, iv ex])) (h45 : p45 [.agg [iv m.t, iv m.r, iv m.s, iv m.c, iv m.w, .list (rowsL m.rows)], iv p, iv q] = some (.tup [iv cx, iv ex]))
    (hT : D) (MT : Mem) (hT0 : PreT hT Ls MT) (h26 : q26 [.agg [iv m.t, iv m.r, iv m.s, iv m.c, iv m.w, .list (rowsL m.rows)]] = some (.tup [hT, iv eB], MT)) (h46 : q46 [.agg [iv m.t, iv m.r, iv m.s, iv m.c, iv m.w, .list (rowsL m.rows)]] = some (.tup [hT, iv eB], MT))
    (h18q : p18 [.agg [iv m.t, iv m.r, iv m.s, iv m.c, iv m.w, .list (rowsL m.rows)]] = some (.tup [iv cu, iv eu])) (h47 : p47 [.agg [iv m.t, iv m.r, iv m.s, iv m.c, iv m.w, .list (rowsL m.rows)]] = some (.tup [iv cu, iv eu]))
    (h48 : p48 [.agg [iv aM.t, iv aM.r, iv aM.s, iv aM.c, iv aM.w, .list (rowsL aM.rows)], .agg [iv aM.t, iv aM.r, iv aM.s, iv aM.c, iv aM.w, .list (rowsL aM.rows)]] = some (bv true)) (h38 : p38 [.list (ints RL), .list (ints RL)] = some (bv true)) (h30p : p30 [.list (lists Ls), .list (lists Ls)] = some (bv true)) (h27 : p27 [.agg [iv m.t, iv m.r, iv m.s, iv m.c, iv m.w, .list (rowsL m.rows)]] = some (bv fB)) (h49 : p49 [.agg [iv m.t, iv m.r, iv m.s, iv m.c, iv m.w, .list (rowsL m.rows)]] = some (bv fB))
    (h36 : ∀ M : Mem, M [40, 0] = some (.row [40, 0, 0] 53 (rowsL (m.rows ++ E))) → m36 M [.agg [iv m.t, iv m.r, iv m.s, iv m.c, iv m.w, .sl [40, 0] 5 0 m.rows.length none], .agg [iv m.t, iv m.r, iv m.s, iv m.c, iv m.w, .list (rowsL m.rows)]] = some (bv true, upM M))
    (h50 : ∀ M : Mem, M [42, 0] = some (.row [42, 0, 0] 3 (ints (L ++ Mk))) → m50 M [.sl [42, 0] 1 0 L.length none, .list (ints L)] = some (bv true, upM M))
    (hm60 : m.rows.length ≤ 60) (hR60 : aM.rows.length ≤ 60) (hl60 : L.length ≤ 60) (hRL60 : RL.length ≤ 60) (hLs60 : Ls.length ≤ 60) (hLl60 : ∀ l ∈ Ls, l.length ≤ 60) (hne : ∀ l ∈ Ls, l ≠ [])
    (σ : St) (W : WF σ) (hσ : T3 m L n p q E Mk aM eT σ) :
    wwp (mkEnv [(32, p32), (25, p25), (45, p45), (18, p18), (47, p47), (48, p48), (38, p38), (30, p30), (27, p27), (49, p49)] [(17, q17), (43, q43), (20, q20), (44, q44), (26, q26), (46, q46), (33, q33), (42, q42)] [(17, m17), (36, m36), (50, m50), (51, S51), (52, S52)]) W21T (fun e s => okExit e ∧ resV [.t 10] s = some (bv true)) σ := by
  have htk : (rowsL (m.rows ++ E)).take m.rows.length = rowsL m.rows := by rw [rowsL_append]; exact List.take_left' (by simp)
  have hti : (ints (L ++ Mk)).take L.length = ints L := by rw [ints_append]; exact List.take_left' (by simp)
  have hle : m.rows.length ≤ (rowsL (m.rows ++ E)).length := by simp
  have hli : L.length ≤ (ints (L ++ Mk)).length := by simp
  simp only [W21T]
  obtain ⟨B, h13, hA, h14, c15, c51, c57, c63, c82, c87, c172, c178, c179⟩ := hσ
  refine wwp_cutW W (fun σ => TB m L n p q E Mk σ ∧ σ.s 13 = .ptr [14, 0] 0 ∧ BxR aM 14 46 σ.m ∧ σ.s 14 = iv eT ∧ σ.s 15 = .ptr [16, 0] 0 ∧ BxR aM 16 52 σ.m ∧ σ.s 16 = iv eT ∧ σ.c 57 = 0 ∧ σ.c 63 = 0 ∧ σ.c 82 = 0 ∧ σ.c 87 = 0 ∧ σ.c 172 = 0 ∧ σ.c 178 = 0 ∧ σ.c 179 = 0) ?_ ?_
  · rcases hB0 with ⟨rfl, rfl, hR⟩ | ⟨rfl, rfl⟩
    · simp [B.s1, B.s2, B.s3, B.s4, B.s5, B.m6, B.s11, B.m12, B.s12, B.m40, B.m42, htk, hti, hle, hli, h13, h14, c15, c51, c57, c63, c82, c87, c172, c178, c179, h43, putAt, Mv.cellsW]
      exact ⟨⟨by simp [B.s1], by simp [B.s2], by simp [B.s3], by simp [B.s4], by simp [B.s5], by simp [B.m6], by simp [B.s11], by simp [B.m12], by simp [B.s12], by simp [B.m40], by simp [B.m42]⟩, hA.mono (fun o h => by simp [h]) fun r o h => by simp [h], ⟨.nil, by simp [Mv.cellsW], .inl ⟨rfl, hR⟩⟩⟩
    · simp [B.s1, B.s2, B.s3, B.s4, B.s5, B.m6, B.s11, B.m12, B.s12, B.m40, B.m42, htk, hti, hle, hli, h13, h14, c15, c51, c57, c63, c82, c87, c172, c178, c179, h43, putAt, Mv.cellsW]
      exact ⟨⟨by simp [B.s1], by simp [B.s2], by simp [B.s3], by simp [B.s4], by simp [B.s5], by simp [B.m6], by simp [B.s11], by simp [B.m12], by simp [B.s12], by simp [B.m40], by simp [B.m42]⟩, hA.mono (fun o h => by simp [h]) fun r o h => by simp [h], ⟨.sl [52, 0] 5 0 aM.rows.length none, by simp [Mv.cellsW], .inr ⟨[], [0], rfl, by simp [c51]⟩⟩⟩
  clear W B h13 hA h14 c15 c51 c57 c63 c82 c87 c172 c178 c179 σ
  rintro σ W ⟨B, h13, hA, h14, h15, hB, h16, c57, c63, c82, c87, c172, c178, c179⟩
  refine wwp_cutW W (fun σ => TB m L n p q E Mk σ ∧ σ.s 13 = .ptr [14, 0] 0 ∧ BxR aM 14 46 σ.m ∧ σ.s 14 = iv eT ∧ σ.s 15 = .ptr [16, 0] 0 ∧ BxR aM 16 52 σ.m ∧ σ.s 16 = iv eT ∧ HdI (σ.s 17) RL 58 σ.m ∧ σ.s 18 = iv eL ∧ σ.c 63 = 0 ∧ σ.c 82 = 0 ∧ σ.c 87 = 0 ∧ σ.c 172 = 0 ∧ σ.c 178 = 0 ∧ σ.c 179 = 0) ?_ ?_
  · rcases hL0 with ⟨rfl, rfl, hR⟩ | ⟨rfl, rfl⟩
    · simp [B.s1, B.s2, B.s3, B.s4, B.s5, B.m6, B.s11, B.m12, B.s12, B.m40, B.m42, htk, hti, hle, hli, h13, h14, h15, h16, c57, c63, c82, c87, c172, c178, c179, h20, putAt, Mv.cellsW]
      exact ⟨⟨by simp [B.s1], by simp [B.s2], by simp [B.s3], by simp [B.s4], by simp [B.s5], by simp [B.m6], by simp [B.s11], by simp [B.m12], by simp [B.s12], by simp [B.m40], by simp [B.m42]⟩, hA.mono (fun o h => by simp [h]) fun r o h => by simp [h], hB.mono (fun o h => by simp [h]) fun r o h => by simp [h], .inl ⟨rfl, hR⟩⟩
    · simp [B.s1, B.s2, B.s3, B.s4, B.s5, B.m6, B.s11, B.m12, B.s12, B.m40, B.m42, htk, hti, hle, hli, h13, h14, h15, h16, c57, c63, c82, c87, c172, c178, c179, h20, putAt, Mv.cellsW]
      exact ⟨⟨by simp [B.s1], by simp [B.s2], by simp [B.s3], by simp [B.s4], by simp [B.s5], by simp [B.m6], by simp [B.s11], by simp [B.m12], by simp [B.s12], by simp [B.m40], by simp [B.m42]⟩, hA.mono (fun o h => by simp [h]) fun r o h => by simp [h], hB.mono (fun o h => by simp [h]) fun r o h => by simp [h], .inr ⟨[], [0], rfl, by simp [c57]⟩⟩
  clear W B h13 hA h14 h15 hB h16 c57 c63 c82 c87 c172 c178 c179 σ
  rintro σ W ⟨B, h13, hA, h14, h15, hB, h16, hL, h18, c63, c82, c87, c172, c178, c179⟩
  refine wwp_cutW W (fun σ => TB m L n p q E Mk σ ∧ σ.s 13 = .ptr [14, 0] 0 ∧ BxR aM 14 46 σ.m ∧ σ.s 14 = iv eT ∧ σ.s 15 = .ptr [16, 0] 0 ∧ BxR aM 16 52 σ.m ∧ σ.s 16 = iv eT ∧ HdI (σ.s 17) RL 58 σ.m ∧ σ.s 18 = iv eL ∧ HdI (σ.s 19) RL 64 σ.m ∧ σ.s 20 = iv eL ∧ σ.c 82 = 0 ∧ σ.c 87 = 0 ∧ σ.c 172 = 0 ∧ σ.c 178 = 0 ∧ σ.c 179 = 0) ?_ ?_
  · rcases hL0 with ⟨rfl, rfl, hR⟩ | ⟨rfl, rfl⟩
    · simp [B.s1, B.s2, B.s3, B.s4, B.s5, B.m6, B.s11, B.m12, B.s12, B.m40, B.m42, htk, hti, hle, hli, h13, h14, h15, h16, h18, c63, c82, c87, c172, c178, c179, h44, putAt, Mv.cellsW]
      exact ⟨⟨by simp [B.s1], by simp [B.s2], by simp [B.s3], by simp [B.s4], by simp [B.s5], by simp [B.m6], by simp [B.s11], by simp [B.m12], by simp [B.s12], by simp [B.m40], by simp [B.m42]⟩, hA.mono (fun o h => by simp [h]) fun r o h => by simp [h], hB.mono (fun o h => by simp [h]) fun r o h => by simp [h], hL.mono fun r o h => by simp [h], .inl ⟨rfl, hR⟩⟩
    · simp [B.s1, B.s2, B.s3, B.s4, B.s5, B.m6, B.s11, B.m12, B.s12, B.m40, B.m42, htk, hti, hle, hli, h13, h14, h15, h16, h18, c63, c82, c87, c172, c178, c179, h44, putAt, Mv.cellsW]
      exact ⟨⟨by simp [B.s1], by simp [B.s2], by simp [B.s3], by simp [B.s4], by simp [B.s5], by simp [B.m6], by simp [B.s11], by simp [B.m12], by simp [B.s12], by simp [B.m40], by simp [B.m42]⟩, hA.mono (fun o h => by simp [h]) fun r o h => by simp [h], hB.mono (fun o h => by simp [h]) fun r o h => by simp [h], hL.mono fun r o h => by simp [h], .inr ⟨[], [0], rfl, by simp [c63]⟩⟩
  clear W B h13 hA h14 h15 hB h16 hL h18 c63 c82 c87 c172 c178 c179 σ
  rintro σ W ⟨B, h13, hA, h14, h15, hB, h16, hL, h18, hW, h20', c82, c87, c172, c178, c179⟩
  refine wwp_cutW W (fun σ => TB m L n p q E Mk σ ∧ σ.s 13 = .ptr [14, 0] 0 ∧ BxR aM 14 46 σ.m ∧ σ.s 14 = iv eT ∧ σ.s 15 = .ptr [16, 0] 0 ∧ BxR aM 16 52 σ.m ∧ σ.s 16 = iv eT ∧ HdI (σ.s 17) RL 58 σ.m ∧ σ.s 18 = iv eL ∧ HdI (σ.s 19) RL 64 σ.m ∧ σ.s 20 = iv eL ∧ σ.s 21 = iv cx ∧ σ.s 22 = iv ex ∧ σ.c 82 = 0 ∧ σ.c 87 = 0 ∧ σ.c 172 = 0 ∧ σ.c 178 = 0 ∧ σ.c 179 = 0) ?_ ?_
  · simp [B.s1, B.s2, B.s3, B.s4, B.s5, B.m6, B.s11, B.m12, B.s12, B.m40, B.m42, htk, hti, hle, hli, h13, h14, h15, h16, h18, h20', c82, c87, c172, c178, c179, h25]
    exact ⟨⟨by simp [B.s1], by simp [B.s2], by simp [B.s3], by simp [B.s4], by simp [B.s5], by simp [B.m6], by simp [B.s11], by simp [B.m12], by simp [B.s12], by simp [B.m40], by simp [B.m42]⟩, hA.mono (fun o h => by simp [h]) fun r o h => by simp [h], hB.mono (fun o h => by simp [h]) fun r o h => by simp [h], hL.mono fun r o h => by simp [h], hW.mono fun r o h => by simp [h]⟩
  clear W B h13 hA h14 h15 hB h16 hL h18 hW h20' c82 c87 c172 c178 c179 σ
  rintro σ W ⟨B, h13, hA, h14, h15, hB, h16, hL, h18, hW, h20', h21, h22, c82, c87, c172, c178, c179⟩
  refine wwp_cutW W (fun σ => TB m L n p q E Mk σ ∧ σ.s 13 = .ptr [14, 0] 0 ∧ BxR aM 14 46 σ.m ∧ σ.s 14 = iv eT ∧ σ.s 15 = .ptr [16, 0] 0 ∧ BxR aM 16 52 σ.m ∧ σ.s 16 = iv eT ∧ HdI (σ.s 17) RL 58 σ.m ∧ σ.s 18 = iv eL ∧ HdI (σ.s 19) RL 64 σ.m ∧ σ.s 20 = iv eL ∧ σ.s 21 = iv cx ∧ σ.s 22 = iv ex ∧ σ.s 23 = iv cx ∧ σ.s 24 = iv ex ∧ σ.c 82 = 0 ∧ σ.c 87 = 0 ∧ σ.c 172 = 0 ∧ σ.c 178 = 0 ∧ σ.c 179 = 0) ?_ ?_
  · simp [B.s1, B.s2, B.s3, B.s4, B.s5, B.m6, B.s11, B.m12, B.s12, B.m40, B.m42, htk, hti, hle, hli, h13, h14, h15, h16, h18, h20', h21, h22, c82, c87, c172, c178, c179, h45]
    exact ⟨⟨by simp [B.s1], by simp [B.s2], by simp [B.s3], by simp [B.s4], by simp [B.s5], by simp [B.m6], by simp [B.s11], by simp [B.m12], by simp [B.s12], by simp [B.m40], by simp [B.m42]⟩, hA.mono (fun o h => by simp [h]) fun r o h => by simp [h], hB.mono (fun o h => by simp [h]) fun r o h => by simp [h], hL.mono fun r o h => by simp [h], hW.mono fun r o h => by simp [h]⟩
  clear W B h13 hA h14 h15 hB h16 hL h18 hW h20' h21 h22 c82 c87 c172 c178 c179 σ
  rintro σ W ⟨B, h13, hA, h14, h15, hB, h16, hL, h18, hW, h20', h21, h22, h23, h24, c82, c87, c172, c178, c179⟩
  refine wwp_cutW W (fun σ => TB m L n p q E Mk σ ∧ σ.s 13 = .ptr [14, 0] 0 ∧ BxR aM 14 46 σ.m ∧ σ.s 14 = iv eT ∧ σ.s 15 = .ptr [16, 0] 0 ∧ BxR aM 16 52 σ.m ∧ σ.s 16 = iv eT ∧ HdI (σ.s 17) RL 58 σ.m ∧ σ.s 18 = iv eL ∧ HdI (σ.s 19) RL 64 σ.m ∧ σ.s 20 = iv eL ∧ σ.s 21 = iv cx ∧ σ.s 22 = iv ex ∧ σ.s 23 = iv cx ∧ σ.s 24 = iv ex ∧ HdT (σ.s 25) Ls 83 σ.m ∧ σ.s 26 = iv eB ∧ σ.c 87 = 0 ∧ σ.c 172 = 0 ∧ σ.c 178 = 0 ∧ σ.c 179 = 0) ?_ ?_
  · rcases hT0 with ⟨rfl, rfl, hR⟩ | ⟨hpos, rfl, rfl⟩
    · simp [B.s1, B.s2, B.s3, B.s4, B.s5, B.m6, B.s11, B.m12, B.s12, B.m40, B.m42, htk, hti, hle, hli, h13, h14, h15, h16, h18, h20', h21, h22, h23, h24, c82, c87, c172, c178, c179, h26, putAt, Mv.cellsW]
      exact ⟨⟨by simp [B.s1], by simp [B.s2], by simp [B.s3], by simp [B.s4], by simp [B.s5], by simp [B.m6], by simp [B.s11], by simp [B.m12], by simp [B.s12], by simp [B.m40], by simp [B.m42]⟩, hA.mono (fun o h => by simp [h]) fun r o h => by simp [h], hB.mono (fun o h => by simp [h]) fun r o h => by simp [h], hL.mono fun r o h => by simp [h], hW.mono fun r o h => by simp [h], .inl ⟨rfl, hR⟩⟩
    · simp [B.s1, B.s2, B.s3, B.s4, B.s5, B.m6, B.s11, B.m12, B.s12, B.m40, B.m42, htk, hti, hle, hli, h13, h14, h15, h16, h18, h20', h21, h22, h23, h24, c82, c87, c172, c178, c179, h26, putAt, Mv.cellsW]
      exact ⟨⟨by simp [B.s1], by simp [B.s2], by simp [B.s3], by simp [B.s4], by simp [B.s5], by simp [B.m6], by simp [B.s11], by simp [B.m12], by simp [B.s12], by simp [B.m40], by simp [B.m42]⟩, hA.mono (fun o h => by simp [h]) fun r o h => by simp [h], hB.mono (fun o h => by simp [h]) fun r o h => by simp [h], hL.mono fun r o h => by simp [h], hW.mono fun r o h => by simp [h], .inr ⟨hpos, rfl, by simp [tableMem, hdsF_ren, c82]; rfl, fun i L' hi hne => by simp [tkT, grT, tableMem, hi, hne, c82]⟩⟩
  clear W B h13 hA h14 h15 hB h16 hL h18 hW h20' h21 h22 h23 h24 c82 c87 c172 c178 c179 σ
  rintro σ W ⟨B, h13, hA, h14, h15, hB, h16, hL, h18, hW, h20', h21, h22, h23, h24, hT, h26', c87, c172, c178, c179⟩
  refine wwp_cutW W (fun σ => TB m L n p q E Mk σ ∧ σ.s 13 = .ptr [14, 0] 0 ∧ BxR aM 14 46 σ.m ∧ σ.s 14 = iv eT ∧ σ.s 15 = .ptr [16, 0] 0 ∧ BxR aM 16 52 σ.m ∧ σ.s 16 = iv eT ∧ HdI (σ.s 17) RL 58 σ.m ∧ σ.s 18 = iv eL ∧ HdI (σ.s 19) RL 64 σ.m ∧ σ.s 20 = iv eL ∧ σ.s 21 = iv cx ∧ σ.s 22 = iv ex ∧ σ.s 23 = iv cx ∧ σ.s 24 = iv ex ∧ HdT (σ.s 25) Ls 83 σ.m ∧ σ.s 26 = iv eB ∧ HdT (σ.s 27) Ls 88 σ.m ∧ σ.s 28 = iv eB ∧ σ.c 172 = 0 ∧ σ.c 178 = 0 ∧ σ.c 179 = 0) ?_ ?_
  · rcases hT0 with ⟨rfl, rfl, hR⟩ | ⟨hpos, rfl, rfl⟩
    · simp [B.s1, B.s2, B.s3, B.s4, B.s5, B.m6, B.s11, B.m12, B.s12, B.m40, B.m42, htk, hti, hle, hli, h13, h14, h15, h16, h18, h20', h21, h22, h23, h24, h26', c87, c172, c178, c179, h46, putAt, Mv.cellsW]
      exact ⟨⟨by simp [B.s1], by simp [B.s2], by simp [B.s3], by simp [B.s4], by simp [B.s5], by simp [B.m6], by simp [B.s11], by simp [B.m12], by simp [B.s12], by simp [B.m40], by simp [B.m42]⟩, hA.mono (fun o h => by simp [h]) fun r o h => by simp [h], hB.mono (fun o h => by simp [h]) fun r o h => by simp [h], hL.mono fun r o h => by simp [h], hW.mono fun r o h => by simp [h], hT.mono fun r o h => by simp [h], .inl ⟨rfl, hR⟩⟩
    · simp [B.s1, B.s2, B.s3, B.s4, B.s5, B.m6, B.s11, B.m12, B.s12, B.m40, B.m42, htk, hti, hle, hli, h13, h14, h15, h16, h18, h20', h21, h22, h23, h24, h26', c87, c172, c178, c179, h46, putAt, Mv.cellsW]
      exact ⟨⟨by simp [B.s1], by simp [B.s2], by simp [B.s3], by simp [B.s4], by simp [B.s5], by simp [B.m6], by simp [B.s11], by simp [B.m12], by simp [B.s12], by simp [B.m40], by simp [B.m42]⟩, hA.mono (fun o h => by simp [h]) fun r o h => by simp [h], hB.mono (fun o h => by simp [h]) fun r o h => by simp [h], hL.mono fun r o h => by simp [h], hW.mono fun r o h => by simp [h], hT.mono fun r o h => by simp [h], .inr ⟨hpos, rfl, by simp [tableMem, hdsF_ren, c87]; rfl, fun i L' hi hne => by simp [tkT, grT, tableMem, hi, hne, c87]⟩⟩
  clear W B h13 hA h14 h15 hB h16 hL h18 hW h20' h21 h22 h23 h24 hT h26' c87 c172 c178 c179 σ
  rintro σ W ⟨B, h13, hA, h14, h15, hB, h16, hL, h18, hW, h20', h21, h22, h23, h24, hT, h26', hQ, h28, c172, c178, c179⟩
  refine wwp_cutW W (fun σ => TB m L n p q E Mk σ ∧ σ.s 13 = .ptr [14, 0] 0 ∧ BxR aM 14 46 σ.m ∧ σ.s 14 = iv eT ∧ σ.s 15 = .ptr [16, 0] 0 ∧ BxR aM 16 52 σ.m ∧ σ.s 16 = iv eT ∧ HdI (σ.s 17) RL 58 σ.m ∧ σ.s 18 = iv eL ∧ HdI (σ.s 19) RL 64 σ.m ∧ σ.s 20 = iv eL ∧ σ.s 21 = iv cx ∧ σ.s 22 = iv ex ∧ σ.s 23 = iv cx ∧ σ.s 24 = iv ex ∧ HdT (σ.s 25) Ls 83 σ.m ∧ σ.s 26 = iv eB ∧ HdT (σ.s 27) Ls 88 σ.m ∧ σ.s 28 = iv eB ∧ σ.s 29 = iv cu ∧ σ.s 30 = iv eu ∧ σ.c 172 = 0 ∧ σ.c 178 = 0 ∧ σ.c 179 = 0) ?_ ?_
  · simp [B.s1, B.s2, B.s3, B.s4, B.s5, B.m6, B.s11, B.m12, B.s12, B.m40, B.m42, htk, hti, hle, hli, h13, h14, h15, h16, h18, h20', h21, h22, h23, h24, h26', h28, c172, c178, c179, h18q]
    exact ⟨⟨by simp [B.s1], by simp [B.s2], by simp [B.s3], by simp [B.s4], by simp [B.s5], by simp [B.m6], by simp [B.s11], by simp [B.m12], by simp [B.s12], by simp [B.m40], by simp [B.m42]⟩, hA.mono (fun o h => by simp [h]) fun r o h => by simp [h], hB.mono (fun o h => by simp [h]) fun r o h => by simp [h], hL.mono fun r o h => by simp [h], hW.mono fun r o h => by simp [h], hT.mono fun r o h => by simp [h], hQ.mono fun r o h => by simp [h]⟩
  clear W B h13 hA h14 h15 hB h16 hL h18 hW h20' h21 h22 h23 h24 hT h26' hQ h28 c172 c178 c179 σ
  rintro σ W ⟨B, h13, hA, h14, h15, hB, h16, hL, h18, hW, h20', h21, h22, h23, h24, hT, h26', hQ, h28, h29, h30, c172, c178, c179⟩
  refine wwp_cutW W (fun σ => TB m L n p q E Mk σ ∧ σ.s 13 = .ptr [14, 0] 0 ∧ BxR aM 14 46 σ.m ∧ σ.s 14 = iv eT ∧ σ.s 15 = .ptr [16, 0] 0 ∧ BxR aM 16 52 σ.m ∧ σ.s 16 = iv eT ∧ HdI (σ.s 17) RL 58 σ.m ∧ σ.s 18 = iv eL ∧ HdI (σ.s 19) RL 64 σ.m ∧ σ.s 20 = iv eL ∧ σ.s 21 = iv cx ∧ σ.s 22 = iv ex ∧ σ.s 23 = iv cx ∧ σ.s 24 = iv ex ∧ HdT (σ.s 25) Ls 83 σ.m ∧ σ.s 26 = iv eB ∧ HdT (σ.s 27) Ls 88 σ.m ∧ σ.s 28 = iv eB ∧ σ.s 29 = iv cu ∧ σ.s 30 = iv eu ∧ σ.s 31 = iv cu ∧ σ.s 32 = iv eu ∧ σ.c 172 = 0 ∧ σ.c 178 = 0 ∧ σ.c 179 = 0) ?_ ?_
  · simp [B.s1, B.s2, B.s3, B.s4, B.s5, B.m6, B.s11, B.m12, B.s12, B.m40, B.m42, htk, hti, hle, hli, h13, h14, h15, h16, h18, h20', h21, h22, h23, h24, h26', h28, h29, h30, c172, c178, c179, h47]
    exact ⟨⟨by simp [B.s1], by simp [B.s2], by simp [B.s3], by simp [B.s4], by simp [B.s5], by simp [B.m6], by simp [B.s11], by simp [B.m12], by simp [B.s12], by simp [B.m40], by simp [B.m42]⟩, hA.mono (fun o h => by simp [h]) fun r o h => by simp [h], hB.mono (fun o h => by simp [h]) fun r o h => by simp [h], hL.mono fun r o h => by simp [h], hW.mono fun r o h => by simp [h], hT.mono fun r o h => by simp [h], hQ.mono fun r o h => by simp [h]⟩
  clear W B h13 hA h14 h15 hB h16 hL h18 hW h20' h21 h22 h23 h24 hT h26' hQ h28 h29 h30 c172 c178 c179 σ
  rintro σ W ⟨B, h13, hA, h14, h15, hB, h16, hL, h18, hW, h20', h21, h22, h23, h24, hT, h26', hQ, h28, h29, h30, h31, h32, c172, c178, c179⟩
  -- the answers are the same
  obtain ⟨hA', mA, hdA⟩ := hA
  obtain ⟨hB', mB, hdB⟩ := hB
  have vA := hdA.view (n := 5)
  have vB := hdB.view (n := 5)
  have vL := hL.view
  have vW := hW.view
  have vT := hT.view
  have vQ := hQ.view
  simp only [Mv.cellsW] at mA mB
  refine wwp_condW W (fun σ => TB m L n p q E Mk σ ∧ σ.s 13 = .ptr [14, 0] 0 ∧ BxR aM 14 46 σ.m ∧ σ.s 14 = iv eT ∧ σ.s 16 = iv eT ∧ HdI (σ.s 17) RL 58 σ.m ∧ σ.s 18 = iv eL ∧ σ.s 20 = iv eL ∧ σ.s 22 = iv ex ∧ σ.s 24 = iv ex ∧ HdT (σ.s 25) Ls 83 σ.m ∧ σ.s 26 = iv eB ∧ σ.s 28 = iv eB ∧ σ.s 30 = iv eu ∧ σ.s 32 = iv eu ∧ σ.c 172 = 0 ∧ σ.c 178 = 0 ∧ σ.c 179 = 0) ?_ ?_
  · simp [B.s1, B.s2, B.s3, B.s4, B.s5, B.m6, B.s11, B.m12, B.s12, B.m40, B.m42, htk, hti, hle, hli, h13, h14, h15, h16, h18, h20', h21, h22, h23, h24, h26', h28, h29, h30, h31, h32, c172, c178, c179, mA, mB, vA, vB, vL, vW, vT, vQ, h48, h38, h30p, h27, h49]
    exact ⟨⟨by simp [B.s1], by simp [B.s2], by simp [B.s3], by simp [B.s4], by simp [B.s5], by simp [B.m6], by simp [B.s11], by simp [B.m12], by simp [B.s12], by simp [B.m40], by simp [B.m42]⟩, ⟨hA', by simpa [Mv.cellsW] using mA, hdA.mono fun r o h => by simp [h]⟩, hL.mono fun r o h => by simp [h], hT.mono fun r o h => by simp [h]⟩
  clear W B h13 mA hdA vA h14 h15 mB hdB vB h16 hL vL h18 hW vW h20' h21 h22 h23 h24 hT vT h26' hQ vQ h28 h29 h30 h31 h32 c172 c178 c179 hA' hB' σ
  rintro σ W ⟨B, h13, hA, h14, h16, hL, h18, h20', h22, h24, hT, h26', h28, h30, h32, c172, c178, c179⟩
  refine wwp_seq_assoc ?_
  refine wwp_cutN 4 W (fun σ => TB m L n p q E Mk σ ∧ σ.s 13 = .ptr [14, 0] 0 ∧ BxR aM 14 46 σ.m ∧ HdI (σ.s 17) RL 58 σ.m ∧ HdT (σ.s 25) Ls 83 σ.m ∧ σ.c 172 = 0 ∧ σ.c 178 = 0 ∧ σ.c 179 = 0 ∧ σ.s 18 = iv eL ∧ σ.s 20 = iv eL ∧ σ.s 22 = iv ex ∧ σ.s 24 = iv ex ∧ σ.s 26 = iv eB ∧ σ.s 28 = iv eB ∧ σ.s 30 = iv eu ∧ σ.s 32 = iv eu ∧ σ.s 136 = bv false) ?_ ?_
  · simp [h13, h14, h18, h22, h26', h30, h16, h20', h24, h28, h32, c172, c178, c179]
    exact ⟨⟨by simp [B.s1], by simp [B.s2], by simp [B.s3], by simp [B.s4], by simp [B.s5], by simp [B.m6], by simp [B.s11], by simp [B.m12], by simp [B.s12], by simp [B.m40], by simp [B.m42]⟩, hA.mono (fun o h => by simp [h]) fun r o h => by simp [h], hL.mono fun r o h => by simp [h], hT.mono fun r o h => by simp [h]⟩
  clear W B h13 hA hL hT c172 c178 c179 h14 h18 h22 h26' h30 h16 h20' h24 h28 h32  σ
  rintro σ W ⟨B, h13, hA, hL, hT, c172, c178, c179, h18, h20', h22, h24, h26', h28, h30, h32, hg⟩
  simp only [List.drop_succ_cons, List.drop_zero]
  refine wwp_cutN 5 W (fun σ => TB m L n p q E Mk σ ∧ σ.s 13 = .ptr [14, 0] 0 ∧ BxR aM 14 46 σ.m ∧ HdI (σ.s 17) RL 58 σ.m ∧ HdT (σ.s 25) Ls 83 σ.m ∧ σ.c 172 = 0 ∧ σ.c 178 = 0 ∧ σ.c 179 = 0 ∧ σ.s 22 = iv ex ∧ σ.s 24 = iv ex ∧ σ.s 26 = iv eB ∧ σ.s 28 = iv eB ∧ σ.s 30 = iv eu ∧ σ.s 32 = iv eu ∧ σ.s 141 = bv false) ?_ ?_
  · simp [h13, h18, h22, h26', h30, h20', h24, h28, h32, c172, c178, c179, hg]
    exact ⟨⟨by simp [B.s1], by simp [B.s2], by simp [B.s3], by simp [B.s4], by simp [B.s5], by simp [B.m6], by simp [B.s11], by simp [B.m12], by simp [B.s12], by simp [B.m40], by simp [B.m42]⟩, hA.mono (fun o h => by simp [h]) fun r o h => by simp [h], hL.mono fun r o h => by simp [h], hT.mono fun r o h => by simp [h]⟩
  clear W B h13 hA hL hT c172 c178 c179 h18 h22 h26' h30 h20' h24 h28 h32 hg σ
  rintro σ W ⟨B, h13, hA, hL, hT, c172, c178, c179, h22, h24, h26', h28, h30, h32, hg⟩
  simp only [List.drop_succ_cons, List.drop_zero]
  refine wwp_cutN 5 W (fun σ => TB m L n p q E Mk σ ∧ σ.s 13 = .ptr [14, 0] 0 ∧ BxR aM 14 46 σ.m ∧ HdI (σ.s 17) RL 58 σ.m ∧ HdT (σ.s 25) Ls 83 σ.m ∧ σ.c 172 = 0 ∧ σ.c 178 = 0 ∧ σ.c 179 = 0 ∧ σ.s 26 = iv eB ∧ σ.s 28 = iv eB ∧ σ.s 30 = iv eu ∧ σ.s 32 = iv eu ∧ σ.s 146 = bv false) ?_ ?_
  · simp [h13, h22, h26', h30, h24, h28, h32, c172, c178, c179, hg]
    exact ⟨⟨by simp [B.s1], by simp [B.s2], by simp [B.s3], by simp [B.s4], by simp [B.s5], by simp [B.m6], by simp [B.s11], by simp [B.m12], by simp [B.s12], by simp [B.m40], by simp [B.m42]⟩, hA.mono (fun o h => by simp [h]) fun r o h => by simp [h], hL.mono fun r o h => by simp [h], hT.mono fun r o h => by simp [h]⟩
  clear W B h13 hA hL hT c172 c178 c179 h22 h26' h30 h24 h28 h32 hg σ
  rintro σ W ⟨B, h13, hA, hL, hT, c172, c178, c179, h26', h28, h30, h32, hg⟩
  simp only [List.drop_succ_cons, List.drop_zero]
  refine wwp_cutN 5 W (fun σ => TB m L n p q E Mk σ ∧ σ.s 13 = .ptr [14, 0] 0 ∧ BxR aM 14 46 σ.m ∧ HdI (σ.s 17) RL 58 σ.m ∧ HdT (σ.s 25) Ls 83 σ.m ∧ σ.c 172 = 0 ∧ σ.c 178 = 0 ∧ σ.c 179 = 0 ∧ σ.s 30 = iv eu ∧ σ.s 32 = iv eu ∧ σ.s 151 = bv false) ?_ ?_
  · simp [h13, h26', h30, h28, h32, c172, c178, c179, hg]
    exact ⟨⟨by simp [B.s1], by simp [B.s2], by simp [B.s3], by simp [B.s4], by simp [B.s5], by simp [B.m6], by simp [B.s11], by simp [B.m12], by simp [B.s12], by simp [B.m40], by simp [B.m42]⟩, hA.mono (fun o h => by simp [h]) fun r o h => by simp [h], hL.mono fun r o h => by simp [h], hT.mono fun r o h => by simp [h]⟩
  clear W B h13 hA hL hT c172 c178 c179 h26' h30 h28 h32 hg σ
  rintro σ W ⟨B, h13, hA, hL, hT, c172, c178, c179, h30, h32, hg⟩
  simp only [List.drop_succ_cons, List.drop_zero]
  refine wwp_cutN 5 W (fun σ => TB m L n p q E Mk σ ∧ σ.s 13 = .ptr [14, 0] 0 ∧ BxR aM 14 46 σ.m ∧ HdI (σ.s 17) RL 58 σ.m ∧ HdT (σ.s 25) Ls 83 σ.m ∧ σ.c 172 = 0 ∧ σ.c 178 = 0 ∧ σ.c 179 = 0 ∧ σ.s 156 = bv false) ?_ ?_
  · simp [h13, h30, h32, c172, c178, c179, hg]
    exact ⟨⟨by simp [B.s1], by simp [B.s2], by simp [B.s3], by simp [B.s4], by simp [B.s5], by simp [B.m6], by simp [B.s11], by simp [B.m12], by simp [B.s12], by simp [B.m40], by simp [B.m42]⟩, hA.mono (fun o h => by simp [h]) fun r o h => by simp [h], hL.mono fun r o h => by simp [h], hT.mono fun r o h => by simp [h]⟩
  clear W B h13 hA hL hT c172 c178 c179 h30 h32 hg σ
  rintro σ W ⟨B, h13, hA, hL, hT, c172, c178, c179, h156⟩
  simp only [List.drop_succ_cons, List.drop_zero]
  refine wwp_cutN 2 W (fun σ => TB m L n p q E Mk σ ∧ σ.s 13 = .ptr [14, 0] 0 ∧ BxR aM 14 46 σ.m ∧ HdI (σ.s 17) RL 58 σ.m ∧ HdT (σ.s 25) Ls 83 σ.m ∧ σ.c 172 = 0 ∧ σ.c 178 = 0 ∧ σ.c 179 = 0 ∧ σ.s 156 = bv false ∧ σ.s 157 = .agg [iv m.t, iv m.r, iv m.s, iv m.c, iv m.w, .sl [40, 0] 5 0 m.rows.length none] ∧ σ.s 158 = .agg [iv m.t, iv m.r, iv m.s, iv m.c, iv m.w, .list (rowsL m.rows)]) ?_ ?_
  · simp [B.s5, B.m6, B.s11, B.m12, h13, c172, c178, c179, h156]
    exact ⟨⟨by simp [B.s1], by simp [B.s2], by simp [B.s3], by simp [B.s4], by simp [B.s5], by simp [B.m6], by simp [B.s11], by simp [B.m12], by simp [B.s12], by simp [B.m40], by simp [B.m42]⟩, hA.mono (fun o h => by simp [h]) fun r o h => by simp [h], hL.mono fun r o h => by simp [h], hT.mono fun r o h => by simp [h]⟩
  clear W B h13 hA hL hT c172 c178 c179 h156 σ
  rintro σ W ⟨B, h13, hA, hL, hT, c172, c178, c179, h156, h157, h158⟩
  simp only [List.drop_succ_cons, List.drop_zero]
  have e36 := h36 σ.m B.m40
  refine wwp_cutN 1 W (fun σ => TB m L n p q E Mk σ ∧ σ.s 13 = .ptr [14, 0] 0 ∧ BxR aM 14 46 σ.m ∧ HdI (σ.s 17) RL 58 σ.m ∧ HdT (σ.s 25) Ls 83 σ.m ∧ σ.c 172 = 0 ∧ σ.c 178 = 0 ∧ σ.c 179 = 0 ∧ σ.s 156 = bv false ∧ σ.s 159 = bv true) ?_ ?_
  · simp [h13, c172, c178, c179, h156, h157, h158, e36]
    exact ⟨B.keep W 159 (by omega) _, hA.keep W 159 _, hL.keep W 159 _, hT.keep W 159 _⟩
  clear W B h13 hA hL hT c172 c178 c179 h156 h157 h158 e36 σ
  rintro σ W ⟨B, h13, hA, hL, hT, c172, c178, c179, h156, h159⟩
  simp only [List.drop_succ_cons, List.drop_zero]
  refine wwp_cutN 5 W (fun σ => TB m L n p q E Mk σ ∧ σ.s 13 = .ptr [14, 0] 0 ∧ BxR aM 14 46 σ.m ∧ HdI (σ.s 17) RL 58 σ.m ∧ HdT (σ.s 25) Ls 83 σ.m ∧ σ.c 172 = 0 ∧ σ.c 178 = 0 ∧ σ.c 179 = 0 ∧ σ.s 162 = bv false ∧ σ.s 163 = .sl [42, 0] 1 0 L.length none ∧ σ.s 164 = .list (ints L)) ?_ ?_
  · simp [B.s1, B.s12, h13, c172, c178, c179, h156, h159]
    exact ⟨⟨by simp [B.s1], by simp [B.s2], by simp [B.s3], by simp [B.s4], by simp [B.s5], by simp [B.m6], by simp [B.s11], by simp [B.m12], by simp [B.s12], by simp [B.m40], by simp [B.m42]⟩, hA.mono (fun o h => by simp [h]) fun r o h => by simp [h], hL.mono fun r o h => by simp [h], hT.mono fun r o h => by simp [h]⟩
  clear W B h13 hA hL hT c172 c178 c179 h156 h159 σ
  rintro σ W ⟨B, h13, hA, hL, hT, c172, c178, c179, h162, h163, h164⟩
  simp only [List.drop_succ_cons, List.drop_zero]
  have e50 := h50 σ.m B.m42
  refine wwp_cutN 1 W (fun σ => TB m L n p q E Mk σ ∧ σ.s 13 = .ptr [14, 0] 0 ∧ BxR aM 14 46 σ.m ∧ HdI (σ.s 17) RL 58 σ.m ∧ HdT (σ.s 25) Ls 83 σ.m ∧ σ.c 172 = 0 ∧ σ.c 178 = 0 ∧ σ.c 179 = 0 ∧ σ.s 162 = bv false ∧ σ.s 165 = bv true) ?_ ?_
  · simp [h13, c172, c178, c179, h162, h163, h164, e50]
    exact ⟨B.keep W 165 (by omega) _, hA.keep W 165 _, hL.keep W 165 _, hT.keep W 165 _⟩
  clear W B h13 hA hL hT c172 c178 c179 h162 h163 h164 e50 σ
  rintro σ W ⟨B, h13, hA, hL, hT, c172, c178, c179, h162, h165⟩
  simp only [List.drop_succ_cons, List.drop_zero]
  refine wwp_cutW W (fun σ => TB m L n p q E Mk σ ∧ σ.s 13 = .ptr [14, 0] 0 ∧ BxR aM 14 46 σ.m ∧ HdI (σ.s 17) RL 58 σ.m ∧ HdT (σ.s 25) Ls 83 σ.m ∧ σ.c 172 = 0 ∧ σ.c 178 = 0 ∧ σ.c 179 = 0 ∧ σ.s 167 = bv false) ?_ ?_
  · simp [h13, c172, c178, c179, h162, h165]
    exact ⟨⟨by simp [B.s1], by simp [B.s2], by simp [B.s3], by simp [B.s4], by simp [B.s5], by simp [B.m6], by simp [B.s11], by simp [B.m12], by simp [B.s12], by simp [B.m40], by simp [B.m42]⟩, hA.mono (fun o h => by simp [h]) fun r o h => by simp [h], hL.mono fun r o h => by simp [h], hT.mono fun r o h => by simp [h]⟩
  clear W B h13 hA hL hT c172 c178 c179 h162 h165 σ
  rintro σ W ⟨B, h13, hA, hL, hT, c172, c178, c179, h167⟩
  refine wwp_cutG (fun σ' => σ' = σ) (by simp [h167]) ?_
  rintro σ' rfl
  -- apart
  obtain ⟨hA', mA, hdA⟩ := hA
  simp only [Mv.cellsW] at mA
  have okA : hA'.okC = true ∧ hA'.cells = [hA'] := by rcases hdA with ⟨rfl, _⟩ | ⟨r, g, rfl, _⟩ <;> exact ⟨rfl, rfl⟩
  obtain ⟨okA1, okA2⟩ := okA
  refine wwp_cutN 2 W (fun σ => σ.s 12 = .sl [42, 0] 1 0 L.length none ∧ σ.m [40, 0] = some (.row [40, 0, 0] 53 (rowsL (m.rows ++ E))) ∧ σ.m [42, 0] = some (.row [42, 0, 0] 3 (ints (L ++ Mk))) ∧ HdR hA' aM.rows 46 σ.m ∧ HdI (σ.s 17) RL 58 σ.m ∧ HdT (σ.s 25) Ls 83 σ.m ∧ σ.c 178 = 0 ∧ σ.c 179 = 0 ∧ σ.s 172 = .sl [173, 0] 1 0 2 none ∧ σ.m [173, 0] = some (.row [173, 0] 22 [[.sl [40, 0] 5 0 m.rows.length none], [hA']])) ?_ ?_
  · simp [B.s11, B.m12, B.s12, B.m40, B.m42, h13, mA, okA1, okA2, c172, c178, c179]
    exact ⟨hdA.mono fun r o h => by simp [h], hL.mono fun r o h => by simp [h], hT.mono fun r o h => by simp [h]⟩
  clear W B h13 mA hdA hL hT c172 c178 c179 h167 okA1 okA2 σ'
  rintro σ W ⟨s12, m40, m42, hdA, hL, hT, c178, c179, h172, m173⟩
  simp only [List.drop_succ_cons, List.drop_zero]
  obtain ⟨D', e51, hD'⟩ := apartR m40 hdA m173 hm60 hR60
  have k40 : ∀ {τ o}, σ.m τ = some o → (∀ g, o.grp = some g → g ≠ [40, 0, 0] ∧ ∀ r, g ≠ 46 :: r) → (σ.adoptM 173 (bv true) D').m τ = some (o.ren fun t => t) := fun h hg => adoptM_gen W h 173 (bv true) (hD' _ _ h hg)
  refine wwp_cutN 1 W (fun σ => σ.s 12 = .sl [42, 0] 1 0 L.length none ∧ σ.m [42, 0] = some (.row [42, 0, 0] 3 (ints (L ++ Mk))) ∧ HdI (σ.s 17) RL 58 σ.m ∧ HdT (σ.s 25) Ls 83 σ.m ∧ σ.c 178 = 0 ∧ σ.c 179 = 0 ∧ σ.s 173 = bv true) ?_ ?_
  · simp [s12, c178, c179, h172, e51]
    refine ⟨?_, ?_, ?_⟩
    · rw [k40 m42 (fun g hg => by cases hg; exact ⟨by simp, by simp⟩)]; simp
    · rcases hL with h | ⟨r, g, h1, h2⟩
      · exact .inl h
      · exact .inr ⟨r, g, h1, by rw [k40 h2 (fun g hg => by cases hg; exact ⟨by simp, by simp⟩)]; simp⟩
    · rcases hT with h | ⟨h0, h1, h2, h3⟩
      · exact .inl h
      · exact .inr ⟨h0, h1, by rw [k40 h2 (fun g hg => by cases hg; exact ⟨by simp, by simp⟩)]; simp only [HO.ren, hdsF_ren], fun i L hi hL => by rw [k40 (h3 i L hi hL) (fun g hg => by cases hg; exact ⟨by simp [grT], by simp [grT]⟩)]; simp⟩
  clear W m40 hdA m173 h172 e51 hD' k40 D' s12 m42 hL hT c178 c179 σ
  rintro σ W ⟨s12, m42, hL, hT, c178, c179, h173⟩
  simp only [List.drop_succ_cons, List.drop_zero]
  obtain ⟨hLd, hhL⟩ : ∃ hLd, hLd = σ.s 17 := ⟨_, rfl⟩
  rw [← hhL] at hL
  have okL : hLd.okC = true ∧ hLd.cells = [hLd] := by rcases hL with ⟨rfl, _⟩ | ⟨r, g, rfl, _⟩ <;> exact ⟨rfl, rfl⟩
  obtain ⟨okL1, okL2⟩ := okL
  have s17 : σ.s 17 = hLd := hhL.symm
  clear hhL
  refine wwp_cutN 6 W (fun σ => σ.s 174 = bv true ∧ σ.m [42, 0] = some (.row [42, 0, 0] 3 (ints (L ++ Mk))) ∧ HdI hLd RL 58 σ.m ∧ σ.s 179 = .sl [180, 0] 1 0 (Ls.length + 2) none ∧ LsF (tkT 83) (grT 83) σ.m 0 Ls ∧ ∃ lg, (lg = [180, 0] ∨ lg = [83, 0, 0]) ∧ σ.m [180, 0] = some (.row lg 34 (hdsF (tkT 83) 0 Ls ++ [[.sl [42, 0] 1 0 L.length none], [hLd]]))) ?_ ?_
  · rcases hT with ⟨s25, rfl⟩ | ⟨h0, s25, m83, hls⟩
    · have h2m : 2 ≤ maxMade := maxMade_le (by omega)
      simp [s12, s17, s25, m42, h173, okL1, okL2, c178, c179, hdsF, h2m]
      exact ⟨hL.mono fun r o h => by simp [h], fun i L hi => by simp at hi⟩
    · have hfl := hdsF_len (tkT 83) Ls 0
      have hmx : Ls.length + 2 ≤ maxMade := maxMade_le (by omega)
      obtain ⟨X, hX⟩ : ∃ X, X = hdsF (tkT 83) 0 Ls := ⟨_, rfl⟩
      rw [← hX] at m83 hfl ⊢
      have htx : X.take Ls.length = X := List.take_of_length_le (by omega)
      simp [s12, s17, s25, m42, m83, h173, okL1, okL2, c178, c179, hfl, hmx, htx]
      refine ⟨?_, fun i L hi hne => ?_⟩
      · rcases hL with h | ⟨r, g, h1, h2⟩
        · exact .inl h
        · exact .inr ⟨r, g, h1, by simp [h2]⟩
      · have := hls i L hi hne
        simp [tkT, grT] at this ⊢
        simp [this]
  clear W s12 m42 hL hT c178 c179 h173 s17 σ
  rintro σ W ⟨h174, m42, hL, h179, hls, lg, hlg, m180⟩
  simp only [List.drop_succ_cons, List.drop_zero]
  obtain ⟨D', e52⟩ := apartI m42 hL hls hne hlg m180 hl60 hRL60 hLs60 hLl60
  simp [h174, h179, e52]
end Go.Proofs.Ytpmgaaalfdjikaa
namespace Go.Proofs.Ytpmgaaalfdjikaa
open Go.RowKit
set_option linter.unusedSimpArgs false
set_option linter.unusedVariables false

theorem c21q (q17 : FQ) (m17 : FM) (p25 p45 p18 p47 p48 p38 p30 p27 p49 p32 : FP) (q43 q20 q44 q26 q46 q33 q42 : FQ) (m36 m50 : FM) (m : Mv) (L : List Int) (n p q : Int) (E : List Row) (Mk : List Int) (aM : Mv) (eT : Int) (post : St → Prop)
    (h32 : p32 [.agg [iv m.t, iv m.r, iv m.s, iv m.c, iv m.w, .list (rowsL m.rows)], .list (lists [L])] = some (bv true))
    (h33 : q33 [.agg [iv m.t, iv m.r, iv m.s, iv m.c, iv m.w, .list (rowsL m.rows)]] = some (.agg [iv m.t, iv m.r, iv m.s, iv m.c, iv m.w, .sl [] 5 0 m.rows.length none], rowMem 53 (rowsL (m.rows ++ E))))
    (h42 : q42 [.list (ints L)] = some (.sl [] 1 0 L.length none, rowMem 3 (ints (L ++ Mk))))
    (hA : D) (MA : Mem) (hA0 : PreR hA aM.rows MA) (h17 : q17 [.agg [iv m.t, iv m.r, iv m.s, iv m.c, iv m.w, .list (rowsL m.rows)], .list (ints L)] = some (.tup [.agg (aM.cellsW hA), iv eT], MA))
    (htail : ∀ σ, WF σ → T3 m L n p q E Mk aM eT σ → wwp (mkEnv [(32, p32), (25, p25), (45, p45), (18, p18), (47, p47), (48, p48), (38, p38), (30, p30), (27, p27), (49, p49)] [(17, q17), (43, q43), (20, q20), (44, q44), (26, q26), (46, q46), (33, q33), (42, q42)] [(17, m17), (36, m36), (50, m50), (51, S51), (52, S52)]) W21T (fun e s => okExit e ∧ resV [.t 10] s = some (bv true)) σ) :
    wwp (mkEnv [(32, p32), (25, p25), (45, p45), (18, p18), (47, p47), (48, p48), (38, p38), (30, p30), (27, p27), (49, p49)] [(17, q17), (43, q43), (20, q20), (44, q44), (26, q26), (46, q46), (33, q33), (42, q42)] [(17, m17), (36, m36), (50, m50), (51, S51), (52, S52)]) W21.1 (fun e s => okExit e ∧ resV W21.2 s = some (bv true)) (initV [.agg m.cells, .list (ints L), iv n, iv p, iv q]) := by
  have htk : (rowsL (m.rows ++ E)).take m.rows.length = rowsL m.rows := by rw [rowsL_append]; exact List.take_left' (by simp)
  have hti : (ints (L ++ Mk)).take L.length = ints L := by rw [ints_append]; exact List.take_left' (by simp)
  have hle : m.rows.length ≤ (rowsL (m.rows ++ E)).length := by simp
  have hli : L.length ≤ (ints (L ++ Mk)).length := by simp
  have h32' : p32 [.agg [iv m.t, iv m.r, iv m.s, iv m.c, iv m.w, .list (rowsL m.rows)], .list [[.list (ints L)]]] = some (bv true) := h32
  simp only [W21]
  refine wwp_cutW (wf_init _) (fun σ => σ.s 1 = .list (ints L) ∧ σ.s 2 = iv n ∧ σ.s 3 = iv p ∧ σ.s 4 = iv q ∧ σ.s 5 = .ptr [6, 0] 0 ∧ σ.m [6, 0] = some (.box [iv m.t, iv m.r, iv m.s, iv m.c, iv m.w, .list (rowsL m.rows)]) ∧ σ.c 35 = 0 ∧ σ.c 11 = 0 ∧ σ.c 13 = 0 ∧ σ.c 39 = 0 ∧ σ.c 41 = 0 ∧ σ.c 45 = 0 ∧ σ.c 15 = 0 ∧ σ.c 51 = 0 ∧ σ.c 57 = 0 ∧ σ.c 63 = 0 ∧ σ.c 82 = 0 ∧ σ.c 87 = 0 ∧ σ.c 172 = 0 ∧ σ.c 178 = 0 ∧ σ.c 179 = 0) (by simp [Mv.cells, Mv.cellsW]) ?_
  rintro σ W ⟨h1, h2, h3, h4, h5, m6, c35, c11, c13, c39, c41, c45, c15, c51, c57, c63, c82, c87, c172, c178, c179⟩
  refine wwp_condW W (fun σ => σ.s 1 = .list (ints L) ∧ σ.s 2 = iv n ∧ σ.s 3 = iv p ∧ σ.s 4 = iv q ∧ σ.s 5 = .ptr [6, 0] 0 ∧ σ.m [6, 0] = some (.box [iv m.t, iv m.r, iv m.s, iv m.c, iv m.w, .list (rowsL m.rows)]) ∧ σ.c 11 = 0 ∧ σ.c 13 = 0 ∧ σ.c 39 = 0 ∧ σ.c 41 = 0 ∧ σ.c 45 = 0 ∧ σ.c 15 = 0 ∧ σ.c 51 = 0 ∧ σ.c 57 = 0 ∧ σ.c 63 = 0 ∧ σ.c 82 = 0 ∧ σ.c 87 = 0 ∧ σ.c 172 = 0 ∧ σ.c 178 = 0 ∧ σ.c 179 = 0) (by simp [h1, h2, h3, h4, h5, m6, c35, c11, c13, c39, c41, c45, c15, c51, c57, c63, c82, c87, c172, c178, c179, h32']) ?_
  clear W h1 h2 h3 h4 h5 m6 c35 c11 c13 c39 c41 c45 c15 c51 c57 c63 c82 c87 c172 c178 c179 σ
  rintro σ W ⟨h1, h2, h3, h4, h5, m6, c11, c13, c39, c41, c45, c15, c51, c57, c63, c82, c87, c172, c178, c179⟩
  refine wwp_cutW W (fun σ => TB m L n p q E Mk σ ∧ σ.c 13 = 0 ∧ σ.c 45 = 0 ∧ σ.c 15 = 0 ∧ σ.c 51 = 0 ∧ σ.c 57 = 0 ∧ σ.c 63 = 0 ∧ σ.c 82 = 0 ∧ σ.c 87 = 0 ∧ σ.c 172 = 0 ∧ σ.c 178 = 0 ∧ σ.c 179 = 0) ?_ ?_
  · simp [h1, h2, h3, h4, h5, m6, c11, c13, c39, c41, c45, c15, c51, c57, c63, c82, c87, c172, c178, c179, h33, h42, putAt]
    exact ⟨by simp [h1], by simp [h2], by simp [h3], by simp [h4], by simp [h5], by simp [m6], by simp [c11], by simp [c11], by simp [c41], by simp [c39], by simp [c41]⟩
  clear W h1 h2 h3 h4 h5 m6 c11 c13 c39 c41 c45 c15 c51 c57 c63 c82 c87 c172 c178 c179 σ
  rintro σ W ⟨B, c13, c45, c15, c51, c57, c63, c82, c87, c172, c178, c179⟩
  refine wwp_cutW W (T3 m L n p q E Mk aM eT) ?_ htail
  rcases hA0 with ⟨rfl, rfl, hR⟩ | ⟨rfl, rfl⟩
  · simp [B.s5, B.m6, B.s11, B.m12, B.s12, B.m40, B.m42, htk, hti, hle, hli, h17, putAt, Mv.cellsW, c13, c45, c15, c51, c57, c63, c82, c87, c172, c178, c179]
    exact ⟨⟨by simp [B.s1], by simp [B.s2], by simp [B.s3], by simp [B.s4], by simp [B.s5], by simp [B.m6], by simp [B.s11], by simp [B.m12], by simp [B.s12], by simp [B.m40], by simp [B.m42]⟩, by simp [c13], ⟨.nil, by simp [c13, Mv.cellsW], .inl ⟨rfl, hR⟩⟩, by simp, by simp [c13, c45, c15, c51, c57, c63, c82, c87, c172, c178, c179]⟩
  · simp [B.s5, B.m6, B.s11, B.m12, B.s12, B.m40, B.m42, htk, hti, hle, hli, h17, putAt, Mv.cellsW, c13, c45, c15, c51, c57, c63, c82, c87, c172, c178, c179]
    exact ⟨⟨by simp [B.s1], by simp [B.s2], by simp [B.s3], by simp [B.s4], by simp [B.s5], by simp [B.m6], by simp [B.s11], by simp [B.m12], by simp [B.s12], by simp [B.m40], by simp [B.m42]⟩, by simp [c13], ⟨.sl [46, 0] 5 0 aM.rows.length none, by simp [c13, Mv.cellsW], .inr ⟨[], [0], rfl, by simp [c45]⟩⟩, by simp, by simp [c13, c45, c15, c51, c57, c63, c82, c87, c172, c178, c179]⟩
theorem c21m (q17 : FQ) (m17 : FM) (p25 p45 p18 p47 p48 p38 p30 p27 p49 p32 : FP) (q43 q20 q44 q26 q46 q33 q42 : FQ) (m36 m50 : FM) (m : Mv) (L : List Int) (n p q : Int) (E : List Row) (Mk : List Int) (aM : Mv) (eT : Int) (post : St → Prop)
    (h32 : p32 [.agg [iv m.t, iv m.r, iv m.s, iv m.c, iv m.w, .list (rowsL m.rows)], .list (lists [L])] = some (bv true))
    (h33 : q33 [.agg [iv m.t, iv m.r, iv m.s, iv m.c, iv m.w, .list (rowsL m.rows)]] = some (.agg [iv m.t, iv m.r, iv m.s, iv m.c, iv m.w, .sl [] 5 0 m.rows.length none], rowMem 53 (rowsL (m.rows ++ E))))
    (h42 : q42 [.list (ints L)] = some (.sl [] 1 0 L.length none, rowMem 3 (ints (L ++ Mk))))
    (hA0 : aM.rows = []) (h17 : ∀ M : Mem, M [40, 0] = some (.row [40, 0, 0] 53 (rowsL (m.rows ++ E))) → M [42, 0] = some (.row [42, 0, 0] 3 (ints (L ++ Mk))) → m17 M [.agg [iv m.t, iv m.r, iv m.s, iv m.c, iv m.w, .sl [40, 0] 5 0 m.rows.length none], .sl [42, 0] 1 0 L.length none] = some (.tup [.agg (aM.cellsW (.sl [1] 5 0 0 none)), iv eT], oneM M (rowMem 53 [])))
    (htail : ∀ σ, WF σ → T3 m L n p q E Mk aM eT σ → wwp (mkEnv [(32, p32), (25, p25), (45, p45), (18, p18), (47, p47), (48, p48), (38, p38), (30, p30), (27, p27), (49, p49)] [(17, q17), (43, q43), (20, q20), (44, q44), (26, q26), (46, q46), (33, q33), (42, q42)] [(17, m17), (36, m36), (50, m50), (51, S51), (52, S52)]) W21T (fun e s => okExit e ∧ resV [.t 10] s = some (bv true)) σ) :
    wwp (mkEnv [(32, p32), (25, p25), (45, p45), (18, p18), (47, p47), (48, p48), (38, p38), (30, p30), (27, p27), (49, p49)] [(17, q17), (43, q43), (20, q20), (44, q44), (26, q26), (46, q46), (33, q33), (42, q42)] [(17, m17), (36, m36), (50, m50), (51, S51), (52, S52)]) WH21.1 (fun e s => okExit e ∧ resV WH21.2 s = some (bv true)) (initV [.agg m.cells, .list (ints L), iv n, iv p, iv q]) := by
  have htk : (rowsL (m.rows ++ E)).take m.rows.length = rowsL m.rows := by rw [rowsL_append]; exact List.take_left' (by simp)
  have hti : (ints (L ++ Mk)).take L.length = ints L := by rw [ints_append]; exact List.take_left' (by simp)
  have hle : m.rows.length ≤ (rowsL (m.rows ++ E)).length := by simp
  have hli : L.length ≤ (ints (L ++ Mk)).length := by simp
  have h32' : p32 [.agg [iv m.t, iv m.r, iv m.s, iv m.c, iv m.w, .list (rowsL m.rows)], .list [[.list (ints L)]]] = some (bv true) := h32
  simp only [WH21]
  refine wwp_cutW (wf_init _) (fun σ => σ.s 1 = .list (ints L) ∧ σ.s 2 = iv n ∧ σ.s 3 = iv p ∧ σ.s 4 = iv q ∧ σ.s 5 = .ptr [6, 0] 0 ∧ σ.m [6, 0] = some (.box [iv m.t, iv m.r, iv m.s, iv m.c, iv m.w, .list (rowsL m.rows)]) ∧ σ.c 35 = 0 ∧ σ.c 11 = 0 ∧ σ.c 13 = 0 ∧ σ.c 39 = 0 ∧ σ.c 41 = 0 ∧ σ.c 45 = 0 ∧ σ.c 15 = 0 ∧ σ.c 51 = 0 ∧ σ.c 57 = 0 ∧ σ.c 63 = 0 ∧ σ.c 82 = 0 ∧ σ.c 87 = 0 ∧ σ.c 172 = 0 ∧ σ.c 178 = 0 ∧ σ.c 179 = 0) (by simp [Mv.cells, Mv.cellsW]) ?_
  rintro σ W ⟨h1, h2, h3, h4, h5, m6, c35, c11, c13, c39, c41, c45, c15, c51, c57, c63, c82, c87, c172, c178, c179⟩
  refine wwp_condW W (fun σ => σ.s 1 = .list (ints L) ∧ σ.s 2 = iv n ∧ σ.s 3 = iv p ∧ σ.s 4 = iv q ∧ σ.s 5 = .ptr [6, 0] 0 ∧ σ.m [6, 0] = some (.box [iv m.t, iv m.r, iv m.s, iv m.c, iv m.w, .list (rowsL m.rows)]) ∧ σ.c 11 = 0 ∧ σ.c 13 = 0 ∧ σ.c 39 = 0 ∧ σ.c 41 = 0 ∧ σ.c 45 = 0 ∧ σ.c 15 = 0 ∧ σ.c 51 = 0 ∧ σ.c 57 = 0 ∧ σ.c 63 = 0 ∧ σ.c 82 = 0 ∧ σ.c 87 = 0 ∧ σ.c 172 = 0 ∧ σ.c 178 = 0 ∧ σ.c 179 = 0) (by simp [h1, h2, h3, h4, h5, m6, c35, c11, c13, c39, c41, c45, c15, c51, c57, c63, c82, c87, c172, c178, c179, h32']) ?_
  clear W h1 h2 h3 h4 h5 m6 c35 c11 c13 c39 c41 c45 c15 c51 c57 c63 c82 c87 c172 c178 c179 σ
  rintro σ W ⟨h1, h2, h3, h4, h5, m6, c11, c13, c39, c41, c45, c15, c51, c57, c63, c82, c87, c172, c178, c179⟩
  refine wwp_cutW W (fun σ => TB m L n p q E Mk σ ∧ σ.c 13 = 0 ∧ σ.c 45 = 0 ∧ σ.c 15 = 0 ∧ σ.c 51 = 0 ∧ σ.c 57 = 0 ∧ σ.c 63 = 0 ∧ σ.c 82 = 0 ∧ σ.c 87 = 0 ∧ σ.c 172 = 0 ∧ σ.c 178 = 0 ∧ σ.c 179 = 0) ?_ ?_
  · simp [h1, h2, h3, h4, h5, m6, c11, c13, c39, c41, c45, c15, c51, c57, c63, c82, c87, c172, c178, c179, h33, h42, putAt]
    exact ⟨by simp [h1], by simp [h2], by simp [h3], by simp [h4], by simp [h5], by simp [m6], by simp [c11], by simp [c11], by simp [c41], by simp [c39], by simp [c41]⟩
  clear W h1 h2 h3 h4 h5 m6 c11 c13 c39 c41 c45 c15 c51 c57 c63 c82 c87 c172 c178 c179 σ
  rintro σ W ⟨B, c13, c45, c15, c51, c57, c63, c82, c87, c172, c178, c179⟩
  refine wwp_cutN 1 W (fun σ => TB m L n p q E Mk σ ∧ σ.c 13 = 0 ∧ σ.c 45 = 0 ∧ σ.c 15 = 0 ∧ σ.c 51 = 0 ∧ σ.c 57 = 0 ∧ σ.c 63 = 0 ∧ σ.c 82 = 0 ∧ σ.c 87 = 0 ∧ σ.c 172 = 0 ∧ σ.c 178 = 0 ∧ σ.c 179 = 0 ∧ σ.s 43 = .agg [iv m.t, iv m.r, iv m.s, iv m.c, iv m.w, .sl [40, 0] 5 0 m.rows.length none] ∧ σ.s 44 = .sl [42, 0] 1 0 L.length none) ?_ ?_
  · simp [B.s11, B.m12, B.s12, c13, c45, c15, c51, c57, c63, c82, c87, c172, c178, c179]
    exact ⟨by simp [B.s1], by simp [B.s2], by simp [B.s3], by simp [B.s4], by simp [B.s5], by simp [B.m6], by simp [B.s11], by simp [B.m12], by simp [B.s12], by simp [B.m40], by simp [B.m42]⟩
  clear W B c13 c45 c15 c51 c57 c63 c82 c87 c172 c178 c179 σ
  rintro σ W ⟨B, c13, c45, c15, c51, c57, c63, c82, c87, c172, c178, c179, h43', h44'⟩
  simp only [List.drop_succ_cons, List.drop_zero]
  have e17 := h17 σ.m B.m40 B.m42
  have hk : ∀ {τ o}, σ.m τ = some o → (σ.adoptM 45 (.tup [.agg (aM.cellsW (.sl [1] 5 0 0 none)), iv eT]) (oneM σ.m (rowMem 53 []))).m τ = some (o.ren fun t => t) := fun {τ o} h => adoptM_gen W h 45 _ (by simp only [oneM, h]; rfl)
  have k6 := adoptM_new (σ := σ) (x := 45) (d := .tup [.agg (aM.cellsW (.sl [1] 5 0 0 none)), iv eT]) (m' := oneM σ.m (rowMem 53 [])) (b := 0) (r := [])
  rw [c45] at k6
  refine wwp_cutN 1 W (fun σ => TB m L n p q E Mk σ ∧ σ.c 13 = 0 ∧ σ.c 15 = 0 ∧ σ.c 51 = 0 ∧ σ.c 57 = 0 ∧ σ.c 63 = 0 ∧ σ.c 82 = 0 ∧ σ.c 87 = 0 ∧ σ.c 172 = 0 ∧ σ.c 178 = 0 ∧ σ.c 179 = 0 ∧ σ.s 45 = .tup [.agg [iv aM.t, iv aM.r, iv aM.s, iv aM.c, iv aM.w, .sl [46, 0, 1] 5 0 0 none], iv eT] ∧ σ.m [46, 0, 1] = some (.row [46, 0, 1, 0] 53 [])) ?_ ?_
  · simp [h43', h44', e17, c13, c45, c15, c51, c57, c63, c82, c87, c172, c178, c179]
    have e : ∀ j, j < 20 → (σ.adoptM 45 (.tup [.agg (aM.cellsW (.sl [1] 5 0 0 none)), iv eT]) (oneM σ.m (rowMem 53 []))).s j = σ.s j := fun j hj => by rw [adoptM_s, if_neg (by omega)]
    exact ⟨⟨by rw [e 1 (by omega), B.s1], by rw [e 2 (by omega), B.s2], by rw [e 3 (by omega), B.s3], by rw [e 4 (by omega), B.s4], by rw [e 5 (by omega), B.s5], by rw [hk B.m6]; rfl, by rw [e 11 (by omega), B.s11], by rw [hk B.m12]; rfl, by rw [e 12 (by omega), B.s12], by rw [hk B.m40]; simp, by rw [hk B.m42]; simp⟩, by simp [Mv.cellsW, dnTok], by rw [show ([46, 0, 1] : Tok) = (45 + 1) :: 0 :: (0 + 1) :: [] from rfl, k6]; rfl⟩
  clear W B c13 c45 c15 c51 c57 c63 c82 c87 c172 c178 c179 h43' h44' e17 hk k6 σ
  rintro σ W ⟨B, c13, c15, c51, c57, c63, c82, c87, c172, c178, c179, h45, m46⟩
  simp only [List.drop_succ_cons, List.drop_zero]
  refine wwp_cutW W (T3 m L n p q E Mk aM eT) ?_ htail
  simp [B.s5, B.m6, B.s11, B.m12, B.s12, B.m40, B.m42, h45, m46, putAt, c13, c15, c51, c57, c63, c82, c87, c172, c178, c179]
  exact ⟨⟨by simp [B.s1], by simp [B.s2], by simp [B.s3], by simp [B.s4], by simp [B.s5], by simp [B.m6], by simp [B.s11], by simp [B.m12], by simp [B.s12], by simp [B.m40], by simp [B.m42]⟩, by simp [c13], ⟨.sl [46, 0, 1] 5 0 aM.rows.length none, by simp [c13, Mv.cellsW, hA0], .inr ⟨[1], [1, 0], rfl, by simp [m46, hA0]⟩⟩, by simp, by simp [c13, c15, c51, c57, c63, c82, c87, c172, c178, c179]⟩
open Classical in
noncomputable def S17H (m : Mv) (L : List Int) : FM := fun M ds =>
  if ds = [.agg [iv m.t, iv m.r, iv m.s, iv m.c, iv m.w, .sl [40, 0] 5 0 m.rows.length none], .sl [42, 0] 1 0 L.length none] ∧ ∃ g es, M [42, 0] = some (.row g 3 (ints (L ++ es))) then some (.tup [.agg ((exch m L).cellsW (.sl [1] 5 0 0 none)), iv 0], oneM M (rowMem 53 [])) else none
theorem s17H {m : Mv} {L : List Int} (hr : m.rows = []) (hf : fitB m = true) (hk : listOK m.r (-1) L = true) (hL : L.length ≤ 1000000) : OkM 17 (S17H m L) := fun M ds d m' h => by
  unfold S17H at h
  split at h
  · rename_i hc
    cases h
    obtain ⟨rfl, g, es, hM⟩ := hc
    exact VCm.ofq (c17H m L hr hf hk hL) fun w pr tk vs hpr hM' hrp => by
      match vs, hrp with
      | [v1, v2], hrp =>
        refine ⟨rep_agg_mt (m := m) (d := .sl [40, 0] 5 0 m.rows.length none) hrp.1 fun v h => ?_, viewA_sound (d := .sl [42, 0] 1 0 L.length none) hM' hpr ?_ hrp.2.1, trivial⟩
        · rw [hr] at h; exact rep_sl0 h
        · have hti : (ints (L ++ es)).take L.length = ints L := by rw [ints_append]; exact List.take_left' (by simp)
          simp [hM, hti]
  · cases h
def mvZ : Mv := ⟨0, 0, 0, 0, 0, []⟩
def turnM (m : Mv) (L : List Int) : Mv := if turnE m L = 0 then exch m L else mvZ
theorem turnRef_pre (m : Mv) (L : List Int) : ∃ hB MB, turnRef m L = (.tup [.agg ((turnM m L).cellsW hB), iv (turnE m L)], MB) ∧ PreR hB (turnM m L).rows MB := by
  unfold turnRef turnM turnE
  by_cases hf : fitB m = true
  · by_cases hk : listOK m.r (-1) L = true
    · simp only [hf, hk, if_true]
      by_cases hr : m.rows.isEmpty = true
      · rw [if_pos hr]
        have : (exch m L).rows = [] := by simp [exch, List.isEmpty_iff.1 hr]
        exact ⟨_, _, rfl, .inl ⟨rfl, rfl, this⟩⟩
      · rw [if_neg hr]
        have : (exch m L).rows.length = m.rows.length := by simp [exch]
        exact ⟨_, _, rfl, .inr ⟨by rw [this], rfl⟩⟩
    · simp only [hf, hk, if_true]
      exact ⟨.nil, noMem, rfl, .inl ⟨rfl, rfl, rfl⟩⟩
  · simp only [hf]
    exact ⟨.nil, noMem, rfl, .inl ⟨rfl, rfl, rfl⟩⟩
theorem turnR_pre (m : Mv) (L : List Int) (h : ¬ (turnE m L = 0 ∧ m.rows = [])) : ∃ hB MB, turnR m L = (.tup [.agg ((turnM m L).cellsW hB), iv (turnE m L)], MB) ∧ PreR hB (turnM m L).rows MB := by
  unfold turnR turnM
  by_cases he : turnE m L = 0
  · have hr : ¬ m.rows.isEmpty = true := fun h' => h ⟨he, List.isEmpty_iff.1 h'⟩
    rw [if_pos he, if_neg hr, if_pos he, he]
    have : (exch m L).rows.length = m.rows.length := by simp [exch]
    exact ⟨_, _, rfl, .inr ⟨by rw [this], rfl⟩⟩
  · rw [if_neg he, if_neg he]
    exact ⟨.nil, noMem, rfl, .inl ⟨rfl, rfl, rfl⟩⟩
theorem lastR_pre (m : Mv) (n : Int) : ∃ hL ML RL, lastR m n = (.tup [hL, iv (lastE m n)], ML) ∧ PreI hL RL ML ∧ RL.length ≤ 60 := by
  unfold lastR
  by_cases he : lastE m n = 0
  · rw [if_pos he]
    by_cases h0 : n = 0
    · rw [if_pos h0, he]; exact ⟨_, _, [], rfl, .inl ⟨rfl, rfl, rfl⟩, by simp⟩
    · rw [if_neg h0, he]
      have hb : (lastL m.r n.toNat).length = n.toNat := lastL_len _ _
      refine ⟨_, _, lastL m.r n.toNat, rfl, .inr ⟨by rw [hb], rfl⟩, ?_⟩
      rw [hb]
      unfold lastE at he
      split at he
      · rename_i hf
        obtain ⟨b1, b2, b3, b4, b5⟩ := ((fitB_iff m).1 hf).1
        split at he
        · cases he
        · omega
      · cases he
  · rw [if_neg he]; exact ⟨_, _, [], rfl, .inl ⟨rfl, rfl, rfl⟩, by simp⟩
theorem tableR_pre (m : Mv) : ∃ hT MT Ls eB, tableR m = (.tup [hT, iv eB], MT) ∧ PreT hT Ls MT ∧ Ls.length ≤ 60 ∧ (∀ l ∈ Ls, l.length ≤ 60) ∧ ∀ l ∈ Ls, l ≠ [] := by
  unfold tableR
  by_cases hf : fitB m = true
  · rw [if_pos hf]
    have hg := great_bounds (fit_pairs hf)
    by_cases h0 : (great m.rows).toNat = 0
    · rw [if_pos h0]; exact ⟨_, _, [], 0, rfl, .inl ⟨rfl, rfl, rfl⟩, by simp, by simp, by simp⟩
    · rw [if_neg h0]
      have hl := tabL_len m (great m.rows).toNat
      refine ⟨_, _, tabL m (great m.rows).toNat, 0, rfl, .inr ⟨by omega, by rw [hl], rfl⟩, by omega, fun l hm => ?_, fun l hm => ?_⟩
      · obtain ⟨p, _, rfl⟩ := List.mem_map.1 hm
        simp; omega
      · obtain ⟨p, _, rfl⟩ := List.mem_map.1 hm
        simp; omega
  · rw [if_neg hf]; exact ⟨_, _, [], 290, rfl, .inl ⟨rfl, rfl, rfl⟩, by simp, by simp, by simp⟩
theorem noQ {f : Nat} : OkQ f (fun _ => none) := fun ds d m h => by cases h
theorem noM {f : Nat} : OkM f (fun _ _ => none) := fun m ds d m' h => by cases h
theorem c21 (m : Mv) (L : List Int) (n p q : Int) : VCp Try.prog 21 [.agg m.cells, .list (ints L), iv n, iv p, iv q] (bv true) := by
  have h32 := S32_at m [L]
  cases hfew : fewB m [L] with
  | false =>
    rw [hfew] at h32
    refine wcontract_p (Γ := mkEnv [(32, S32)] [] []) (sound_mk (by simp [s32]) (by simp) (by simp)) mixed is21 (by rw [nt21]; simp) ?_ rfl
    have h32' : S32 [.agg [iv m.t, iv m.r, iv m.s, iv m.c, iv m.w, .list (rowsL m.rows)], .list [[.list (ints L)]]] = some (bv false) := h32
    simp [W21, Mv.cells, Mv.cellsW, h32']
  | true =>
    rw [hfew] at h32
    obtain ⟨f1, _, f3⟩ := few_iff.1 hfew
    have hL50 := f3 L (by simp)
    obtain ⟨hB, MB, eRef, hB0⟩ := turnRef_pre m L
    obtain ⟨hL, ML, RL, eLast, hL0, hRL⟩ := lastR_pre m n
    obtain ⟨hT, MT, Ls, eB, eTab, hT0, hLs, hLl, hne⟩ := tableR_pre m
    have hR60 : (turnM m L).rows.length ≤ 60 := by
      unfold turnM
      split
      · simp [exch]; exact f1
      · simp [mvZ]
    have t43 := S43_at m L (by omega) (by omega)
    rw [eRef] at t43
    have t20 := S20_at m n
    rw [eLast] at t20
    have t44 := S44_at m n (by omega)
    rw [eLast] at t44
    have t26 := S26_at m
    rw [eTab] at t26
    have t46 := S46_at m f1
    rw [eTab] at t46
    have tail : ∀ (q17 : FQ) (m17 : FM) (σ : St), WF σ → T3 m L n p q (marksR 12) (marksI 12) (turnM m L) (turnE m L) σ → wwp (mkEnv [(32, S32), (25, S25), (45, S45), (18, S18), (47, S47), (48, S48), (38, S38), (30, S30), (27, S27), (49, S49)] [(17, q17), (43, S43), (20, S20), (44, S44), (26, S26), (46, S46), (33, S33), (42, S42)] [(17, m17), (36, S36), (50, S50), (51, S51), (52, S52)]) W21T (fun e s => okExit e ∧ resV [.t 10] s = some (bv true)) σ := fun q17 m17 σ W hσ =>
      c21t q17 m17 S25 S45 S18 S47 S48 S38 S30 S27 S49 S32 S43 S20 S44 S26 S46 S33 S42 S36 S50 m L n p q (marksR 12) (marksI 12) (turnM m L) (turnE m L) (lastE m n) (contestR m p q).1 (contestR m p q).2 eB (unbR m).1 (unbR m).2 RL Ls (fitB m)
        hB MB hB0 t43 hL ML hL0 t20 t44 (S25_at m p q) (S45_at m p q f1) hT MT hT0 t26 t46 (S18_at m) (S47_at m f1)
        (S48_self (turnM m L) (by omega)) (by rw [S38_at _ _ (by omega) (by omega)]; simp) (by rw [S30_at _ _ (by omega) (by omega) (fun l h => by have := hLl l h; omega) (fun l h => by have := hLl l h; omega)]; simp) (S27_at m) (S49_at m (by omega))
        (fun M h => S36_at (a := m) h (by omega)) (fun M h => S50_at h (by omega)) f1 hR60 (by omega) hRL hLs hLl hne σ W hσ
    by_cases hsp : turnE m L = 0 ∧ m.rows = []
    · have hf : fitB m = true := by
        cases h : fitB m
        · have := hsp.1; unfold turnE at this; rw [h] at this; cases this
        · rfl
      have hk : listOK m.r (-1) L = true := by
        cases h : listOK m.r (-1) L
        · have := hsp.1; unfold turnE at this; rw [hf, h] at this; cases this
        · rfl
      have eM : turnM m L = exch m L := by unfold turnM; rw [if_pos hsp.1]
      refine wcontract_p (Γ := mkEnv [(32, S32), (25, S25), (45, S45), (18, S18), (47, S47), (48, S48), (38, S38), (30, S30), (27, S27), (49, S49)] [(17, fun _ => none), (43, S43), (20, S20), (44, S44), (26, S26), (46, S46), (33, S33), (42, S42)] [(17, S17H m L), (36, S36), (50, S50), (51, S51), (52, S52)]) (sound_mk (by simp [s32, s25, s45, s18, s47, s48, s38, s30, s27, s49]) (by simp [s43, s20, s44, s26, s46, s33, s42, noQ]) (by simp [s36, s50, s51, s52, s17H hsp.2 hf hk (show L.length ≤ 1000000 by omega)])) mixed isH21 (by rw [nt21]; simp) ?_ rfl
      refine c21m (fun _ => none) (S17H m L) S25 S45 S18 S47 S48 S38 S30 S27 S49 S32 S43 S20 S44 S26 S46 S33 S42 S36 S50 m L n p q (marksR 12) (marksI 12) (turnM m L) (turnE m L) (fun _ => True) h32 (S33_at m (by omega)) (S42_at L (by omega)) (by rw [eM]; simp [exch, hsp.2]) (fun M h1 h2 => ?_) (tail _ _)
      rw [eM, hsp.1]
      unfold S17H
      exact if_pos ⟨rfl, _, _, h2⟩
    · obtain ⟨hA, MA, eT, hA0⟩ := turnR_pre m L hsp
      have t17 := S17_at m L (by omega)
      rw [eT] at t17
      refine wcontract_p (Γ := mkEnv [(32, S32), (25, S25), (45, S45), (18, S18), (47, S47), (48, S48), (38, S38), (30, S30), (27, S27), (49, S49)] [(17, S17), (43, S43), (20, S20), (44, S44), (26, S26), (46, S46), (33, S33), (42, S42)] [(17, fun _ _ => none), (36, S36), (50, S50), (51, S51), (52, S52)]) (sound_mk (by simp [s32, s25, s45, s18, s47, s48, s38, s30, s27, s49]) (by simp [s17, s43, s20, s44, s26, s46, s33, s42]) (by simp [s36, s50, s51, s52, noM])) mixed is21 (by rw [nt21]; simp) ?_ rfl
      exact c21q S17 (fun _ _ => none) S25 S45 S18 S47 S48 S38 S30 S27 S49 S32 S43 S20 S44 S26 S46 S33 S42 S36 S50 m L n p q (marksR 12) (marksI 12) (turnM m L) (turnE m L) (fun _ => True) h32 (S33_at m (by omega)) (S42_at L (by omega)) hA MA hA0 t17 (tail _ _)
end Go.Proofs.Ytpmgaaalfdjikaa
namespace Go.Proofs.Ytpmgaaalfdjikaa
open Go.RowKit Go.ChangeShapes Go.WideShapes Go.ChangeAt
set_option linter.unusedSimpArgs false
set_option linter.unusedVariables false
set_option linter.constructorNameAsVariable false

def W6 : WC × List VRes := ((.seq (.reg [(.stm (.eff (.box 5 (.t 0)) none)), (.set [(10, (.c (.v (.bool false))))] [10])]) (.seq (.reg [(.set [(10, (.ite (.ap (.call 21) [(.ap (.load 6 true) [(.t 5)]), (.t 1), (.t 2), (.t 3), (.t 4)]) (.ap (.call 12) []) (.c (.v (.bool false)))))] [11, 12, 13, 14, 15, 16, 17, 18, 19, 10])]) .ret)), [(.t 10)])
theorem is6 : IsFn Try.prog frOf 6 Try.f6 W6 := ⟨by kernel_rfl, by kernel_rfl, by kernel_rfl⟩
theorem nt6 : Try.f6.ntmps = 20 := by kernel_rfl
def S21 : List D → Option D
  | [.agg xs, .list es, .v (.int .i64 n), .v (.int .i64 p), .v (.int .i64 q)] => (asMv xs).bind fun m => (asInts es).map fun L => bv true
  | _ => none
theorem s21 : OkP 21 S21 := fun ds d h => by
  unfold S21 at h
  split at h
  · rw [Option.bind_eq_some_iff] at h
    obtain ⟨m, hm, h⟩ := h
    obtain ⟨L, hL, rfl⟩ := Option.map_eq_some_iff.1 h
    rw [asMv_eq hm, asInts_eq hL]
    exact c21 m L _ _ _
  · cases h
theorem S21_at (m : Mv) (L : List Int) (n p q : Int) : S21 [.agg m.cells, .list (ints L), iv n, iv p, iv q] = some (bv true) := by
  simp only [S21, asMv_of, Option.bind_some, asInts_ints, Option.map_some]
theorem c6 (m : Mv) (L : List Int) (n p q : Int) : VCp Try.prog 6 [.agg m.cells, .list (ints L), iv n, iv p, iv q] (bv true) := by
  refine wcontract_p (Γ := mkEnv [(21, S21), (12, S12)] [] []) (sound_mk (by simp [s21, s12]) (by simp) (by simp)) mixed is6 (by rw [nt6]; simp) ?_ rfl
  have h21 := S21_at m L n p q
  simp only [Mv.cells, Mv.cellsW] at h21
  simp [W6, Mv.cells, Mv.cellsW, h21, S12]
theorem params6L : Try.f6.params.toList = [24, 34, 3, 3, 3] := by rw [Try.params6]
set_option maxRecDepth 100000 in
theorem tells_args (Ds : List D) (h : ArgsTy Try.prog 4 Try.f6.params.toList Ds) : VCp Try.prog 6 Ds (bv true) := by
  rw [params6L] at h
  obtain ⟨d0, r0, rfl, h0, h⟩ := argsTy_cons h
  obtain ⟨d1, r1, rfl, h1, h⟩ := argsTy_cons h
  obtain ⟨d2, r2, rfl, h2, h⟩ := argsTy_cons h
  obtain ⟨d3, r3, rfl, h3, h⟩ := argsTy_cons h
  obtain ⟨d4, r4, rfl, h4, h⟩ := argsTy_cons h
  obtain rfl := argsTy_nil h
  obtain ⟨m, hm, rfl⟩ := argMv h0
  obtain ⟨L, rfl, hL⟩ := argIs h1
  obtain ⟨n, rfl, _⟩ := argI h2
  obtain ⟨p, rfl, _⟩ := argI h3
  obtain ⟨q, rfl, _⟩ := argI h4
  exact c6 m L n p q
theorem tells_spec {H : Type} (ds : List (DataW H)) (hl : ds.length = Try.f6.params.size) : Rows.turnTellsSpec.fn H ds = { results := [.lit (.bool true)], args := ds } := by
  rw [Try.params6] at hl
  match ds, hl with
  | [a, b, c, d, e], _ => rfl
theorem tells_tys : ∀ t ∈ Try.f6.params.toList, TyOK t := by
  rw [params6L]
  simp [tyOK24, tyOK34, tyOK3]
set_option maxRecDepth 100000 in
theorem tells_lifted (os : Os) (started : os.Started) (H : Type) (enc : TypeId × Value → H) :
    ReturnsInHanded {} Try.checked os 6 .any (Rows.turnTellsSpec.pre6 enc Try.prog Try.f6 Rows.turnTellsRow.domain false) (Rows.turnTellsSpec.post enc Try.prog Try.f6 false true false false) := by
  refine returnsInHanded_of_change (C := Try.checked) own started (by kernel_rfl) Try.func6
    (ChangeSpec.witness6 (enc := enc) (C := Try.checked) false ⟨#[], #[.agg #[.int .i64 0, .int .i64 0, .int .i64 0, .int .i64 0, .int .i64 0, .slice none 0 0], .slice none 0 0, .int .i64 0, .int .i64 0, .int .i64 0], []⟩ 8 (by kernel_rfl) (by kernel_rfl) (by kernel_rfl) (by kernel_rfl)) ?_
  intro W base args ds gs before hval hW _ _
  exact law_contract (P := Try.prog) (fn := Try.f6) (s := Rows.turnTellsSpec) (n := 4) (tb := 4) laidOut rfl tells_spec (by kernel_rfl) Try.underlying4 tells_tys tells_args W base args ds gs before hval hW
/-- The statement. -/
theorem turnTells_holds : Rows.TurnTellsSaid :=
  OpenClaim.holds_of_wide 6 Try.f6 rfl rfl rfl rfl rfl rfl rfl ⟨rfl, rfl, rfl, rfl, rfl⟩ rfl rfl rfl rfl rfl (by kernel_rfl) Try.func6 (by kernel_rfl)
    (of_decide_eq_true (by kernel_rfl)) (by unfold Func.isWrapper; first | (rw [if_pos (by decide +kernel)]; kernel_rfl) | (rw [if_neg (by decide +kernel)]; exact ⟨rfl, rfl⟩))
    (fun os started H enc _ => tells_lifted os started H enc)
end Go.Proofs.Ytpmgaaalfdjikaa
