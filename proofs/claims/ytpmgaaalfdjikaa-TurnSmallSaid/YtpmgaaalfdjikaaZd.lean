/- TurnSmall: the law returns true (last part of the proof). No condition. -/
import Derived.Test.YtpmgaaalfdjikaaZc
namespace Go.Proofs.Ytpmgaaalfdjikaa
open Go.RowKit
set_option linter.unusedSimpArgs false
set_option linter.unusedVariables false
theorem c70Rw (mN mS : FM) (m : Mem) (bt lt : Tok) (K : Nat) (B : Mem) (hN : ∀ M,mN M [.nil] = some (bv true,upM M)) (hb : m bt = some (.box (bagR (.sl lt 1 0 K none)))) (hD : ∀ τ o,B τ = some o→upM m τ = some o) (hDb : B (0 :: bt) = some (.box (bagR (.sl (0 :: lt) 1 0 K none))))
    (hS : ∀ M,Up m M→∃ D',mS M [.sl (0 :: lt) 1 0 K none] = some (bv true,D')∧∀ τ o,B τ = some o→D' (0 :: τ) = some (o.ren up)) :
    wwp (mkEnv [] [] [(77,mN),(78,mN),(79,mN),(80,mN),(81,mN),(82,mN),(83,mN),(84,mN),(85,mN),(86,mS),(87,mN),(88,mN),(89,mN),(90,mN),(91,mN),(92,mN),(93,mN)]) W70.1 (fun e s=>okExit e∧resV W70.2 s = some (bv true)∧DrM B s.m) (initM m [.ptr bt 0]):=by
  have hbu:=hD _ _ hDb
  simp only [bagR] at hbu hDb
  simp only [W70]
  refine wwp_cutW (wf_initM _ _) (fun σ=>Up m σ.m∧σ.s 0 = .ptr (0 :: bt) 0) (by simp; exact fun t o h=>h) ?_
  rintro σ W ⟨hU,h0⟩
  have hx:=hU _ _ hbu
  refine wwp_cutN 1 W (fun σ=>Up m σ.m∧σ.s 0 = .ptr (0 :: bt) 0∧σ.s 6 = .nil) (by simp [h0,hx]; exact hU) ?_
  clear W hU h0 hx σ
  rintro σ W ⟨hU,h0,hr⟩
  simp only [List.drop_succ_cons,List.drop_zero]
  refine wwp_cutN 1 W (fun σ=>Up m σ.m∧σ.s 0 = .ptr (0 :: bt) 0∧σ.s 7 = bv true) (by simp [h0,hr,hN]; exact Up.adoptM W hU 7 (bv true)) ?_
  clear W hU h0 hr σ
  rintro σ W ⟨hU,h0,hg⟩
  simp only [List.drop_succ_cons,List.drop_zero]
  refine wwp_cutN 1 W (fun σ=>Up m σ.m∧σ.s 0 = .ptr (0 :: bt) 0∧σ.s 8 = bv true) (by simp [h0,hg]; exact hU) ?_
  clear W hU h0 hg σ
  rintro σ W ⟨hU,h0,hg⟩
  simp only [List.drop_succ_cons,List.drop_zero]
  have hx:=hU _ _ hbu
  refine wwp_cutN 4 W (fun σ=>Up m σ.m∧σ.s 0 = .ptr (0 :: bt) 0∧σ.s 8 = bv true∧σ.s 12 = .nil) (by simp [h0,hx,hg]; exact hU) ?_
  clear W hU h0 hx hg σ
  rintro σ W ⟨hU,h0,hg,hr⟩
  simp only [List.drop_succ_cons,List.drop_zero]
  refine wwp_cutN 1 W (fun σ=>Up m σ.m∧σ.s 0 = .ptr (0 :: bt) 0∧σ.s 13 = bv true∧σ.s 8 = bv true) (by simp [h0,hr,hg,hN]; exact Up.adoptM W hU 13 (bv true)) ?_
  clear W hU h0 hg hr σ
  rintro σ W ⟨hU,h0,hp,hg⟩
  simp only [List.drop_succ_cons,List.drop_zero]
  refine wwp_cutN 2 W (fun σ=>Up m σ.m∧σ.s 0 = .ptr (0 :: bt) 0∧σ.s 15 = bv true) (by simp [h0,hp,hg]; exact hU) ?_
  clear W hU h0 hp hg σ
  rintro σ W ⟨hU,h0,hg⟩
  simp only [List.drop_succ_cons,List.drop_zero]
  have hx:=hU _ _ hbu
  refine wwp_cutN 4 W (fun σ=>Up m σ.m∧σ.s 0 = .ptr (0 :: bt) 0∧σ.s 15 = bv true∧σ.s 19 = .nil) (by simp [h0,hx,hg]; exact hU) ?_
  clear W hU h0 hx hg σ
  rintro σ W ⟨hU,h0,hg,hr⟩
  simp only [List.drop_succ_cons,List.drop_zero]
  refine wwp_cutN 1 W (fun σ=>Up m σ.m∧σ.s 0 = .ptr (0 :: bt) 0∧σ.s 20 = bv true∧σ.s 15 = bv true) (by simp [h0,hr,hg,hN]; exact Up.adoptM W hU 20 (bv true)) ?_
  clear W hU h0 hg hr σ
  rintro σ W ⟨hU,h0,hp,hg⟩
  simp only [List.drop_succ_cons,List.drop_zero]
  refine wwp_cutN 2 W (fun σ=>Up m σ.m∧σ.s 0 = .ptr (0 :: bt) 0∧σ.s 22 = bv true) (by simp [h0,hp,hg]; exact hU) ?_
  clear W hU h0 hp hg σ
  rintro σ W ⟨hU,h0,hg⟩
  simp only [List.drop_succ_cons,List.drop_zero]
  have hx:=hU _ _ hbu
  refine wwp_cutN 4 W (fun σ=>Up m σ.m∧σ.s 0 = .ptr (0 :: bt) 0∧σ.s 22 = bv true∧σ.s 26 = .nil) (by simp [h0,hx,hg]; exact hU) ?_
  clear W hU h0 hx hg σ
  rintro σ W ⟨hU,h0,hg,hr⟩
  simp only [List.drop_succ_cons,List.drop_zero]
  refine wwp_cutN 1 W (fun σ=>Up m σ.m∧σ.s 0 = .ptr (0 :: bt) 0∧σ.s 27 = bv true∧σ.s 22 = bv true) (by simp [h0,hr,hg,hN]; exact Up.adoptM W hU 27 (bv true)) ?_
  clear W hU h0 hg hr σ
  rintro σ W ⟨hU,h0,hp,hg⟩
  simp only [List.drop_succ_cons,List.drop_zero]
  refine wwp_cutN 2 W (fun σ=>Up m σ.m∧σ.s 0 = .ptr (0 :: bt) 0∧σ.s 29 = bv true) (by simp [h0,hp,hg]; exact hU) ?_
  clear W hU h0 hp hg σ
  rintro σ W ⟨hU,h0,hg⟩
  simp only [List.drop_succ_cons,List.drop_zero]
  have hx:=hU _ _ hbu
  refine wwp_cutN 4 W (fun σ=>Up m σ.m∧σ.s 0 = .ptr (0 :: bt) 0∧σ.s 29 = bv true∧σ.s 33 = .nil) (by simp [h0,hx,hg]; exact hU) ?_
  clear W hU h0 hx hg σ
  rintro σ W ⟨hU,h0,hg,hr⟩
  simp only [List.drop_succ_cons,List.drop_zero]
  refine wwp_cutN 1 W (fun σ=>Up m σ.m∧σ.s 0 = .ptr (0 :: bt) 0∧σ.s 34 = bv true∧σ.s 29 = bv true) (by simp [h0,hr,hg,hN]; exact Up.adoptM W hU 34 (bv true)) ?_
  clear W hU h0 hg hr σ
  rintro σ W ⟨hU,h0,hp,hg⟩
  simp only [List.drop_succ_cons,List.drop_zero]
  refine wwp_cutN 2 W (fun σ=>Up m σ.m∧σ.s 0 = .ptr (0 :: bt) 0∧σ.s 36 = bv true) (by simp [h0,hp,hg]; exact hU) ?_
  clear W hU h0 hp hg σ
  rintro σ W ⟨hU,h0,hg⟩
  simp only [List.drop_succ_cons,List.drop_zero]
  have hx:=hU _ _ hbu
  refine wwp_cutN 4 W (fun σ=>Up m σ.m∧σ.s 0 = .ptr (0 :: bt) 0∧σ.s 36 = bv true∧σ.s 40 = .nil) (by simp [h0,hx,hg]; exact hU) ?_
  clear W hU h0 hx hg σ
  rintro σ W ⟨hU,h0,hg,hr⟩
  simp only [List.drop_succ_cons,List.drop_zero]
  refine wwp_cutN 1 W (fun σ=>Up m σ.m∧σ.s 0 = .ptr (0 :: bt) 0∧σ.s 41 = bv true∧σ.s 36 = bv true) (by simp [h0,hr,hg,hN]; exact Up.adoptM W hU 41 (bv true)) ?_
  clear W hU h0 hg hr σ
  rintro σ W ⟨hU,h0,hp,hg⟩
  simp only [List.drop_succ_cons,List.drop_zero]
  refine wwp_cutN 2 W (fun σ=>Up m σ.m∧σ.s 0 = .ptr (0 :: bt) 0∧σ.s 43 = bv true) (by simp [h0,hp,hg]; exact hU) ?_
  clear W hU h0 hp hg σ
  rintro σ W ⟨hU,h0,hg⟩
  simp only [List.drop_succ_cons,List.drop_zero]
  have hx:=hU _ _ hbu
  refine wwp_cutN 4 W (fun σ=>Up m σ.m∧σ.s 0 = .ptr (0 :: bt) 0∧σ.s 43 = bv true∧σ.s 47 = .nil) (by simp [h0,hx,hg]; exact hU) ?_
  clear W hU h0 hx hg σ
  rintro σ W ⟨hU,h0,hg,hr⟩
  simp only [List.drop_succ_cons,List.drop_zero]
  refine wwp_cutN 1 W (fun σ=>Up m σ.m∧σ.s 0 = .ptr (0 :: bt) 0∧σ.s 48 = bv true∧σ.s 43 = bv true) (by simp [h0,hr,hg,hN]; exact Up.adoptM W hU 48 (bv true)) ?_
  clear W hU h0 hg hr σ
  rintro σ W ⟨hU,h0,hp,hg⟩
  simp only [List.drop_succ_cons,List.drop_zero]
  refine wwp_cutN 2 W (fun σ=>Up m σ.m∧σ.s 0 = .ptr (0 :: bt) 0∧σ.s 50 = bv true) (by simp [h0,hp,hg]; exact hU) ?_
  clear W hU h0 hp hg σ
  rintro σ W ⟨hU,h0,hg⟩
  simp only [List.drop_succ_cons,List.drop_zero]
  have hx:=hU _ _ hbu
  refine wwp_cutN 4 W (fun σ=>Up m σ.m∧σ.s 0 = .ptr (0 :: bt) 0∧σ.s 50 = bv true∧σ.s 54 = .nil) (by simp [h0,hx,hg]; exact hU) ?_
  clear W hU h0 hx hg σ
  rintro σ W ⟨hU,h0,hg,hr⟩
  simp only [List.drop_succ_cons,List.drop_zero]
  refine wwp_cutN 1 W (fun σ=>Up m σ.m∧σ.s 0 = .ptr (0 :: bt) 0∧σ.s 55 = bv true∧σ.s 50 = bv true) (by simp [h0,hr,hg,hN]; exact Up.adoptM W hU 55 (bv true)) ?_
  clear W hU h0 hg hr σ
  rintro σ W ⟨hU,h0,hp,hg⟩
  simp only [List.drop_succ_cons,List.drop_zero]
  refine wwp_cutN 2 W (fun σ=>Up m σ.m∧σ.s 0 = .ptr (0 :: bt) 0∧σ.s 57 = bv true) (by simp [h0,hp,hg]; exact hU) ?_
  clear W hU h0 hp hg σ
  rintro σ W ⟨hU,h0,hg⟩
  simp only [List.drop_succ_cons,List.drop_zero]
  have hx:=hU _ _ hbu
  refine wwp_cutN 4 W (fun σ=>Up m σ.m∧σ.s 0 = .ptr (0 :: bt) 0∧σ.s 57 = bv true∧σ.s 61 = .nil) (by simp [h0,hx,hg]; exact hU) ?_
  clear W hU h0 hx hg σ
  rintro σ W ⟨hU,h0,hg,hr⟩
  simp only [List.drop_succ_cons,List.drop_zero]
  refine wwp_cutN 1 W (fun σ=>Up m σ.m∧σ.s 0 = .ptr (0 :: bt) 0∧σ.s 62 = bv true∧σ.s 57 = bv true) (by simp [h0,hr,hg,hN]; exact Up.adoptM W hU 62 (bv true)) ?_
  clear W hU h0 hg hr σ
  rintro σ W ⟨hU,h0,hp,hg⟩
  simp only [List.drop_succ_cons,List.drop_zero]
  refine wwp_cutN 2 W (fun σ=>Up m σ.m∧σ.s 0 = .ptr (0 :: bt) 0∧σ.s 64 = bv true) (by simp [h0,hp,hg]; exact hU) ?_
  clear W hU h0 hp hg σ
  rintro σ W ⟨hU,h0,hg⟩
  simp only [List.drop_succ_cons,List.drop_zero]
  have hx:=hU _ _ hbu
  refine wwp_cutN 4 W (fun σ=>Up m σ.m∧σ.s 0 = .ptr (0 :: bt) 0∧σ.s 64 = bv true∧σ.s 68 = .sl (0 :: lt) 1 0 K none) (by simp [h0,hx,hg]; exact hU) ?_
  clear W hU h0 hx hg σ
  rintro σ W ⟨hU,h0,hg,hr⟩
  simp only [List.drop_succ_cons,List.drop_zero]
  obtain ⟨D',eS,hD'⟩:=hS σ.m hU
  refine wwp_cutN 1 W (fun σ=>DrM B σ.m∧σ.s 0 = .ptr (0 :: bt) 0∧σ.s 69 = bv true∧σ.s 64 = bv true) (by simp [h0,hr,hg,eS]; exact DrM.sp W hU hD hD' 69 (bv true)) ?_
  clear W hU h0 hg hr eS hD' D' σ
  rintro σ W ⟨hU,h0,hp,hg⟩
  simp only [List.drop_succ_cons,List.drop_zero]
  refine wwp_cutN 2 W (fun σ=>DrM B σ.m∧σ.s 0 = .ptr (0 :: bt) 0∧σ.s 71 = bv true) (by simp [h0,hp,hg]; exact hU) ?_
  clear W hU h0 hp hg σ
  rintro σ W ⟨hU,h0,hg⟩
  simp only [List.drop_succ_cons,List.drop_zero]
  have hx:=hU _ _ hDb
  refine wwp_cutN 4 W (fun σ=>DrM B σ.m∧σ.s 0 = .ptr (0 :: bt) 0∧σ.s 71 = bv true∧σ.s 75 = .nil) (by simp [h0,hx,hg]; exact hU) ?_
  clear W hU h0 hx hg σ
  rintro σ W ⟨hU,h0,hg,hr⟩
  simp only [List.drop_succ_cons,List.drop_zero]
  refine wwp_cutN 1 W (fun σ=>DrM B σ.m∧σ.s 0 = .ptr (0 :: bt) 0∧σ.s 76 = bv true∧σ.s 71 = bv true) (by simp [h0,hr,hg,hN]; exact DrM.nil W hU hD 76 (bv true)) ?_
  clear W hU h0 hg hr σ
  rintro σ W ⟨hU,h0,hp,hg⟩
  simp only [List.drop_succ_cons,List.drop_zero]
  refine wwp_cutN 2 W (fun σ=>DrM B σ.m∧σ.s 0 = .ptr (0 :: bt) 0∧σ.s 78 = bv true) (by simp [h0,hp,hg]; exact hU) ?_
  clear W hU h0 hp hg σ
  rintro σ W ⟨hU,h0,hg⟩
  simp only [List.drop_succ_cons,List.drop_zero]
  have hx:=hU _ _ hDb
  refine wwp_cutN 4 W (fun σ=>DrM B σ.m∧σ.s 0 = .ptr (0 :: bt) 0∧σ.s 78 = bv true∧σ.s 82 = .nil) (by simp [h0,hx,hg]; exact hU) ?_
  clear W hU h0 hx hg σ
  rintro σ W ⟨hU,h0,hg,hr⟩
  simp only [List.drop_succ_cons,List.drop_zero]
  refine wwp_cutN 1 W (fun σ=>DrM B σ.m∧σ.s 0 = .ptr (0 :: bt) 0∧σ.s 83 = bv true∧σ.s 78 = bv true) (by simp [h0,hr,hg,hN]; exact DrM.nil W hU hD 83 (bv true)) ?_
  clear W hU h0 hg hr σ
  rintro σ W ⟨hU,h0,hp,hg⟩
  simp only [List.drop_succ_cons,List.drop_zero]
  refine wwp_cutN 2 W (fun σ=>DrM B σ.m∧σ.s 0 = .ptr (0 :: bt) 0∧σ.s 85 = bv true) (by simp [h0,hp,hg]; exact hU) ?_
  clear W hU h0 hp hg σ
  rintro σ W ⟨hU,h0,hg⟩
  simp only [List.drop_succ_cons,List.drop_zero]
  have hx:=hU _ _ hDb
  refine wwp_cutN 4 W (fun σ=>DrM B σ.m∧σ.s 0 = .ptr (0 :: bt) 0∧σ.s 85 = bv true∧σ.s 89 = .nil) (by simp [h0,hx,hg]; exact hU) ?_
  clear W hU h0 hx hg σ
  rintro σ W ⟨hU,h0,hg,hr⟩
  simp only [List.drop_succ_cons,List.drop_zero]
  refine wwp_cutN 1 W (fun σ=>DrM B σ.m∧σ.s 0 = .ptr (0 :: bt) 0∧σ.s 90 = bv true∧σ.s 85 = bv true) (by simp [h0,hr,hg,hN]; exact DrM.nil W hU hD 90 (bv true)) ?_
  clear W hU h0 hg hr σ
  rintro σ W ⟨hU,h0,hp,hg⟩
  simp only [List.drop_succ_cons,List.drop_zero]
  refine wwp_cutN 2 W (fun σ=>DrM B σ.m∧σ.s 0 = .ptr (0 :: bt) 0∧σ.s 92 = bv true) (by simp [h0,hp,hg]; exact hU) ?_
  clear W hU h0 hp hg σ
  rintro σ W ⟨hU,h0,hg⟩
  simp only [List.drop_succ_cons,List.drop_zero]
  have hx:=hU _ _ hDb
  refine wwp_cutN 4 W (fun σ=>DrM B σ.m∧σ.s 0 = .ptr (0 :: bt) 0∧σ.s 92 = bv true∧σ.s 96 = .nil) (by simp [h0,hx,hg]; exact hU) ?_
  clear W hU h0 hx hg σ
  rintro σ W ⟨hU,h0,hg,hr⟩
  simp only [List.drop_succ_cons,List.drop_zero]
  refine wwp_cutN 1 W (fun σ=>DrM B σ.m∧σ.s 0 = .ptr (0 :: bt) 0∧σ.s 97 = bv true∧σ.s 92 = bv true) (by simp [h0,hr,hg,hN]; exact DrM.nil W hU hD 97 (bv true)) ?_
  clear W hU h0 hg hr σ
  rintro σ W ⟨hU,h0,hp,hg⟩
  simp only [List.drop_succ_cons,List.drop_zero]
  refine wwp_cutN 2 W (fun σ=>DrM B σ.m∧σ.s 0 = .ptr (0 :: bt) 0∧σ.s 99 = bv true) (by simp [h0,hp,hg]; exact hU) ?_
  clear W hU h0 hp hg σ
  rintro σ W ⟨hU,h0,hg⟩
  simp only [List.drop_succ_cons,List.drop_zero]
  have hx:=hU _ _ hDb
  refine wwp_cutN 4 W (fun σ=>DrM B σ.m∧σ.s 0 = .ptr (0 :: bt) 0∧σ.s 99 = bv true∧σ.s 103 = .nil) (by simp [h0,hx,hg]; exact hU) ?_
  clear W hU h0 hx hg σ
  rintro σ W ⟨hU,h0,hg,hr⟩
  simp only [List.drop_succ_cons,List.drop_zero]
  refine wwp_cutN 1 W (fun σ=>DrM B σ.m∧σ.s 0 = .ptr (0 :: bt) 0∧σ.s 104 = bv true∧σ.s 99 = bv true) (by simp [h0,hr,hg,hN]; exact DrM.nil W hU hD 104 (bv true)) ?_
  clear W hU h0 hg hr σ
  rintro σ W ⟨hU,h0,hp,hg⟩
  simp only [List.drop_succ_cons,List.drop_zero]
  refine wwp_cutN 2 W (fun σ=>DrM B σ.m∧σ.s 0 = .ptr (0 :: bt) 0∧σ.s 106 = bv true) (by simp [h0,hp,hg]; exact hU) ?_
  clear W hU h0 hp hg σ
  rintro σ W ⟨hU,h0,hg⟩
  simp only [List.drop_succ_cons,List.drop_zero]
  have hx:=hU _ _ hDb
  refine wwp_cutN 4 W (fun σ=>DrM B σ.m∧σ.s 0 = .ptr (0 :: bt) 0∧σ.s 106 = bv true∧σ.s 110 = .nil) (by simp [h0,hx,hg]; exact hU) ?_
  clear W hU h0 hx hg σ
  rintro σ W ⟨hU,h0,hg,hr⟩
  simp only [List.drop_succ_cons,List.drop_zero]
  refine wwp_cutN 1 W (fun σ=>DrM B σ.m∧σ.s 0 = .ptr (0 :: bt) 0∧σ.s 111 = bv true∧σ.s 106 = bv true) (by simp [h0,hr,hg,hN]; exact DrM.nil W hU hD 111 (bv true)) ?_
  clear W hU h0 hg hr σ
  rintro σ W ⟨hU,h0,hp,hg⟩
  simp only [List.drop_succ_cons,List.drop_zero]
  refine wwp_cutN 2 W (fun σ=>DrM B σ.m∧σ.s 0 = .ptr (0 :: bt) 0∧σ.s 113 = bv true) (by simp [h0,hp,hg]; exact hU) ?_
  clear W hU h0 hp hg σ
  rintro σ W ⟨hU,h0,hg⟩
  simp only [List.drop_succ_cons,List.drop_zero]
  have hx:=hU _ _ hDb
  refine wwp_cutN 4 W (fun σ=>DrM B σ.m∧σ.s 0 = .ptr (0 :: bt) 0∧σ.s 113 = bv true∧σ.s 117 = .nil) (by simp [h0,hx,hg]; exact hU) ?_
  clear W hU h0 hx hg σ
  rintro σ W ⟨hU,h0,hg,hr⟩
  simp only [List.drop_succ_cons,List.drop_zero]
  refine wwp_cutN 1 W (fun σ=>DrM B σ.m∧σ.s 0 = .ptr (0 :: bt) 0∧σ.s 118 = bv true∧σ.s 113 = bv true) (by simp [h0,hr,hg,hN]; exact DrM.nil W hU hD 118 (bv true)) ?_
  clear W hU h0 hg hr σ
  rintro σ W ⟨hU,h0,hp,hg⟩
  simp only [List.drop_succ_cons,List.drop_zero]
  simp [hp,hg]
  exact hU
theorem c70Iw (mN mS : FM) (m : Mem) (bt lt : Tok) (K : Nat) (B : Mem) (hN : ∀ M,mN M [.nil] = some (bv true,upM M)) (hb : m bt = some (.box (bagI (.sl lt 1 0 K none)))) (hD : ∀ τ o,B τ = some o→upM m τ = some o) (hDb : B (0 :: bt) = some (.box (bagI (.sl (0 :: lt) 1 0 K none))))
    (hS : ∀ M,Up m M→∃ D',mS M [.sl (0 :: lt) 1 0 K none] = some (bv true,D')∧∀ τ o,B τ = some o→D' (0 :: τ) = some (o.ren up)) :
    wwp (mkEnv [] [] [(77,mS),(78,mN),(79,mN),(80,mN),(81,mN),(82,mN),(83,mN),(84,mN),(85,mN),(86,mN),(87,mN),(88,mN),(89,mN),(90,mN),(91,mN),(92,mN),(93,mN)]) W70.1 (fun e s=>okExit e∧resV W70.2 s = some (bv true)∧DrM B s.m) (initM m [.ptr bt 0]):=by
  have hbu:=hD _ _ hDb
  simp only [bagI] at hbu hDb
  simp only [W70]
  refine wwp_cutW (wf_initM _ _) (fun σ=>Up m σ.m∧σ.s 0 = .ptr (0 :: bt) 0) (by simp; exact fun t o h=>h) ?_
  rintro σ W ⟨hU,h0⟩
  have hx:=hU _ _ hbu
  refine wwp_cutN 1 W (fun σ=>Up m σ.m∧σ.s 0 = .ptr (0 :: bt) 0∧σ.s 6 = .sl (0 :: lt) 1 0 K none) (by simp [h0,hx]; exact hU) ?_
  clear W hU h0 hx σ
  rintro σ W ⟨hU,h0,hr⟩
  simp only [List.drop_succ_cons,List.drop_zero]
  obtain ⟨D',eS,hD'⟩:=hS σ.m hU
  refine wwp_cutN 1 W (fun σ=>DrM B σ.m∧σ.s 0 = .ptr (0 :: bt) 0∧σ.s 7 = bv true) (by simp [h0,hr,eS]; exact DrM.sp W hU hD hD' 7 (bv true)) ?_
  clear W hU h0 hr eS hD' D' σ
  rintro σ W ⟨hU,h0,hg⟩
  simp only [List.drop_succ_cons,List.drop_zero]
  refine wwp_cutN 1 W (fun σ=>DrM B σ.m∧σ.s 0 = .ptr (0 :: bt) 0∧σ.s 8 = bv true) (by simp [h0,hg]; exact hU) ?_
  clear W hU h0 hg σ
  rintro σ W ⟨hU,h0,hg⟩
  simp only [List.drop_succ_cons,List.drop_zero]
  have hx:=hU _ _ hDb
  refine wwp_cutN 4 W (fun σ=>DrM B σ.m∧σ.s 0 = .ptr (0 :: bt) 0∧σ.s 8 = bv true∧σ.s 12 = .nil) (by simp [h0,hx,hg]; exact hU) ?_
  clear W hU h0 hx hg σ
  rintro σ W ⟨hU,h0,hg,hr⟩
  simp only [List.drop_succ_cons,List.drop_zero]
  refine wwp_cutN 1 W (fun σ=>DrM B σ.m∧σ.s 0 = .ptr (0 :: bt) 0∧σ.s 13 = bv true∧σ.s 8 = bv true) (by simp [h0,hr,hg,hN]; exact DrM.nil W hU hD 13 (bv true)) ?_
  clear W hU h0 hg hr σ
  rintro σ W ⟨hU,h0,hp,hg⟩
  simp only [List.drop_succ_cons,List.drop_zero]
  refine wwp_cutN 2 W (fun σ=>DrM B σ.m∧σ.s 0 = .ptr (0 :: bt) 0∧σ.s 15 = bv true) (by simp [h0,hp,hg]; exact hU) ?_
  clear W hU h0 hp hg σ
  rintro σ W ⟨hU,h0,hg⟩
  simp only [List.drop_succ_cons,List.drop_zero]
  have hx:=hU _ _ hDb
  refine wwp_cutN 4 W (fun σ=>DrM B σ.m∧σ.s 0 = .ptr (0 :: bt) 0∧σ.s 15 = bv true∧σ.s 19 = .nil) (by simp [h0,hx,hg]; exact hU) ?_
  clear W hU h0 hx hg σ
  rintro σ W ⟨hU,h0,hg,hr⟩
  simp only [List.drop_succ_cons,List.drop_zero]
  refine wwp_cutN 1 W (fun σ=>DrM B σ.m∧σ.s 0 = .ptr (0 :: bt) 0∧σ.s 20 = bv true∧σ.s 15 = bv true) (by simp [h0,hr,hg,hN]; exact DrM.nil W hU hD 20 (bv true)) ?_
  clear W hU h0 hg hr σ
  rintro σ W ⟨hU,h0,hp,hg⟩
  simp only [List.drop_succ_cons,List.drop_zero]
  refine wwp_cutN 2 W (fun σ=>DrM B σ.m∧σ.s 0 = .ptr (0 :: bt) 0∧σ.s 22 = bv true) (by simp [h0,hp,hg]; exact hU) ?_
  clear W hU h0 hp hg σ
  rintro σ W ⟨hU,h0,hg⟩
  simp only [List.drop_succ_cons,List.drop_zero]
  have hx:=hU _ _ hDb
  refine wwp_cutN 4 W (fun σ=>DrM B σ.m∧σ.s 0 = .ptr (0 :: bt) 0∧σ.s 22 = bv true∧σ.s 26 = .nil) (by simp [h0,hx,hg]; exact hU) ?_
  clear W hU h0 hx hg σ
  rintro σ W ⟨hU,h0,hg,hr⟩
  simp only [List.drop_succ_cons,List.drop_zero]
  refine wwp_cutN 1 W (fun σ=>DrM B σ.m∧σ.s 0 = .ptr (0 :: bt) 0∧σ.s 27 = bv true∧σ.s 22 = bv true) (by simp [h0,hr,hg,hN]; exact DrM.nil W hU hD 27 (bv true)) ?_
  clear W hU h0 hg hr σ
  rintro σ W ⟨hU,h0,hp,hg⟩
  simp only [List.drop_succ_cons,List.drop_zero]
  refine wwp_cutN 2 W (fun σ=>DrM B σ.m∧σ.s 0 = .ptr (0 :: bt) 0∧σ.s 29 = bv true) (by simp [h0,hp,hg]; exact hU) ?_
  clear W hU h0 hp hg σ
  rintro σ W ⟨hU,h0,hg⟩
  simp only [List.drop_succ_cons,List.drop_zero]
  have hx:=hU _ _ hDb
  refine wwp_cutN 4 W (fun σ=>DrM B σ.m∧σ.s 0 = .ptr (0 :: bt) 0∧σ.s 29 = bv true∧σ.s 33 = .nil) (by simp [h0,hx,hg]; exact hU) ?_
  clear W hU h0 hx hg σ
  rintro σ W ⟨hU,h0,hg,hr⟩
  simp only [List.drop_succ_cons,List.drop_zero]
  refine wwp_cutN 1 W (fun σ=>DrM B σ.m∧σ.s 0 = .ptr (0 :: bt) 0∧σ.s 34 = bv true∧σ.s 29 = bv true) (by simp [h0,hr,hg,hN]; exact DrM.nil W hU hD 34 (bv true)) ?_
  clear W hU h0 hg hr σ
  rintro σ W ⟨hU,h0,hp,hg⟩
  simp only [List.drop_succ_cons,List.drop_zero]
  refine wwp_cutN 2 W (fun σ=>DrM B σ.m∧σ.s 0 = .ptr (0 :: bt) 0∧σ.s 36 = bv true) (by simp [h0,hp,hg]; exact hU) ?_
  clear W hU h0 hp hg σ
  rintro σ W ⟨hU,h0,hg⟩
  simp only [List.drop_succ_cons,List.drop_zero]
  have hx:=hU _ _ hDb
  refine wwp_cutN 4 W (fun σ=>DrM B σ.m∧σ.s 0 = .ptr (0 :: bt) 0∧σ.s 36 = bv true∧σ.s 40 = .nil) (by simp [h0,hx,hg]; exact hU) ?_
  clear W hU h0 hx hg σ
  rintro σ W ⟨hU,h0,hg,hr⟩
  simp only [List.drop_succ_cons,List.drop_zero]
  refine wwp_cutN 1 W (fun σ=>DrM B σ.m∧σ.s 0 = .ptr (0 :: bt) 0∧σ.s 41 = bv true∧σ.s 36 = bv true) (by simp [h0,hr,hg,hN]; exact DrM.nil W hU hD 41 (bv true)) ?_
  clear W hU h0 hg hr σ
  rintro σ W ⟨hU,h0,hp,hg⟩
  simp only [List.drop_succ_cons,List.drop_zero]
  refine wwp_cutN 2 W (fun σ=>DrM B σ.m∧σ.s 0 = .ptr (0 :: bt) 0∧σ.s 43 = bv true) (by simp [h0,hp,hg]; exact hU) ?_
  clear W hU h0 hp hg σ
  rintro σ W ⟨hU,h0,hg⟩
  simp only [List.drop_succ_cons,List.drop_zero]
  have hx:=hU _ _ hDb
  refine wwp_cutN 4 W (fun σ=>DrM B σ.m∧σ.s 0 = .ptr (0 :: bt) 0∧σ.s 43 = bv true∧σ.s 47 = .nil) (by simp [h0,hx,hg]; exact hU) ?_
  clear W hU h0 hx hg σ
  rintro σ W ⟨hU,h0,hg,hr⟩
  simp only [List.drop_succ_cons,List.drop_zero]
  refine wwp_cutN 1 W (fun σ=>DrM B σ.m∧σ.s 0 = .ptr (0 :: bt) 0∧σ.s 48 = bv true∧σ.s 43 = bv true) (by simp [h0,hr,hg,hN]; exact DrM.nil W hU hD 48 (bv true)) ?_
  clear W hU h0 hg hr σ
  rintro σ W ⟨hU,h0,hp,hg⟩
  simp only [List.drop_succ_cons,List.drop_zero]
  refine wwp_cutN 2 W (fun σ=>DrM B σ.m∧σ.s 0 = .ptr (0 :: bt) 0∧σ.s 50 = bv true) (by simp [h0,hp,hg]; exact hU) ?_
  clear W hU h0 hp hg σ
  rintro σ W ⟨hU,h0,hg⟩
  simp only [List.drop_succ_cons,List.drop_zero]
  have hx:=hU _ _ hDb
  refine wwp_cutN 4 W (fun σ=>DrM B σ.m∧σ.s 0 = .ptr (0 :: bt) 0∧σ.s 50 = bv true∧σ.s 54 = .nil) (by simp [h0,hx,hg]; exact hU) ?_
  clear W hU h0 hx hg σ
  rintro σ W ⟨hU,h0,hg,hr⟩
  simp only [List.drop_succ_cons,List.drop_zero]
  refine wwp_cutN 1 W (fun σ=>DrM B σ.m∧σ.s 0 = .ptr (0 :: bt) 0∧σ.s 55 = bv true∧σ.s 50 = bv true) (by simp [h0,hr,hg,hN]; exact DrM.nil W hU hD 55 (bv true)) ?_
  clear W hU h0 hg hr σ
  rintro σ W ⟨hU,h0,hp,hg⟩
  simp only [List.drop_succ_cons,List.drop_zero]
  refine wwp_cutN 2 W (fun σ=>DrM B σ.m∧σ.s 0 = .ptr (0 :: bt) 0∧σ.s 57 = bv true) (by simp [h0,hp,hg]; exact hU) ?_
  clear W hU h0 hp hg σ
  rintro σ W ⟨hU,h0,hg⟩
  simp only [List.drop_succ_cons,List.drop_zero]
  have hx:=hU _ _ hDb
  refine wwp_cutN 4 W (fun σ=>DrM B σ.m∧σ.s 0 = .ptr (0 :: bt) 0∧σ.s 57 = bv true∧σ.s 61 = .nil) (by simp [h0,hx,hg]; exact hU) ?_
  clear W hU h0 hx hg σ
  rintro σ W ⟨hU,h0,hg,hr⟩
  simp only [List.drop_succ_cons,List.drop_zero]
  refine wwp_cutN 1 W (fun σ=>DrM B σ.m∧σ.s 0 = .ptr (0 :: bt) 0∧σ.s 62 = bv true∧σ.s 57 = bv true) (by simp [h0,hr,hg,hN]; exact DrM.nil W hU hD 62 (bv true)) ?_
  clear W hU h0 hg hr σ
  rintro σ W ⟨hU,h0,hp,hg⟩
  simp only [List.drop_succ_cons,List.drop_zero]
  refine wwp_cutN 2 W (fun σ=>DrM B σ.m∧σ.s 0 = .ptr (0 :: bt) 0∧σ.s 64 = bv true) (by simp [h0,hp,hg]; exact hU) ?_
  clear W hU h0 hp hg σ
  rintro σ W ⟨hU,h0,hg⟩
  simp only [List.drop_succ_cons,List.drop_zero]
  have hx:=hU _ _ hDb
  refine wwp_cutN 4 W (fun σ=>DrM B σ.m∧σ.s 0 = .ptr (0 :: bt) 0∧σ.s 64 = bv true∧σ.s 68 = .nil) (by simp [h0,hx,hg]; exact hU) ?_
  clear W hU h0 hx hg σ
  rintro σ W ⟨hU,h0,hg,hr⟩
  simp only [List.drop_succ_cons,List.drop_zero]
  refine wwp_cutN 1 W (fun σ=>DrM B σ.m∧σ.s 0 = .ptr (0 :: bt) 0∧σ.s 69 = bv true∧σ.s 64 = bv true) (by simp [h0,hr,hg,hN]; exact DrM.nil W hU hD 69 (bv true)) ?_
  clear W hU h0 hg hr σ
  rintro σ W ⟨hU,h0,hp,hg⟩
  simp only [List.drop_succ_cons,List.drop_zero]
  refine wwp_cutN 2 W (fun σ=>DrM B σ.m∧σ.s 0 = .ptr (0 :: bt) 0∧σ.s 71 = bv true) (by simp [h0,hp,hg]; exact hU) ?_
  clear W hU h0 hp hg σ
  rintro σ W ⟨hU,h0,hg⟩
  simp only [List.drop_succ_cons,List.drop_zero]
  have hx:=hU _ _ hDb
  refine wwp_cutN 4 W (fun σ=>DrM B σ.m∧σ.s 0 = .ptr (0 :: bt) 0∧σ.s 71 = bv true∧σ.s 75 = .nil) (by simp [h0,hx,hg]; exact hU) ?_
  clear W hU h0 hx hg σ
  rintro σ W ⟨hU,h0,hg,hr⟩
  simp only [List.drop_succ_cons,List.drop_zero]
  refine wwp_cutN 1 W (fun σ=>DrM B σ.m∧σ.s 0 = .ptr (0 :: bt) 0∧σ.s 76 = bv true∧σ.s 71 = bv true) (by simp [h0,hr,hg,hN]; exact DrM.nil W hU hD 76 (bv true)) ?_
  clear W hU h0 hg hr σ
  rintro σ W ⟨hU,h0,hp,hg⟩
  simp only [List.drop_succ_cons,List.drop_zero]
  refine wwp_cutN 2 W (fun σ=>DrM B σ.m∧σ.s 0 = .ptr (0 :: bt) 0∧σ.s 78 = bv true) (by simp [h0,hp,hg]; exact hU) ?_
  clear W hU h0 hp hg σ
  rintro σ W ⟨hU,h0,hg⟩
  simp only [List.drop_succ_cons,List.drop_zero]
  have hx:=hU _ _ hDb
  refine wwp_cutN 4 W (fun σ=>DrM B σ.m∧σ.s 0 = .ptr (0 :: bt) 0∧σ.s 78 = bv true∧σ.s 82 = .nil) (by simp [h0,hx,hg]; exact hU) ?_
  clear W hU h0 hx hg σ
  rintro σ W ⟨hU,h0,hg,hr⟩
  simp only [List.drop_succ_cons,List.drop_zero]
  refine wwp_cutN 1 W (fun σ=>DrM B σ.m∧σ.s 0 = .ptr (0 :: bt) 0∧σ.s 83 = bv true∧σ.s 78 = bv true) (by simp [h0,hr,hg,hN]; exact DrM.nil W hU hD 83 (bv true)) ?_
  clear W hU h0 hg hr σ
  rintro σ W ⟨hU,h0,hp,hg⟩
  simp only [List.drop_succ_cons,List.drop_zero]
  refine wwp_cutN 2 W (fun σ=>DrM B σ.m∧σ.s 0 = .ptr (0 :: bt) 0∧σ.s 85 = bv true) (by simp [h0,hp,hg]; exact hU) ?_
  clear W hU h0 hp hg σ
  rintro σ W ⟨hU,h0,hg⟩
  simp only [List.drop_succ_cons,List.drop_zero]
  have hx:=hU _ _ hDb
  refine wwp_cutN 4 W (fun σ=>DrM B σ.m∧σ.s 0 = .ptr (0 :: bt) 0∧σ.s 85 = bv true∧σ.s 89 = .nil) (by simp [h0,hx,hg]; exact hU) ?_
  clear W hU h0 hx hg σ
  rintro σ W ⟨hU,h0,hg,hr⟩
  simp only [List.drop_succ_cons,List.drop_zero]
  refine wwp_cutN 1 W (fun σ=>DrM B σ.m∧σ.s 0 = .ptr (0 :: bt) 0∧σ.s 90 = bv true∧σ.s 85 = bv true) (by simp [h0,hr,hg,hN]; exact DrM.nil W hU hD 90 (bv true)) ?_
  clear W hU h0 hg hr σ
  rintro σ W ⟨hU,h0,hp,hg⟩
  simp only [List.drop_succ_cons,List.drop_zero]
  refine wwp_cutN 2 W (fun σ=>DrM B σ.m∧σ.s 0 = .ptr (0 :: bt) 0∧σ.s 92 = bv true) (by simp [h0,hp,hg]; exact hU) ?_
  clear W hU h0 hp hg σ
  rintro σ W ⟨hU,h0,hg⟩
  simp only [List.drop_succ_cons,List.drop_zero]
  have hx:=hU _ _ hDb
  refine wwp_cutN 4 W (fun σ=>DrM B σ.m∧σ.s 0 = .ptr (0 :: bt) 0∧σ.s 92 = bv true∧σ.s 96 = .nil) (by simp [h0,hx,hg]; exact hU) ?_
  clear W hU h0 hx hg σ
  rintro σ W ⟨hU,h0,hg,hr⟩
  simp only [List.drop_succ_cons,List.drop_zero]
  refine wwp_cutN 1 W (fun σ=>DrM B σ.m∧σ.s 0 = .ptr (0 :: bt) 0∧σ.s 97 = bv true∧σ.s 92 = bv true) (by simp [h0,hr,hg,hN]; exact DrM.nil W hU hD 97 (bv true)) ?_
  clear W hU h0 hg hr σ
  rintro σ W ⟨hU,h0,hp,hg⟩
  simp only [List.drop_succ_cons,List.drop_zero]
  refine wwp_cutN 2 W (fun σ=>DrM B σ.m∧σ.s 0 = .ptr (0 :: bt) 0∧σ.s 99 = bv true) (by simp [h0,hp,hg]; exact hU) ?_
  clear W hU h0 hp hg σ
  rintro σ W ⟨hU,h0,hg⟩
  simp only [List.drop_succ_cons,List.drop_zero]
  have hx:=hU _ _ hDb
  refine wwp_cutN 4 W (fun σ=>DrM B σ.m∧σ.s 0 = .ptr (0 :: bt) 0∧σ.s 99 = bv true∧σ.s 103 = .nil) (by simp [h0,hx,hg]; exact hU) ?_
  clear W hU h0 hx hg σ
  rintro σ W ⟨hU,h0,hg,hr⟩
  simp only [List.drop_succ_cons,List.drop_zero]
  refine wwp_cutN 1 W (fun σ=>DrM B σ.m∧σ.s 0 = .ptr (0 :: bt) 0∧σ.s 104 = bv true∧σ.s 99 = bv true) (by simp [h0,hr,hg,hN]; exact DrM.nil W hU hD 104 (bv true)) ?_
  clear W hU h0 hg hr σ
  rintro σ W ⟨hU,h0,hp,hg⟩
  simp only [List.drop_succ_cons,List.drop_zero]
  refine wwp_cutN 2 W (fun σ=>DrM B σ.m∧σ.s 0 = .ptr (0 :: bt) 0∧σ.s 106 = bv true) (by simp [h0,hp,hg]; exact hU) ?_
  clear W hU h0 hp hg σ
  rintro σ W ⟨hU,h0,hg⟩
  simp only [List.drop_succ_cons,List.drop_zero]
  have hx:=hU _ _ hDb
  refine wwp_cutN 4 W (fun σ=>DrM B σ.m∧σ.s 0 = .ptr (0 :: bt) 0∧σ.s 106 = bv true∧σ.s 110 = .nil) (by simp [h0,hx,hg]; exact hU) ?_
  clear W hU h0 hx hg σ
  rintro σ W ⟨hU,h0,hg,hr⟩
  simp only [List.drop_succ_cons,List.drop_zero]
  refine wwp_cutN 1 W (fun σ=>DrM B σ.m∧σ.s 0 = .ptr (0 :: bt) 0∧σ.s 111 = bv true∧σ.s 106 = bv true) (by simp [h0,hr,hg,hN]; exact DrM.nil W hU hD 111 (bv true)) ?_
  clear W hU h0 hg hr σ
  rintro σ W ⟨hU,h0,hp,hg⟩
  simp only [List.drop_succ_cons,List.drop_zero]
  refine wwp_cutN 2 W (fun σ=>DrM B σ.m∧σ.s 0 = .ptr (0 :: bt) 0∧σ.s 113 = bv true) (by simp [h0,hp,hg]; exact hU) ?_
  clear W hU h0 hp hg σ
  rintro σ W ⟨hU,h0,hg⟩
  simp only [List.drop_succ_cons,List.drop_zero]
  have hx:=hU _ _ hDb
  refine wwp_cutN 4 W (fun σ=>DrM B σ.m∧σ.s 0 = .ptr (0 :: bt) 0∧σ.s 113 = bv true∧σ.s 117 = .nil) (by simp [h0,hx,hg]; exact hU) ?_
  clear W hU h0 hx hg σ
  rintro σ W ⟨hU,h0,hg,hr⟩
  simp only [List.drop_succ_cons,List.drop_zero]
  refine wwp_cutN 1 W (fun σ=>DrM B σ.m∧σ.s 0 = .ptr (0 :: bt) 0∧σ.s 118 = bv true∧σ.s 113 = bv true) (by simp [h0,hr,hg,hN]; exact DrM.nil W hU hD 118 (bv true)) ?_
  clear W hU h0 hg hr σ
  rintro σ W ⟨hU,h0,hp,hg⟩
  simp only [List.drop_succ_cons,List.drop_zero]
  simp [hp,hg]
  exact hU
theorem FlR.pass {F F9 : FlR} {C C9 : Nat→List Row} (h : F.In C F.U) (eK : F9.K = F.K) (en : F9.nl = F.nl) (eg : F9.gr = fun k=>0 :: F.gr k) (h9 : F9.In C9 F9.U) (hU : Up F.U F9.U) :
    ∀ τ o,dropM (grpsOf F.U F.hrow) (upM F.U) τ = some o→dropM (grpsOf F9.U F9.hrow) (upM F9.U) (0 :: τ) = some (o.ren up):=fun τ o ho=>by
  obtain ⟨h1,h2⟩:=dropM_some.1 ho
  refine dropM_some.2 ⟨by rw [upM_up,hU _ _ h1]; rfl,fun g hg hP=>?_⟩
  rw [HO.ren_grp] at hg
  obtain ⟨g0,hg0,rfl⟩:=Option.map_eq_some_iff.1 hg
  obtain ⟨j,hj,hn,e⟩:=(FlR.grps h9 _).1 hP
  rw [eK] at hj
  rw [en] at hn
  rw [eg] at e
  exact h2 g0 hg0 ((FlR.grps h _).2 ⟨j,hj,hn,(List.cons.inj e).2⟩)
theorem FlR.CK.of {F F9 : FlR} (hc : F.CK) (eK : F9.K = F.K) (en : F9.nl = F.nl) (el : F9.ln = F.ln) (ee : F9.ez = fun k=>(F.ez k).map fun t=>0 :: t) (et : F9.tk = fun k=>0 :: F.tk k) (eg : F9.gr = fun k=>0 :: F.gr k) (em : F9.mrk = F.mrk) (hl : F9.U F9.lt = some (.row F9.lg 22 F9.hrow)) (hg : ∀ k,0 :: F.gr k ≠ F9.lg ∨ F9.lg = 0 :: F.lg) : F9.CK where
  K1:=by rw [eK]; exact hc.K1
  zero:=by rw [en,el]; exact hc.zero
  small:=by rw [eK,el]; exact hc.small
  ezE:=by
    rw [eK,en,ee,et]
    intro k t hk ht
    obtain ⟨t',h',rfl⟩:=Option.map_eq_some_iff.1 ht
    obtain ⟨j,a,b,rfl⟩:=hc.ezE k t' hk h'
    exact ⟨j,a,b,rfl⟩
  tkI:=by rw [eK,en,et]; exact fun j k hj hk nj nk e=>hc.tkI j k hj hk nj nk (List.cons.inj e).2
  grI:=by rw [eK,en,eg]; exact fun j k hj hk nj nk e=>hc.grI j k hj hk nj nk (List.cons.inj e).2
  hl:=hl
  lgne:=by
    rw [eK,en,eg]
    intro j hj hn e
    rcases hg j with h | h
    · exact h e
    · rw [h] at e; exact hc.lgne j hj hn (List.cons.inj e).2
  mrkE:=by rw [em]; exact hc.mrkE
theorem FlR.In.of {F F9 : FlR} {C : Nat→List Row} (h : F.In C F.U) (eK : F9.K = F.K) (en : F9.nl = F.nl) (el : F9.ln = F.ln) (et : F9.tk = fun k=>0 :: F.tk k) (eg : F9.gr = fun k=>0 :: F.gr k) (hU : Up F.U F9.U) : F9.In C F9.U:=fun j hj hn=>by
  rw [eK] at hj
  rw [en] at hn
  obtain ⟨h1,h2⟩:=h.dn j hj hn
  rw [et,eg,el]
  exact ⟨hU _ _ h1,h2⟩
theorem c70R (F : FlR) (hc : F.CK) (C : Nat→List Row) (h : F.In C F.U) (bt : Tok) (hb : F.U bt = some (.box (bagR (.sl F.lt 1 0 F.K none)))) : VCm Try.prog 70 F.U [.ptr bt 0] (bv true) (dropM (grpsOf F.U F.hrow) (upM F.U)):=
  wcontract_m (Γ:=mkEnv [] [] [(77,Snil),(78,Snil),(79,Snil),(80,Snil),(81,Snil),(82,Snil),(83,Snil),(84,Snil),(85,Snil),(86,S86),(87,Snil),(88,Snil),(89,Snil),(90,Snil),(91,Snil),(92,Snil),(93,Snil)]) (sound_mk (by simp) (by simp) (by simp [snil c77nil,snil c78nil,snil c79nil,snil c80nil,snil c81nil,snil c82nil,snil c83nil,snil c84nil,snil c85nil,s86,snil c87nil,snil c88nil,snil c89nil,snil c90nil,snil c91nil,snil c92nil,snil c93nil])) mixed is70 (by rw [nt70]; simp)
    (c70Rw Snil S86 F.U bt F.lt F.K (dropM (grpsOf F.U F.hrow) (upM F.U)) (fun M=>rfl) hb (fun τ o ho=>(dropM_some.1 ho).1) (dropM_some.2 ⟨by rw [upM_up,hb]; rfl,fun g hg=>by cases hg⟩)
      fun M hU=>by
        have hI : ({ F.dn with U:=M } : FlR).In C M:=FlR.In.of (F9:={ F.dn with U:=M }) h rfl rfl rfl rfl rfl hU
        have hC : ({ F.dn with U:=M } : FlR).CK:=FlR.CK.of hc rfl rfl rfl rfl rfl rfl rfl (hU _ _ hc.ok.hl) fun k=>.inr rfl
        exact ⟨_,S86_at hC hI,FlR.pass (F9:={ F.dn with U:=M }) h rfl rfl rfl hI hU⟩)
open Classical in
noncomputable def S70R : FM:=fun M ds=>match ds with
  | [.ptr bt 0]=>match M bt with
    | some (.box fs)=>match fs.getD 9 .undef with
      | .sl lt 1 0 n none=>match M lt with
        | some (.row _ 22 hs)=>if ∃ (F : FlR) (C : Nat→List Row),F.CK∧F.In C F.U∧F.U = M∧F.lt = lt∧F.K = n∧fs = bagR (.sl lt 1 0 n none) then some (bv true,dropM (grpsOf M hs) (upM M)) else none
        | _=>none
      | _=>none
    | _=>none
  | _=>none
theorem s70R : OkM 70 S70R:=fun m ds d m' h=>by
  unfold S70R at h
  split at h
  · split at h
    · rename_i fs hb
      split at h
      · split at h
        · split at h
          · rename_i hM hc
            cases h
            obtain ⟨F,C,h1,h2,rfl,rfl,rfl,rfl⟩:=hc
            rw [h1.hl] at hM
            cases hM
            exact c70R F h1 C h2 _ hb
          · cases h
        · cases h
      · cases h
    · cases h
  · cases h
theorem S70R_at {F : FlR} {C : Nat→List Row} (hc : F.CK) (h : F.In C F.U) {bt : Tok} (hb : F.U bt = some (.box (bagR (.sl F.lt 1 0 F.K none)))) : S70R F.U [.ptr bt 0] = some (bv true,dropM (grpsOf F.U F.hrow) (upM F.U)):=by
  have : (bagR (D.sl F.lt 1 0 F.K none)).getD 9 .undef = .sl F.lt 1 0 F.K none:=rfl
  simp only [S70R,hb,this,hc.hl]
  exact if_pos ⟨F,C,hc,h,rfl,rfl,rfl,rfl⟩
def FlR.BG (F : FlR) (k : Nat) (M : Mem) : Prop:=M [7,0] = some (.box (bagR (if k = 0 then .nil else .sl [19,k - 1,12,0] 1 0 k none)))∧(0 < k→M [19,k - 1,12,0] = some (.row [19,0,12,0] 22 ((List.range k).map fun i=>[F.dn.hdr i])))
theorem FlR.hdr_ren (F : FlR) (k : Nat) : ((F.hdr k).renC up).renC (dnTok 18 0) = F.hdr k∧∀ c,((F.hdr k).renC up).renC (dnTok 18 c) = F.hdr k:=by
  refine ⟨?_,fun c=>?_⟩ <;> · unfold FlR.hdr FlR.emp; split <;> (try split) <;> rfl
theorem FlR.BG.step {F : FlR} {k : Nat} {σ : St} (W : WF σ) (hU : Up F.U σ.m) (hc : σ.c 18 = k) (h : F.BG k σ.m) (lt lg : Tok) (hs : List (List D)) (hg : k ≠ 0→lg = [19,0,12,0]) (hhs : hs = (List.range k).map fun i=>[F.dn.hdr i]) (d : D) :
    F.BG (k + 1) (σ.adoptM 18 d (putMR σ.m [7,0] lt lg k (F.dn.hdr k) hs)).m∧Up F.U (σ.adoptM 18 d (putMR σ.m [7,0] lt lg k (F.dn.hdr k) hs)).m:=by
  refine ⟨⟨?_,fun _=>?_⟩,fun τ o ho=>?_⟩
  · have e0 : putMR σ.m [7,0] lt lg k (F.dn.hdr k) hs (0 :: [7,0]) = some (.box (bagR (.sl [12,0] 1 0 (k + 1) none))):=by simp [putMR]
    rw [adoptM_g2 W h.1 18 d e0,hc]
    simp [bagR,dnTok]
  · have e2:=adoptM_new (σ:=σ) (x:=18) (d:=d) (m':=putMR σ.m [7,0] lt lg k (F.dn.hdr k) hs) (b:=11) (r:=[0])
    rw [hc] at e2
    show (σ.adoptM 18 d (putMR σ.m [7,0] lt lg k (F.dn.hdr k) hs)).m [19,k + 1 - 1,12,0] = _
    rw [Nat.add_sub_cancel,e2]
    have e1 : putMR σ.m [7,0] lt lg k (F.dn.hdr k) hs [12,0] = some (.row (if k = 0 then [12,0] else 0 :: lg) 22 ((hs.map (List.map (D.renC up))) ++ [[(F.dn.hdr k).renC up]])):=by simp [putMR]
    rw [e1,Option.map_some]
    simp only [HO.ren,Option.some.injEq,HO.row.injEq,true_and]
    refine ⟨?_,?_⟩
    · by_cases h0 : k = 0
      · rw [if_pos h0,h0]; rfl
      · rw [if_neg h0,hg h0]; rfl
    · rw [List.range_succ,List.map_append,List.map_append,hhs]
      congr 1
      · simp only [List.map_map]
        refine List.map_congr_left fun i _=>?_
        simp only [Function.comp_def,List.map_cons,List.map_nil,(F.dn.hdr_ren i).2]
      · simp only [List.map_cons,List.map_nil,(F.dn.hdr_ren k).2]
  · have h1:=hU τ o ho
    have h2 : putMR σ.m [7,0] lt lg k (F.dn.hdr k) hs (0 :: τ) = some (o.ren up):=by
      obtain ⟨r,q,rfl,hq,rfl⟩:=upM_dom ho
      simp only [putMR]
      rw [if_neg (by simp),if_neg (by simp)]
      refine dropM_some.2 ⟨by rw [upM_up,h1]; rfl,fun g hg' hP=>?_⟩
      rw [HO.ren_grp,HO.ren_grp] at hg'
      obtain ⟨g0,hg0,rfl⟩:=Option.map_eq_some_iff.1 hg'
      obtain ⟨g1,_,rfl⟩:=Option.map_eq_some_iff.1 hg0
      have:=hP.2
      rw [hg hP.1] at this
      simp [up] at this
    rw [adoptM_gen W h1 18 d h2,up_ren ho]
theorem c51w (m69 m70 : FM) (F : FlR) (hc : F.CK) (C : Nat→List Row) (h : F.In C F.U) (hK0 : 0 < F.K)
    (h69n : ∀ (M : Mem) (bt : Tok) (h : D),M bt = some (.box (bagR .nil))→hdD h = true→m69 M [.ptr bt 0,h] = some (.tup [],putMR M bt [] [] 0 h []))
    (h69 : ∀ (M : Mem) (bt lt lg : Tok) (h : D) (n : Nat) (hs : List (List D)),M bt = some (.box (bagR (.sl lt 1 0 n none)))→n ≠ 0→M lt = some (.row lg 22 hs)→hs.length = n→(∀ c ∈ hs,c.length = 1)→hdD h = true→n≤1000→m69 M [.ptr bt 0,h] = some (.tup [],putMR M bt lt lg n h hs))
    (h70 : ∀ (F9 : FlR) (C9 : Nat→List Row) (bt : Tok),F9.CK→F9.In C9 F9.U→F9.U bt = some (.box (bagR (.sl F9.lt 1 0 F9.K none)))→m70 F9.U [.ptr bt 0] = some (bv true,dropM (grpsOf F9.U F9.hrow) (upM F9.U))) :
    wwp (mkEnv [] [] [(69,m69),(70,m70)]) W51.1 (fun e s=>okExit e∧resV W51.2 s = some (bv true)∧DrM (dropM (grpsOf F.U F.hrow) (upM F.U)) s.m) (initM F.U [.sl F.lt 1 0 F.K none]):=by
  obtain ⟨K,hK⟩ : ∃ K,K = F.K:=⟨_,rfl⟩
  have hK1:=hc.K1
  have hra : ∀ k,k < K→F.dn.hrow[k]? = some [F.dn.hdr k]:=fun k h=>F.dn.hrow_at (by show k < F.K; omega)
  have hlt : ∀ M,Up F.U M→M (0 :: F.lt) = some (.row (0 :: F.lg) 22 F.dn.hrow):=fun M hU=>hU _ _ hc.ok.hl
  have hz : zrep 17 D.nil = bagR .nil:=rfl
  have hzl : (bagR .nil).length = 17:=rfl
  have hzo : (bagR .nil).all D.okC = true:=rfl
  rw [← hK] at hK0 hK1 ⊢
  simp only [W51]
  refine wwp_cutW (wf_initM _ _) (fun σ=>Up F.U σ.m∧σ.s 0 = .sl (0 :: F.lt) 1 0 K none∧σ.c 6 = 0∧σ.c 18 = 0) (by simp; exact fun t o h=>h) ?_
  rintro σ W ⟨hU,h0,c6,c18⟩
  refine wwp_cutW W (fun σ=>Up F.U σ.m∧σ.s 0 = .sl (0 :: F.lt) 1 0 K none∧σ.c 18 = 0∧σ.s 3 = .ptr [7,0] 0∧F.BG 0 σ.m) ?_ ?_
  · rw [hz]
    simp [h0,c6,c18,bagR]
    refine ⟨Up.new' W hU 6 _ _ ?_ ?_,by simp [FlR.BG,bagR,c6]⟩
    · repeat (refine set_m_of ?_)
      rfl
    · repeat (refine set_c_of ?_)
      rfl
  clear W hU h0 c6 c18 σ
  rintro σ W ⟨hU,h0,c18,h3,hB⟩
  refine wwp_cutG (fun σ=>WF σ∧Up F.U σ.m∧σ.s 3 = .ptr [7,0] 0∧F.BG K σ.m) ?_ ?_
  · refine wwp_cut (fun σ=>Up F.U σ.m∧σ.s 0 = .sl (0 :: F.lt) 1 0 K none∧σ.c 18 = 0∧σ.s 3 = .ptr [7,0] 0∧F.BG 0 σ.m∧σ.s 4 = iv 0) (by simp [hU,h0,c18,h3,hB]) ?_
    clear W hU h0 c18 h3 hB σ
    rintro σ ⟨hU,h0,c18,h3,hB,h4⟩
    simp only [wwp_block]
    refine wwp_loop (fun σ=>∃ k : Nat,k≤K∧Up F.U σ.m∧σ.s 0 = .sl (0 :: F.lt) 1 0 K none∧σ.c 18 = k∧σ.s 3 = .ptr [7,0] 0∧F.BG k σ.m∧σ.s 4 = iv k) (fun σ=>cnt K (σ.s 4)) ?_ ?_
    · exact ⟨0,by omega,hU,h0,c18,h3,hB,h4⟩
    clear hU h0 c18 h3 hB h4 σ
    rintro σ W ⟨k,hk,hU,h0,c18,h3,hB,h4⟩
    refine wwp_seq_assoc ?_
    by_cases hkl : k < K
    · have hw1:=wrap_succ (show k≤1000000000 by omega)
      have hmu : cnt K (σ.s 4) = K - k:=by simp [h4]
      simp only [hmu]
      clear hmu
      have hz2 : (k : Int) < K:=by omega
      refine wwp_on (fun σ=>WF σ∧Up F.U σ.m∧σ.s 0 = .sl (0 :: F.lt) 1 0 K none∧σ.c 18 = k∧σ.s 3 = .ptr [7,0] 0∧F.BG k σ.m∧σ.s 4 = iv k) (by simp [hU,h0,c18,h3,hB,h4,hz2,hkl]; exact W.of rfl rfl) ?_
      clear W hU h0 c18 h3 hB h4 σ
      rintro σ ⟨W,hU,h0,c18,h3,hB,h4⟩
      refine wwp_body (fun σ=>Up F.U σ.m∧σ.s 0 = .sl (0 :: F.lt) 1 0 K none∧σ.c 18 = k + 1∧σ.s 3 = .ptr [7,0] 0∧F.BG (k + 1) σ.m∧σ.s 4 = iv k) ?_ ?_
      · have hlr:=hlt σ.m hU
        have hrk:=hra k hkl
        refine wwp_cutN1 1 W (fun σ=>Up F.U σ.m∧σ.s 0 = .sl (0 :: F.lt) 1 0 K none∧σ.c 18 = k∧σ.s 3 = .ptr [7,0] 0∧F.BG k σ.m∧σ.s 4 = iv k∧σ.s 13 = .ptr [7,0] 0∧σ.s 17 = F.dn.hdr k) (by simp [hU,h0,c18,h3,hB,h4,hlr,hrk,hkl]) ?_
        clear W hU h0 c18 h3 hB h4 hlr σ
        rintro σ W ⟨hU,h0,c18,h3,hB,h4,h13,h17⟩
        simp only [List.drop_succ_cons,List.drop_zero]
        obtain ⟨hd,hhd⟩ : ∃ hd,hd = F.dn.hdr k:=⟨_,rfl⟩
        have hdk : hdD hd = true:=by rw [hhd]; unfold FlR.hdr FlR.emp; split <;> (try split) <;> rfl
        have hdd : hd.isDef = true:=by rw [hhd]; unfold FlR.hdr FlR.emp; split <;> (try split) <;> rfl
        by_cases hk0 : k = 0
        · have e69:=h69n σ.m [7,0] hd (by rw [hB.1,if_pos hk0]) hdk
          have st:=hB.step W hU c18 [] [] [] (fun h=>absurd hk0 h) (by rw [hk0]; rfl) (.tup [])
          rw [← hhd] at h17 st
          rw [hk0] at st c18 h4 ⊢
          simp [h0,c18,h3,h4,h13,h17,hdd,e69]
          exact ⟨st.2,st.1⟩
        · have hl:=hB.2 (by omega)
          have e69:=h69 σ.m [7,0] [19,k - 1,12,0] [19,0,12,0] hd k _ (by rw [hB.1,if_neg hk0]) hk0 hl (by simp) (fun c hc=>by obtain ⟨i,_,rfl⟩:=List.mem_map.1 hc; rfl) hdk (by omega)
          have st:=hB.step W hU c18 [19,k - 1,12,0] [19,0,12,0] _ (fun _=>rfl) rfl (.tup [])
          rw [← hhd] at h17 st
          obtain ⟨P,hP⟩ : ∃ P,P = putMR σ.m [7,0] [19,k - 1,12,0] [19,0,12,0] k hd ((List.range k).map fun i=>[F.dn.hdr i]):=⟨_,rfl⟩
          rw [← hP] at e69 st
          simp [h0,c18,h3,h4,h13,h17,hdd,e69]
          exact ⟨st.2,st.1⟩
      · clear W hU h0 c18 h3 hB h4 σ
        rintro σ ⟨hU,h0,c18,h3,hB,h4⟩
        simp [hU,h0,c18,h3,hB,h4,hw1]
        exact ⟨⟨k + 1,by omega,rfl,hB,by simp⟩,by omega⟩
    · obtain rfl : k = K:=by omega
      refine wwp_off ?_
      simp [hU,h0,h3,hB,h4]
      exact W.of rfl rfl
  · clear W hU h0 c18 h3 hB σ
    rintro σ ⟨W,hU,h3,hB⟩
    have hb:=hB.1
    rw [if_neg (by omega)] at hb
    have hl:=hB.2 hK0
    refine wwp_cutN 1 W (fun σ=>Up F.U σ.m∧σ.s 19 = .ptr [7,0] 0∧σ.m [7,0] = some (.box (bagR (.sl [19,K - 1,12,0] 1 0 K none)))∧σ.m [19,K - 1,12,0] = some (.row [19,0,12,0] 22 ((List.range K).map fun i=>[F.dn.hdr i]))) (by simp [h3,hb,hl]; exact hU) ?_
    clear W hU h3 hB hb hl σ
    rintro σ W ⟨hU,h19,hb,hl⟩
    simp only [List.drop_succ_cons,List.drop_zero]
    have hI : ({ F.dn with lt:=[19,K - 1,12,0],lg:=[19,0,12,0],U:=σ.m } : FlR).In C σ.m:=FlR.In.of (F9:={ F.dn with lt:=[19,K - 1,12,0],lg:=[19,0,12,0],U:=σ.m }) h rfl rfl rfl rfl rfl hU
    have hC : ({ F.dn with lt:=[19,K - 1,12,0],lg:=[19,0,12,0],U:=σ.m } : FlR).CK:=FlR.CK.of hc rfl rfl rfl rfl rfl rfl rfl (by have e : List.range K = List.range F.K:=by { rw [hK] }; rw [e] at hl; exact hl) fun k=>.inl (by simp)
    have e70:=h70 _ C [7,0] hC hI (by have e : D.sl [19,K - 1,12,0] 1 0 K none = D.sl [19,K - 1,12,0] 1 0 F.K none:=by { rw [← hK] }; rw [e] at hb; exact hb)
    have hp:=FlR.pass (F9:={ F.dn with lt:=[19,K - 1,12,0],lg:=[19,0,12,0],U:=σ.m }) h rfl rfl rfl hI hU
    obtain ⟨D9,hD9⟩ : ∃ D9,D9 = dropM (grpsOf σ.m ({ F.dn with lt:=[19,K - 1,12,0],lg:=[19,0,12,0],U:=σ.m } : FlR).hrow) (upM σ.m):=⟨_,rfl⟩
    have e70' : m70 σ.m [.ptr [7,0] 0] = some (bv true,D9):=by rw [hD9]; exact e70
    have hp' : ∀ τ o,dropM (grpsOf F.U F.hrow) (upM F.U) τ = some o→D9 (0 :: τ) = some (o.ren up):=by rw [hD9]; exact hp
    clear e70 hp hD9
    simp [h19,e70']
    exact DrM.sp W hU (fun τ o ho=>(dropM_some.1 ho).1) hp' 20 (bv true)
theorem c51 (F : FlR) (hc : F.CK) (C : Nat→List Row) (h : F.In C F.U) (hK0 : 0 < F.K) : VCm Try.prog 51 F.U [.sl F.lt 1 0 F.K none] (bv true) (dropM (grpsOf F.U F.hrow) (upM F.U)):=
  wcontract_m (Γ:=mkEnv [] [] [(69,S69),(70,S70R)]) (sound_mk (by simp) (by simp) (by simp [s69,s70R])) mixed is51 (by rw [nt51]; simp)
    (c51w S69 S70R F hc C h hK0 (fun M bt h h1 h2=>S69_nil h1 h2) (fun M bt lt lg h n hs h1 h2 h3 h4 h5 h6 h7=>S69_at h1 h2 h3 h4 h5 h6 h7) fun F9 C9 bt h1 h2 h3=>S70R_at h1 h2 h3)
theorem FlI.pass {F F9 : FlI} {C C9 : Nat→List Int} (h : F.In C F.U) (eK : F9.K = F.K) (en : F9.nl = F.nl) (eg : F9.gr = fun k=>0 :: F.gr k) (h9 : F9.In C9 F9.U) (hU : Up F.U F9.U) :
    ∀ τ o,dropM (grpsOf F.U F.hrow) (upM F.U) τ = some o→dropM (grpsOf F9.U F9.hrow) (upM F9.U) (0 :: τ) = some (o.ren up):=fun τ o ho=>by
  obtain ⟨h1,h2⟩:=dropM_some.1 ho
  refine dropM_some.2 ⟨by rw [upM_up,hU _ _ h1]; rfl,fun g hg hP=>?_⟩
  rw [HO.ren_grp] at hg
  obtain ⟨g0,hg0,rfl⟩:=Option.map_eq_some_iff.1 hg
  obtain ⟨j,hj,hn,e⟩:=(FlI.grps h9 _).1 hP
  rw [eK] at hj
  rw [en] at hn
  rw [eg] at e
  exact h2 g0 hg0 ((FlI.grps h _).2 ⟨j,hj,hn,(List.cons.inj e).2⟩)
theorem FlI.CK.of {F F9 : FlI} (hc : F.CK) (eK : F9.K = F.K) (en : F9.nl = F.nl) (el : F9.ln = F.ln) (ee : F9.ez = fun k=>(F.ez k).map fun t=>0 :: t) (et : F9.tk = fun k=>0 :: F.tk k) (eg : F9.gr = fun k=>0 :: F.gr k) (em : F9.mrk = F.mrk) (hl : F9.U F9.lt = some (.row F9.lg 34 F9.hrow)) (hg : ∀ k,0 :: F.gr k ≠ F9.lg ∨ F9.lg = 0 :: F.lg) : F9.CK where
  K1:=by rw [eK]; exact hc.K1
  zero:=by rw [en,el]; exact hc.zero
  small:=by rw [eK,el]; exact hc.small
  ezE:=by
    rw [eK,en,ee,et]
    intro k t hk ht
    obtain ⟨t',h',rfl⟩:=Option.map_eq_some_iff.1 ht
    obtain ⟨j,a,b,rfl⟩:=hc.ezE k t' hk h'
    exact ⟨j,a,b,rfl⟩
  tkI:=by rw [eK,en,et]; exact fun j k hj hk nj nk e=>hc.tkI j k hj hk nj nk (List.cons.inj e).2
  grI:=by rw [eK,en,eg]; exact fun j k hj hk nj nk e=>hc.grI j k hj hk nj nk (List.cons.inj e).2
  hl:=hl
  lgne:=by
    rw [eK,en,eg]
    intro j hj hn e
    rcases hg j with h | h
    · exact h e
    · rw [h] at e; exact hc.lgne j hj hn (List.cons.inj e).2
  mrkE:=by rw [em]; exact hc.mrkE
theorem FlI.In.of {F F9 : FlI} {C : Nat→List Int} (h : F.In C F.U) (eK : F9.K = F.K) (en : F9.nl = F.nl) (el : F9.ln = F.ln) (et : F9.tk = fun k=>0 :: F.tk k) (eg : F9.gr = fun k=>0 :: F.gr k) (hU : Up F.U F9.U) : F9.In C F9.U:=fun j hj hn=>by
  rw [eK] at hj
  rw [en] at hn
  obtain ⟨h1,h2⟩:=h.dn j hj hn
  rw [et,eg,el]
  exact ⟨hU _ _ h1,h2⟩
theorem c70I (F : FlI) (hc : F.CK) (C : Nat→List Int) (h : F.In C F.U) (bt : Tok) (hb : F.U bt = some (.box (bagI (.sl F.lt 1 0 F.K none)))) : VCm Try.prog 70 F.U [.ptr bt 0] (bv true) (dropM (grpsOf F.U F.hrow) (upM F.U)):=
  wcontract_m (Γ:=mkEnv [] [] [(77,S77),(78,Snil),(79,Snil),(80,Snil),(81,Snil),(82,Snil),(83,Snil),(84,Snil),(85,Snil),(86,Snil),(87,Snil),(88,Snil),(89,Snil),(90,Snil),(91,Snil),(92,Snil),(93,Snil)]) (sound_mk (by simp) (by simp) (by simp [s77,snil c78nil,snil c79nil,snil c80nil,snil c81nil,snil c82nil,snil c83nil,snil c84nil,snil c85nil,snil c86nil,snil c87nil,snil c88nil,snil c89nil,snil c90nil,snil c91nil,snil c92nil,snil c93nil])) mixed is70 (by rw [nt70]; simp)
    (c70Iw Snil S77 F.U bt F.lt F.K (dropM (grpsOf F.U F.hrow) (upM F.U)) (fun M=>rfl) hb (fun τ o ho=>(dropM_some.1 ho).1) (dropM_some.2 ⟨by rw [upM_up,hb]; rfl,fun g hg=>by cases hg⟩)
      fun M hU=>by
        have hI : ({ F.dn with U:=M } : FlI).In C M:=FlI.In.of (F9:={ F.dn with U:=M }) h rfl rfl rfl rfl rfl hU
        have hC : ({ F.dn with U:=M } : FlI).CK:=FlI.CK.of hc rfl rfl rfl rfl rfl rfl rfl (hU _ _ hc.ok.hl) fun k=>.inr rfl
        exact ⟨_,S77_at hC hI,FlI.pass (F9:={ F.dn with U:=M }) h rfl rfl rfl hI hU⟩)
open Classical in
noncomputable def S70I : FM:=fun M ds=>match ds with
  | [.ptr bt 0]=>match M bt with
    | some (.box fs)=>match fs.getD 0 .undef with
      | .sl lt 1 0 n none=>match M lt with
        | some (.row _ 34 hs)=>if ∃ (F : FlI) (C : Nat→List Int),F.CK∧F.In C F.U∧F.U = M∧F.lt = lt∧F.K = n∧fs = bagI (.sl lt 1 0 n none) then some (bv true,dropM (grpsOf M hs) (upM M)) else none
        | _=>none
      | _=>none
    | _=>none
  | _=>none
theorem s70I : OkM 70 S70I:=fun m ds d m' h=>by
  unfold S70I at h
  split at h
  · split at h
    · rename_i fs hb
      split at h
      · split at h
        · split at h
          · rename_i hM hc
            cases h
            obtain ⟨F,C,h1,h2,rfl,rfl,rfl,rfl⟩:=hc
            rw [h1.hl] at hM
            cases hM
            exact c70I F h1 C h2 _ hb
          · cases h
        · cases h
      · cases h
    · cases h
  · cases h
theorem S70I_at {F : FlI} {C : Nat→List Int} (hc : F.CK) (h : F.In C F.U) {bt : Tok} (hb : F.U bt = some (.box (bagI (.sl F.lt 1 0 F.K none)))) : S70I F.U [.ptr bt 0] = some (bv true,dropM (grpsOf F.U F.hrow) (upM F.U)):=by
  have : (bagI (D.sl F.lt 1 0 F.K none)).getD 0 .undef = .sl F.lt 1 0 F.K none:=rfl
  simp only [S70I,hb,this,hc.hl]
  exact if_pos ⟨F,C,hc,h,rfl,rfl,rfl,rfl⟩
def FlI.BG (F : FlI) (k : Nat) (M : Mem) : Prop:=M [7,0] = some (.box (bagI (if k = 0 then .nil else .sl [19,k - 1,12,0] 1 0 k none)))∧(0 < k→M [19,k - 1,12,0] = some (.row [19,0,12,0] 34 ((List.range k).map fun i=>[F.dn.hdr i])))
theorem FlI.hdr_ren (F : FlI) (k : Nat) : ((F.hdr k).renC up).renC (dnTok 18 0) = F.hdr k∧∀ c,((F.hdr k).renC up).renC (dnTok 18 c) = F.hdr k:=by
  refine ⟨?_,fun c=>?_⟩ <;> · unfold FlI.hdr FlI.emp; split <;> (try split) <;> rfl
theorem FlI.BG.step {F : FlI} {k : Nat} {σ : St} (W : WF σ) (hU : Up F.U σ.m) (hc : σ.c 18 = k) (h : F.BG k σ.m) (lt lg : Tok) (hs : List (List D)) (hg : k ≠ 0→lg = [19,0,12,0]) (hhs : hs = (List.range k).map fun i=>[F.dn.hdr i]) (d : D) :
    F.BG (k + 1) (σ.adoptM 18 d (putMI σ.m [7,0] lt lg k (F.dn.hdr k) hs)).m∧Up F.U (σ.adoptM 18 d (putMI σ.m [7,0] lt lg k (F.dn.hdr k) hs)).m:=by
  refine ⟨⟨?_,fun _=>?_⟩,fun τ o ho=>?_⟩
  · have e0 : putMI σ.m [7,0] lt lg k (F.dn.hdr k) hs (0 :: [7,0]) = some (.box (bagI (.sl [12,0] 1 0 (k + 1) none))):=by simp [putMI]
    rw [adoptM_g2 W h.1 18 d e0,hc]
    simp [bagI,dnTok]
  · have e2:=adoptM_new (σ:=σ) (x:=18) (d:=d) (m':=putMI σ.m [7,0] lt lg k (F.dn.hdr k) hs) (b:=11) (r:=[0])
    rw [hc] at e2
    show (σ.adoptM 18 d (putMI σ.m [7,0] lt lg k (F.dn.hdr k) hs)).m [19,k + 1 - 1,12,0] = _
    rw [Nat.add_sub_cancel,e2]
    have e1 : putMI σ.m [7,0] lt lg k (F.dn.hdr k) hs [12,0] = some (.row (if k = 0 then [12,0] else 0 :: lg) 34 ((hs.map (List.map (D.renC up))) ++ [[(F.dn.hdr k).renC up]])):=by simp [putMI]
    rw [e1,Option.map_some]
    simp only [HO.ren,Option.some.injEq,HO.row.injEq,true_and]
    refine ⟨?_,?_⟩
    · by_cases h0 : k = 0
      · rw [if_pos h0,h0]; rfl
      · rw [if_neg h0,hg h0]; rfl
    · rw [List.range_succ,List.map_append,List.map_append,hhs]
      congr 1
      · simp only [List.map_map]
        refine List.map_congr_left fun i _=>?_
        simp only [Function.comp_def,List.map_cons,List.map_nil,(F.dn.hdr_ren i).2]
      · simp only [List.map_cons,List.map_nil,(F.dn.hdr_ren k).2]
  · have h1:=hU τ o ho
    have h2 : putMI σ.m [7,0] lt lg k (F.dn.hdr k) hs (0 :: τ) = some (o.ren up):=by
      obtain ⟨r,q,rfl,hq,rfl⟩:=upM_dom ho
      simp only [putMI]
      rw [if_neg (by simp),if_neg (by simp)]
      refine dropM_some.2 ⟨by rw [upM_up,h1]; rfl,fun g hg' hP=>?_⟩
      rw [HO.ren_grp,HO.ren_grp] at hg'
      obtain ⟨g0,hg0,rfl⟩:=Option.map_eq_some_iff.1 hg'
      obtain ⟨g1,_,rfl⟩:=Option.map_eq_some_iff.1 hg0
      have:=hP.2
      rw [hg hP.1] at this
      simp [up] at this
    rw [adoptM_gen W h1 18 d h2,up_ren ho]
theorem c52w (m71 m70 : FM) (F : FlI) (hc : F.CK) (C : Nat→List Int) (h : F.In C F.U) (hK0 : 0 < F.K)
    (h71n : ∀ (M : Mem) (bt : Tok) (h : D),M bt = some (.box (bagI .nil))→hdD h = true→m71 M [.ptr bt 0,h] = some (.tup [],putMI M bt [] [] 0 h []))
    (h71 : ∀ (M : Mem) (bt lt lg : Tok) (h : D) (n : Nat) (hs : List (List D)),M bt = some (.box (bagI (.sl lt 1 0 n none)))→n ≠ 0→M lt = some (.row lg 34 hs)→hs.length = n→(∀ c ∈ hs,c.length = 1)→hdD h = true→n≤1000→m71 M [.ptr bt 0,h] = some (.tup [],putMI M bt lt lg n h hs))
    (h70 : ∀ (F9 : FlI) (C9 : Nat→List Int) (bt : Tok),F9.CK→F9.In C9 F9.U→F9.U bt = some (.box (bagI (.sl F9.lt 1 0 F9.K none)))→m70 F9.U [.ptr bt 0] = some (bv true,dropM (grpsOf F9.U F9.hrow) (upM F9.U))) :
    wwp (mkEnv [] [] [(71,m71),(70,m70)]) W52.1 (fun e s=>okExit e∧resV W52.2 s = some (bv true)∧DrM (dropM (grpsOf F.U F.hrow) (upM F.U)) s.m) (initM F.U [.sl F.lt 1 0 F.K none]):=by
  obtain ⟨K,hK⟩ : ∃ K,K = F.K:=⟨_,rfl⟩
  have hK1:=hc.K1
  have hra : ∀ k,k < K→F.dn.hrow[k]? = some [F.dn.hdr k]:=fun k h=>F.dn.hrow_at (by show k < F.K; omega)
  have hlt : ∀ M,Up F.U M→M (0 :: F.lt) = some (.row (0 :: F.lg) 34 F.dn.hrow):=fun M hU=>hU _ _ hc.ok.hl
  have hz : zrep 17 D.nil = bagI .nil:=rfl
  have hzl : (bagI .nil).length = 17:=rfl
  have hzo : (bagI .nil).all D.okC = true:=rfl
  rw [← hK] at hK0 hK1 ⊢
  simp only [W52]
  refine wwp_cutW (wf_initM _ _) (fun σ=>Up F.U σ.m∧σ.s 0 = .sl (0 :: F.lt) 1 0 K none∧σ.c 6 = 0∧σ.c 18 = 0) (by simp; exact fun t o h=>h) ?_
  rintro σ W ⟨hU,h0,c6,c18⟩
  refine wwp_cutW W (fun σ=>Up F.U σ.m∧σ.s 0 = .sl (0 :: F.lt) 1 0 K none∧σ.c 18 = 0∧σ.s 3 = .ptr [7,0] 0∧F.BG 0 σ.m) ?_ ?_
  · rw [hz]
    simp [h0,c6,c18,bagI]
    refine ⟨Up.new' W hU 6 _ _ ?_ ?_,by simp [FlI.BG,bagI,c6]⟩
    · repeat (refine set_m_of ?_)
      rfl
    · repeat (refine set_c_of ?_)
      rfl
  clear W hU h0 c6 c18 σ
  rintro σ W ⟨hU,h0,c18,h3,hB⟩
  refine wwp_cutG (fun σ=>WF σ∧Up F.U σ.m∧σ.s 3 = .ptr [7,0] 0∧F.BG K σ.m) ?_ ?_
  · refine wwp_cut (fun σ=>Up F.U σ.m∧σ.s 0 = .sl (0 :: F.lt) 1 0 K none∧σ.c 18 = 0∧σ.s 3 = .ptr [7,0] 0∧F.BG 0 σ.m∧σ.s 4 = iv 0) (by simp [hU,h0,c18,h3,hB]) ?_
    clear W hU h0 c18 h3 hB σ
    rintro σ ⟨hU,h0,c18,h3,hB,h4⟩
    simp only [wwp_block]
    refine wwp_loop (fun σ=>∃ k : Nat,k≤K∧Up F.U σ.m∧σ.s 0 = .sl (0 :: F.lt) 1 0 K none∧σ.c 18 = k∧σ.s 3 = .ptr [7,0] 0∧F.BG k σ.m∧σ.s 4 = iv k) (fun σ=>cnt K (σ.s 4)) ?_ ?_
    · exact ⟨0,by omega,hU,h0,c18,h3,hB,h4⟩
    clear hU h0 c18 h3 hB h4 σ
    rintro σ W ⟨k,hk,hU,h0,c18,h3,hB,h4⟩
    refine wwp_seq_assoc ?_
    by_cases hkl : k < K
    · have hw1:=wrap_succ (show k≤1000000000 by omega)
      have hmu : cnt K (σ.s 4) = K - k:=by simp [h4]
      simp only [hmu]
      clear hmu
      have hz2 : (k : Int) < K:=by omega
      refine wwp_on (fun σ=>WF σ∧Up F.U σ.m∧σ.s 0 = .sl (0 :: F.lt) 1 0 K none∧σ.c 18 = k∧σ.s 3 = .ptr [7,0] 0∧F.BG k σ.m∧σ.s 4 = iv k) (by simp [hU,h0,c18,h3,hB,h4,hz2,hkl]; exact W.of rfl rfl) ?_
      clear W hU h0 c18 h3 hB h4 σ
      rintro σ ⟨W,hU,h0,c18,h3,hB,h4⟩
      refine wwp_body (fun σ=>Up F.U σ.m∧σ.s 0 = .sl (0 :: F.lt) 1 0 K none∧σ.c 18 = k + 1∧σ.s 3 = .ptr [7,0] 0∧F.BG (k + 1) σ.m∧σ.s 4 = iv k) ?_ ?_
      · have hlr:=hlt σ.m hU
        have hrk:=hra k hkl
        refine wwp_cutN1 1 W (fun σ=>Up F.U σ.m∧σ.s 0 = .sl (0 :: F.lt) 1 0 K none∧σ.c 18 = k∧σ.s 3 = .ptr [7,0] 0∧F.BG k σ.m∧σ.s 4 = iv k∧σ.s 13 = .ptr [7,0] 0∧σ.s 17 = F.dn.hdr k) (by simp [hU,h0,c18,h3,hB,h4,hlr,hrk,hkl]) ?_
        clear W hU h0 c18 h3 hB h4 hlr σ
        rintro σ W ⟨hU,h0,c18,h3,hB,h4,h13,h17⟩
        simp only [List.drop_succ_cons,List.drop_zero]
        obtain ⟨hd,hhd⟩ : ∃ hd,hd = F.dn.hdr k:=⟨_,rfl⟩
        have hdk : hdD hd = true:=by rw [hhd]; unfold FlI.hdr FlI.emp; split <;> (try split) <;> rfl
        have hdd : hd.isDef = true:=by rw [hhd]; unfold FlI.hdr FlI.emp; split <;> (try split) <;> rfl
        by_cases hk0 : k = 0
        · have e71:=h71n σ.m [7,0] hd (by rw [hB.1,if_pos hk0]) hdk
          have st:=hB.step W hU c18 [] [] [] (fun h=>absurd hk0 h) (by rw [hk0]; rfl) (.tup [])
          rw [← hhd] at h17 st
          rw [hk0] at st c18 h4 ⊢
          simp [h0,c18,h3,h4,h13,h17,hdd,e71]
          exact ⟨st.2,st.1⟩
        · have hl:=hB.2 (by omega)
          have e71:=h71 σ.m [7,0] [19,k - 1,12,0] [19,0,12,0] hd k _ (by rw [hB.1,if_neg hk0]) hk0 hl (by simp) (fun c hc=>by obtain ⟨i,_,rfl⟩:=List.mem_map.1 hc; rfl) hdk (by omega)
          have st:=hB.step W hU c18 [19,k - 1,12,0] [19,0,12,0] _ (fun _=>rfl) rfl (.tup [])
          rw [← hhd] at h17 st
          obtain ⟨P,hP⟩ : ∃ P,P = putMI σ.m [7,0] [19,k - 1,12,0] [19,0,12,0] k hd ((List.range k).map fun i=>[F.dn.hdr i]):=⟨_,rfl⟩
          rw [← hP] at e71 st
          simp [h0,c18,h3,h4,h13,h17,hdd,e71]
          exact ⟨st.2,st.1⟩
      · clear W hU h0 c18 h3 hB h4 σ
        rintro σ ⟨hU,h0,c18,h3,hB,h4⟩
        simp [hU,h0,c18,h3,hB,h4,hw1]
        exact ⟨⟨k + 1,by omega,rfl,hB,by simp⟩,by omega⟩
    · obtain rfl : k = K:=by omega
      refine wwp_off ?_
      simp [hU,h0,h3,hB,h4]
      exact W.of rfl rfl
  · clear W hU h0 c18 h3 hB σ
    rintro σ ⟨W,hU,h3,hB⟩
    have hb:=hB.1
    rw [if_neg (by omega)] at hb
    have hl:=hB.2 hK0
    refine wwp_cutN 1 W (fun σ=>Up F.U σ.m∧σ.s 19 = .ptr [7,0] 0∧σ.m [7,0] = some (.box (bagI (.sl [19,K - 1,12,0] 1 0 K none)))∧σ.m [19,K - 1,12,0] = some (.row [19,0,12,0] 34 ((List.range K).map fun i=>[F.dn.hdr i]))) (by simp [h3,hb,hl]; exact hU) ?_
    clear W hU h3 hB hb hl σ
    rintro σ W ⟨hU,h19,hb,hl⟩
    simp only [List.drop_succ_cons,List.drop_zero]
    have hI : ({ F.dn with lt:=[19,K - 1,12,0],lg:=[19,0,12,0],U:=σ.m } : FlI).In C σ.m:=FlI.In.of (F9:={ F.dn with lt:=[19,K - 1,12,0],lg:=[19,0,12,0],U:=σ.m }) h rfl rfl rfl rfl rfl hU
    have hC : ({ F.dn with lt:=[19,K - 1,12,0],lg:=[19,0,12,0],U:=σ.m } : FlI).CK:=FlI.CK.of hc rfl rfl rfl rfl rfl rfl rfl (by have e : List.range K = List.range F.K:=by { rw [hK] }; rw [e] at hl; exact hl) fun k=>.inl (by simp)
    have e70:=h70 _ C [7,0] hC hI (by have e : D.sl [19,K - 1,12,0] 1 0 K none = D.sl [19,K - 1,12,0] 1 0 F.K none:=by { rw [← hK] }; rw [e] at hb; exact hb)
    have hp:=FlI.pass (F9:={ F.dn with lt:=[19,K - 1,12,0],lg:=[19,0,12,0],U:=σ.m }) h rfl rfl rfl hI hU
    obtain ⟨D9,hD9⟩ : ∃ D9,D9 = dropM (grpsOf σ.m ({ F.dn with lt:=[19,K - 1,12,0],lg:=[19,0,12,0],U:=σ.m } : FlI).hrow) (upM σ.m):=⟨_,rfl⟩
    have e70' : m70 σ.m [.ptr [7,0] 0] = some (bv true,D9):=by rw [hD9]; exact e70
    have hp' : ∀ τ o,dropM (grpsOf F.U F.hrow) (upM F.U) τ = some o→D9 (0 :: τ) = some (o.ren up):=by rw [hD9]; exact hp
    clear e70 hp hD9
    simp [h19,e70']
    exact DrM.sp W hU (fun τ o ho=>(dropM_some.1 ho).1) hp' 20 (bv true)
theorem c52 (F : FlI) (hc : F.CK) (C : Nat→List Int) (h : F.In C F.U) (hK0 : 0 < F.K) : VCm Try.prog 52 F.U [.sl F.lt 1 0 F.K none] (bv true) (dropM (grpsOf F.U F.hrow) (upM F.U)):=
  wcontract_m (Γ:=mkEnv [] [] [(71,S71),(70,S70I)]) (sound_mk (by simp) (by simp) (by simp [s71,s70I])) mixed is52 (by rw [nt52]; simp)
    (c52w S71 S70I F hc C h hK0 (fun M bt h h1 h2=>S71_nil h1 h2) (fun M bt lt lg h n hs h1 h2 h3 h4 h5 h6 h7=>S71_at h1 h2 h3 h4 h5 h6 h7) fun F9 C9 bt h1 h2 h3=>S70I_at h1 h2 h3)
end Go.Proofs.Ytpmgaaalfdjikaa
namespace Go.Proofs.Ytpmgaaalfdjikaa
open Go.RowKit
set_option linter.unusedSimpArgs false
set_option linter.unusedVariables false
def frH (f : Nat) : Nat:=if f = 17 ∨ f = 41 ∨ f = 24 then 2 else frOf f
def WH17 : WC × List VRes:=(.seq (.reg [.stm (.eff (.box 2 (.t 0)) none),.stm (.eff (.box 4 (.c (.agg [.v (.int .i64 0),.v (.int .i64 0),.v (.int .i64 0),.v (.int .i64 0),.v (.int .i64 0),.nil]))) none),.set [(5,.c (.v (.int .i64 0)))] [5]]) (.seq (.seq (.reg [.set [(8,.ap .inot [.ap (.call 27) [.ap (.load 6 true) [.t 2]]])] [6,7,8]]) (.cond (.t 8) (.seq (.reg [.set [(9,.ap (.build [.v (.int .i64 0),.v (.int .i64 0),.v (.int .i64 0),.v (.int .i64 0),.v (.int .i64 0),.nil] []) [])] [9],.stm (.eff (.store 6 (.t 4) (.t 9)) none),.set [(5,.c (.v (.int .i64 290)))] [5]]) .ret) .skip)) (.seq (.seq (.reg [.set [(13,.ap .inot [.ap (.call 39) [.ap (.load 6 true) [.t 2],.t 1]])] [10,11,12,13]]) (.cond (.t 13) (.seq (.reg [.set [(14,.ap (.build [.v (.int .i64 0),.v (.int .i64 0),.v (.int .i64 0),.v (.int .i64 0),.v (.int .i64 0),.nil] []) [])] [14],.stm (.eff (.store 6 (.t 4) (.t 14)) none),.set [(5,.c (.v (.int .i64 291)))] [5]]) .ret) .skip)) (.seq (.reg [.set [(15,.ap (.load 6 true) [.t 2]),(16,.t 1)] [15,16],.stm (.eff (.callm 17 41 [.t 15,.t 16]) none),.stm (.eff (.store 6 (.t 4) (.t 17)) none),.set [(5,.c (.v (.int .i64 0)))] [5]]) .ret))),[.cell 4 6 true,.t 5])
theorem isH17 : IsFn Try.prog frH 17 Try.f17 WH17:=⟨by kernel_rfl,by kernel_rfl,by kernel_rfl⟩
def WH41 : WC × List VRes:=(.seq (.reg [.stm (.eff (.box 2 (.t 0)) none),.stm (.eff (.box 3 (.t 1)) none),.stm (.eff (.box 4 (.c (.agg [.v (.int .i64 0),.v (.int .i64 0),.v (.int .i64 0),.v (.int .i64 0),.v (.int .i64 0),.nil]))) none)]) (.seq (.reg [.set [(5,.ap (.clo 62) [.t 3])] [8,5]]) (.seq (.reg [.set [(10,.ap (.load 1 false) [.ap (.fld 5) [.t 2]])] [9,10],.stm (.eff (.callm 11 24 [.t 10]) none),.set [(12,.ap (.fld 5) [.t 2])] [12],.stm (.eff (.store 1 (.t 12) (.t 11)) none)]) (.seq (.seq (.reg [.set [(14,.ap (.load 1 false) [.ap (.fld 5) [.t 2]]),(15,.ap .llen [.ap (.load 1 false) [.ap (.fld 5) [.t 2]]]),(16,.c (.v (.int .i64 0)))] [13,14,15,16]]) (.block 0 (.loop (.seq (.reg [.set [(17,.ap (.ibin .lss) [.t 16,.t 15])] [17]]) (.seq (.cond (.t 17) .skip (.exit 0)) (.seq (.block 1 (.seq (.reg [.set [(18,.t 16),(20,.ap (.load 5 true) [.ap (.idx 53 5) [.t 14,.t 16]])] [18,19,20],.stm (.eff (.box 7 (.c (.agg [.v (.int .i64 0),.v (.int .i64 0),.v (.int .i64 0),.v (.int .i64 0),.v (.int .i64 0)]))) none),.set [(6,.t 18)] [6],.stm (.eff (.store 5 (.t 7) (.t 20)) none)]) (.seq (.reg [.set [(24,.ap .ccall [.t 5,.ap (.load 1 false) [.ap (.fld 0) [.t 7]]])] [21,22,23,24]]) (.cond (.t 24) (.drw [[.op 25 (.fld 5) [.t 2] none,.op 26 (.load 1 false) [.t 25] none,.op 27 .mv [.t 6] none,.op 28 (.fld 5) [.t 2] none,.op 30 .mv [.t 6] none,.op 31 (.fld 3) [.t 7] none,.op 32 (.load 1 false) [.t 31] none,.op 33 (.fld 2) [.t 7] none,.op 35 (.idx 53 5) [.t 26,.t 27] none,.op 36 (.fld 2) [.t 35] none,.op 29 (.load 1 false) [.t 28] none,.op 34 (.load 1 false) [.t 33] none,.eff (.store 1 (.t 36) (.t 32)) none,.op 37 (.idx 53 5) [.t 29,.t 30] none,.op 38 (.fld 3) [.t 37] none,.eff (.store 1 (.t 38) (.t 34)) none],[.op 25 (.fld 5) [.t 2] none,.op 26 (.load 1 false) [.t 25] none,.op 27 .mv [.t 6] none,.op 28 (.fld 5) [.t 2] none,.op 30 .mv [.t 6] none,.op 31 (.fld 3) [.t 7] none,.op 32 (.load 1 false) [.t 31] none,.op 33 (.fld 2) [.t 7] none,.op 35 (.idx 53 5) [.t 26,.t 27] none,.op 36 (.fld 2) [.t 35] none,.op 29 (.load 1 false) [.t 28] none,.eff (.store 1 (.t 36) (.t 32)) none,.op 34 (.load 1 false) [.t 33] none,.op 37 (.idx 53 5) [.t 29,.t 30] none,.op 38 (.fld 3) [.t 37] none,.eff (.store 1 (.t 38) (.t 34)) none],[.op 25 (.fld 5) [.t 2] none,.op 26 (.load 1 false) [.t 25] none,.op 27 .mv [.t 6] none,.op 28 (.fld 5) [.t 2] none,.op 30 .mv [.t 6] none,.op 31 (.fld 3) [.t 7] none,.op 32 (.load 1 false) [.t 31] none,.op 33 (.fld 2) [.t 7] none,.op 35 (.idx 53 5) [.t 26,.t 27] none,.op 36 (.fld 2) [.t 35] none,.op 34 (.load 1 false) [.t 33] none,.op 29 (.load 1 false) [.t 28] none,.eff (.store 1 (.t 36) (.t 32)) none,.op 37 (.idx 53 5) [.t 29,.t 30] none,.op 38 (.fld 3) [.t 37] none,.eff (.store 1 (.t 38) (.t 34)) none],[.op 25 (.fld 5) [.t 2] none,.op 26 (.load 1 false) [.t 25] none,.op 27 .mv [.t 6] none,.op 28 (.fld 5) [.t 2] none,.op 30 .mv [.t 6] none,.op 31 (.fld 3) [.t 7] none,.op 32 (.load 1 false) [.t 31] none,.op 33 (.fld 2) [.t 7] none,.op 35 (.idx 53 5) [.t 26,.t 27] none,.op 36 (.fld 2) [.t 35] none,.op 34 (.load 1 false) [.t 33] none,.eff (.store 1 (.t 36) (.t 32)) none,.op 29 (.load 1 false) [.t 28] none,.op 37 (.idx 53 5) [.t 29,.t 30] none,.op 38 (.fld 3) [.t 37] none,.eff (.store 1 (.t 38) (.t 34)) none],[.op 25 (.fld 5) [.t 2] none,.op 26 (.load 1 false) [.t 25] none,.op 27 .mv [.t 6] none,.op 28 (.fld 5) [.t 2] none,.op 30 .mv [.t 6] none,.op 31 (.fld 3) [.t 7] none,.op 32 (.load 1 false) [.t 31] none,.op 33 (.fld 2) [.t 7] none,.op 35 (.idx 53 5) [.t 26,.t 27] none,.op 36 (.fld 2) [.t 35] none,.eff (.store 1 (.t 36) (.t 32)) none,.op 29 (.load 1 false) [.t 28] none,.op 34 (.load 1 false) [.t 33] none,.op 37 (.idx 53 5) [.t 29,.t 30] none,.op 38 (.fld 3) [.t 37] none,.eff (.store 1 (.t 38) (.t 34)) none]]) .skip)))) (.reg [.set [(16,.ap (.ibin .add) [.t 16,.c (.v (.int .i64 1))])] [39,16]]))))))) (.seq (.seq (.reg [.set [(42,.ap (.ibin .gtr) [.ap .llen [.ap (.load 1 false) [.t 3]],.c (.v (.int .i64 0))])] [40,41,42]]) (.cond (.t 42) (.reg [.set [(43,.ap (.fld 4) [.t 2])] [43],.stm (.eff (.store 1 (.t 43) (.c (.v (.int .i64 1)))) none)]) .skip)) (.seq (.reg [.set [(44,.ap (.load 6 true) [.t 2])] [44],.stm (.eff (.store 6 (.t 4) (.t 44)) none)]) .ret))))),[.cell 4 6 true])
theorem isH41 : IsFn Try.prog frH 41 Try.f41 WH41:=⟨by kernel_rfl,by kernel_rfl,by kernel_rfl⟩
def one (t : Tok) : Tok:=1 :: t
def oneM (m m' : Mem) : Mem:=fun τ=>match τ with
  | 0 :: r=>(m r).map (HO.ren up)
  | 1 :: r=>(m' r).map (HO.ren one)
  | _=>none
theorem VCm.ofq {P : Program} {f : Nat} {m m' : Mem} {ds es : List D} {d : D} (h : VCq P f es d m')
    (hv : ∀ (w : World) (pr : Prot) (tk : Places) (vs : List Value),(∀ b o,pr b o→b < w.heap.size)→MemOK P w pr tk m→Reps w pr tk vs ds→Reps w (allPr w) noTok vs es) : VCm P f m ds (d.ren one) (oneM m m'):=by
  refine ⟨h.1,fun w pr tk cargs hpr hprA M hargs=>?_⟩
  refine (h.2 w (allPr w) cargs (fun _ _ h=>h) (hv w pr tk _ hpr M hargs)).mono ?_
  rintro e w' ⟨v,tkc,rfl,hc,MC,hnew,hv'⟩
  let tk' : Places:=fun t=>match t with
    | 0 :: r=>tk r
    | 1 :: r=>tkc r
    | _=>none
  have oldlt : ∀ t q b c,m t = some q→tk t = some (b,c)→b < w.heap.size:=fun t q b c h ht=>by
    obtain ⟨b1,c1,h1,h2⟩:=(M.obj t q h).place
    rw [ht] at h1; cases h1; exact h2
  have K : Keeps w w' pr pr tk tk:=⟨fun b o hb=>⟨hc.cell o (hpr b o hb) id,hb⟩,fun _ _ h=>h⟩
  have dom : ∀ t o,oneM m m' t = some o→(∃ r q,t = up r∧m r = some q∧o = q.ren up) ∨ ∃ r q,t = one r∧m' r = some q∧o = q.ren one:=fun t o h=>by
    match t,h with
    | [],h=>cases h
    | 0 :: r,h=>obtain ⟨q,hq,rfl⟩:=Option.map_eq_some_iff.1 h; exact .inl ⟨r,q,rfl,hq,rfl⟩
    | 1 :: r,h=>obtain ⟨q,hq,rfl⟩:=Option.map_eq_some_iff.1 h; exact .inr ⟨r,q,rfl,hq,rfl⟩
    | (_ + 2) :: _,h=>cases h
  refine ⟨v,tk',rfl,hc.mono fun _ _ h=>h.elim,fun t=>rfl,⟨fun t o ho=>?_,fun t t' o o' b c c' ho ho' ht ht'=>?_⟩,fun t o b c ho ht=>?_,hv'.ren (f:=one) (fun _ _ h=>h.elim) (fun t p h=>h)⟩
  · rcases dom t o ho with ⟨r,q,rfl,hq,rfl⟩ | ⟨r,q,rfl,hq,rfl⟩
    · exact ((M.obj r q hq).keeps K fun b c hb=>hc.block b (oldlt r q b c hq hb) id).ren (fun _ _ h=>h) (fun t p h=>h)
    · exact (MC.obj r q hq).ren (fun _ _ h=>h.elim) (fun t p h=>h)
  · rcases dom t o ho with ⟨r,q,rfl,hq,rfl⟩ | ⟨r,q,rfl,hq,rfl⟩ <;> rcases dom t' o' ho' with ⟨r',q',rfl,hq',rfl⟩ | ⟨r',q',rfl,hq',rfl⟩
    · rcases M.inj r r' q q' b c c' hq hq' ht ht' with h | ⟨h1,h2⟩
      · left; rw [h]
      · right
        rw [HO.ren_grp,HO.ren_grp,h2]
        exact ⟨by rw [← h2]; simpa using h1,rfl⟩
    · have:=oldlt r q b c hq ht
      have:=hnew r' q' b c' hq' ht'
      omega
    · have:=oldlt r' q' b c' hq' ht'
      have:=hnew r q b c hq ht
      omega
    · rcases MC.inj r r' q q' b c c' hq hq' ht ht' with h | ⟨h1,h2⟩
      · left; rw [h]
      · right
        rw [HO.ren_grp,HO.ren_grp,h2]
        exact ⟨by rw [← h2]; simpa using h1,rfl⟩
  · rcases dom t o ho with ⟨r,q,rfl,hq,rfl⟩ | ⟨r,q,rfl,hq,rfl⟩
    · exact .inr ⟨r,q,c,hq,ht⟩
    · exact .inl (hnew r q b c hq ht)
theorem rep_mt {w : World} {pr pr' : Prot} {tk tk' : Places} {v : Value} (h : Rep w pr tk v .mt) : Rep w pr' tk' v .mt:=by
  cases h; exact .mt
theorem rep_sl0 {w : World} {pr pr' : Prot} {tk tk' : Places} {v : Value} {t : Tok} {size off : Nat} {lim : Option Nat} (h : Rep w pr tk v (.sl t size off 0 lim)) : Rep w pr' tk' v .mt:=by
  cases h; exact .mt
def S24H : FM:=fun M ds=>match ds with
  | [.mt]=>some (.sl [1] 5 0 0 none,oneM M (rowMem 53 []))
  | _=>none
theorem s24H : OkM 24 S24H:=fun m ds d m' h=>by
  unfold S24H at h
  split at h
  · cases h
    exact VCm.ofq c24_mt fun w pr tk vs _ _ hr=>by
      match vs,hr with
      | [v],hr=>exact ⟨rep_mt hr.1,trivial⟩
  · cases h
theorem c41Hw (m24 : FM) (m : Mv) (L : List Int) (h24 : ∀ M,m24 M [.mt] = some (.sl [1] 5 0 0 none,oneM M (rowMem 53 []))) :
    wwp (mkEnv [] [] [(24,m24)]) WH41.1 (fun e s=>okExit e∧∃ d0,resV WH41.2 s = some d0∧Out s d0 (.agg ((exch m L).cellsW (.sl [] 5 0 0 none))) (rowMem 53 [])) (initV [.agg (m.cellsW .mt),.list (ints L)]):=by
  simp only [WH41]
  refine wwp_cutW (wf_init _) (fun σ=>σ.s 2 = .ptr [3,0] 0∧σ.s 3 = .ptr [4,0] 0∧σ.s 4 = .ptr [5,0] 0∧σ.m [3,0] = some (.box (m.cellsW .mt))∧σ.m [4,0] = some (.box [.list (ints L)])∧σ.m [5,0] = some (.box noMv)∧σ.c 11 = 0) (by simp [Mv.cellsW,noMv]) ?_
  rintro σ W ⟨h2,h3,h4,m3,m4,m5,c11⟩
  simp only [Mv.cellsW,noMv] at m3 m5
  refine wwp_cutW W (fun σ=>σ.s 2 = .ptr [3,0] 0∧σ.s 3 = .ptr [4,0] 0∧σ.s 4 = .ptr [5,0] 0∧σ.m [3,0] = some (.box [iv m.t,iv m.r,iv m.s,iv m.c,iv m.w,.mt])∧σ.m [4,0] = some (.box [.list (ints L)])∧σ.m [5,0] = some (.box [iv 0,iv 0,iv 0,iv 0,iv 0,.nil])∧σ.c 11 = 0) (by simp [h2,h3,h4,m3,m4,m5,c11]) ?_
  clear W h2 h3 h4 m3 m4 m5 c11 σ
  rintro σ W ⟨h2,h3,h4,m3,m4,m5,c11⟩
  refine wwp_cutN 1 W (fun σ=>σ.s 10 = .mt∧σ.s 2 = .ptr [3,0] 0∧σ.s 3 = .ptr [4,0] 0∧σ.s 4 = .ptr [5,0] 0∧σ.m [3,0] = some (.box [iv m.t,iv m.r,iv m.s,iv m.c,iv m.w,.mt])∧σ.m [4,0] = some (.box [.list (ints L)])∧σ.m [5,0] = some (.box [iv 0,iv 0,iv 0,iv 0,iv 0,.nil])∧σ.c 11 = 0) (by simp [h2,h3,h4,m3,m4,m5,c11]) ?_
  clear W h2 h3 h4 m3 m4 m5 c11 σ
  rintro σ W ⟨h10,h2,h3,h4,m3,m4,m5,c11⟩
  simp only [List.drop_succ_cons,List.drop_zero]
  have e24:=h24 σ.m
  refine wwp_cutN 1 W (fun σ=>σ.s 11 = .sl [12,0,1] 5 0 0 none∧σ.s 2 = .ptr [3,0] 0∧σ.s 3 = .ptr [4,0] 0∧σ.s 4 = .ptr [5,0] 0∧σ.m [3,0] = some (.box [iv m.t,iv m.r,iv m.s,iv m.c,iv m.w,.mt])∧σ.m [4,0] = some (.box [.list (ints L)])∧σ.m [5,0] = some (.box [iv 0,iv 0,iv 0,iv 0,iv 0,.nil])∧σ.m [12,0,1] = some (.row [12,0,1,0] 53 [])) ?_ ?_
  · have k3:=adoptM_gen W m3 11 (.sl [1] 5 0 0 none) (m':=oneM σ.m (rowMem 53 [])) (by simp only [oneM,m3]; rfl)
    have k4:=adoptM_gen W m4 11 (.sl [1] 5 0 0 none) (m':=oneM σ.m (rowMem 53 [])) (by simp only [oneM,m4]; rfl)
    have k5:=adoptM_gen W m5 11 (.sl [1] 5 0 0 none) (m':=oneM σ.m (rowMem 53 [])) (by simp only [oneM,m5]; rfl)
    have k6:=adoptM_new (σ:=σ) (x:=11) (d:=.sl [1] 5 0 0 none) (m':=oneM σ.m (rowMem 53 [])) (b:=0) (r:=[])
    rw [c11] at k6
    simp [h10,h2,h3,h4,e24,c11]
    exact ⟨by simp [dnTok],by rw [k3]; rfl,by rw [k4]; rfl,by rw [k5]; rfl,by rw [show ([12,0,1] : Tok) = (11 + 1) :: 0 :: (0 + 1) :: [] from rfl,k6]; rfl⟩
  clear W h10 h2 h3 h4 m3 m4 m5 c11 e24 σ
  rintro σ W ⟨h11,h2,h3,h4,m3,m4,m5,m12⟩
  simp only [List.drop_succ_cons,List.drop_zero]
  refine wwp_cutW W (fun σ=>σ.s 2 = .ptr [3,0] 0∧σ.s 3 = .ptr [4,0] 0∧σ.s 4 = .ptr [5,0] 0∧σ.m [3,0] = some (.box [iv m.t,iv m.r,iv m.s,iv m.c,iv m.w,.sl [12,0,1] 5 0 0 none])∧σ.m [4,0] = some (.box [.list (ints L)])∧σ.m [5,0] = some (.box [iv 0,iv 0,iv 0,iv 0,iv 0,.nil])∧σ.m [12,0,1] = some (.row [12,0,1,0] 53 [])) (by simp [h11,h2,h3,h4,m3,m4,m5,m12,putAt]) ?_
  clear W h11 h2 h3 h4 m3 m4 m5 m12 σ
  rintro σ W ⟨h2,h3,h4,m3,m4,m5,m12⟩
  refine wwp_cutG (fun σ=>σ.s 2 = .ptr [3,0] 0∧σ.s 3 = .ptr [4,0] 0∧σ.s 4 = .ptr [5,0] 0∧σ.m [3,0] = some (.box [iv m.t,iv m.r,iv m.s,iv m.c,iv m.w,.sl [12,0,1] 5 0 0 none])∧σ.m [4,0] = some (.box [.list (ints L)])∧σ.m [5,0] = some (.box [iv 0,iv 0,iv 0,iv 0,iv 0,.nil])∧σ.m [12,0,1] = some (.row [12,0,1,0] 53 [])) ?_ ?_
  · refine wwp_cut (fun σ=>σ.s 2 = .ptr [3,0] 0∧σ.s 3 = .ptr [4,0] 0∧σ.s 4 = .ptr [5,0] 0∧σ.m [3,0] = some (.box [iv m.t,iv m.r,iv m.s,iv m.c,iv m.w,.sl [12,0,1] 5 0 0 none])∧σ.m [4,0] = some (.box [.list (ints L)])∧σ.m [5,0] = some (.box [iv 0,iv 0,iv 0,iv 0,iv 0,.nil])∧σ.m [12,0,1] = some (.row [12,0,1,0] 53 [])∧σ.s 15 = iv 0∧σ.s 16 = iv 0) (by simp [h2,h3,h4,m3,m4,m5,m12]) ?_
    clear W h2 h3 h4 m3 m4 m5 m12 σ
    rintro σ ⟨h2,h3,h4,m3,m4,m5,m12,h15,h16⟩
    simp only [wwp_block]
    refine wwp_loop (fun σ'=>σ' = σ) (fun _=>0) rfl ?_
    rintro σ' W rfl
    simp [h2,h3,h4,m3,m4,m5,m12,h15,h16]
  clear W h2 h3 h4 m3 m4 m5 m12 σ
  rintro σ ⟨h2,h3,h4,m3,m4,m5,m12⟩
  by_cases h0 : L = []
  · subst h0
    simp [h2,h3,h4,m3,m4,m5,putAt,exch,Mv.cellsW]
    exact Out.aggRow (t:=[12,0,1]) (g:=[12,0,1,0]) (es:=[]) (pre:=[iv m.t,iv m.r,iv m.s,iv m.c,iv m.w]) rfl (by simp [m12]) (by simp)
  · have hl : 0 < L.length:=List.length_pos_iff.2 h0
    have hz : (0 : Int) < (L.length : Int):=by omega
    simp [h2,h3,h4,m3,m4,m5,putAt,exch,Mv.cellsW,hl,hz,h0]
    exact Out.aggRow (t:=[12,0,1]) (g:=[12,0,1,0]) (es:=[]) (pre:=[iv m.t,iv m.r,iv m.s,iv m.c,iv 1]) rfl (by simp [m12]) (by simp)
theorem c41H (m : Mv) (L : List Int) : VCq Try.prog 41 [.agg (m.cellsW .mt),.list (ints L)] (.agg ((exch m L).cellsW (.sl [] 5 0 0 none))) (rowMem 53 []):=
  wcontract_q (Γ:=mkEnv [] [] [(24,S24H)]) (sound_mk (by simp) (by simp) (by simp [s24H])) mixed isH41 (by rw [nt41]; simp) (c41Hw S24H m L fun M=>rfl)
theorem rep_agg_mt {w : World} {pr : Prot} {tk : Places} {v : Value} {m : Mv} {d : D} (h : Rep w pr tk v (.agg (m.cellsW d))) (hd : ∀ v,Rep w pr tk v d→Rep w (allPr w) noTok v .mt) : Rep w (allPr w) noTok v (.agg (m.cellsW .mt)):=by
  obtain ⟨cs,rfl,h1,h2,h3⟩:=rep_agg.1 h
  refine rep_agg.2 ⟨cs,rfl,h1,h2,fun i c x hc hx=>?_⟩
  match i,hx with
  | 0,hx=>cases hx; exact rep_flat (h3 0 c _ hc rfl) rfl
  | 1,hx=>cases hx; exact rep_flat (h3 1 c _ hc rfl) rfl
  | 2,hx=>cases hx; exact rep_flat (h3 2 c _ hc rfl) rfl
  | 3,hx=>cases hx; exact rep_flat (h3 3 c _ hc rfl) rfl
  | 4,hx=>cases hx; exact rep_flat (h3 4 c _ hc rfl) rfl
  | 5,hx=>cases hx; exact hd _ (h3 5 c _ hc rfl)
  | _ + 6,hx=>simp [Mv.cellsW] at hx
def S41H : FM:=fun M ds=>match ds with
  | [.agg [.v (.int .i64 a),.v (.int .i64 b),.v (.int .i64 c),.v (.int .i64 d),.v (.int .i64 e),.mt],.list es]=>(asInts es).map fun L=>(.agg ((exch ⟨a,b,c,d,e,[]⟩ L).cellsW (.sl [1] 5 0 0 none)),oneM M (rowMem 53 []))
  | _=>none
theorem s41H : OkM 41 S41H:=fun m ds d m' h=>by
  unfold S41H at h
  split at h
  · rename_i es
    obtain ⟨L,hL,h⟩:=Option.map_eq_some_iff.1 h
    cases h
    rw [asInts_eq hL]
    exact VCm.ofq (c41H ⟨_,_,_,_,_,[]⟩ L) fun w pr tk vs hpr hM hr=>by
      match vs,hr with
      | [v1,v2],hr=>exact ⟨rep_agg_mt (m:=⟨_,_,_,_,_,[]⟩) hr.1 fun v h=>rep_mt h,viewA_sound (d:=.list (ints L)) hM hpr rfl hr.2.1,trivial⟩
  · cases h
theorem c17Hw (p27 p39 : FP) (m41 : FM) (m : Mv) (L : List Int) (h27 : p27 [.agg [iv m.t,iv m.r,iv m.s,iv m.c,iv m.w,.list []]] = some (bv true)) (h39 : p39 [.agg [iv m.t,iv m.r,iv m.s,iv m.c,iv m.w,.list []],.list (ints L)] = some (bv true))
    (h41 : ∀ M,m41 M [.agg [iv m.t,iv m.r,iv m.s,iv m.c,iv m.w,.mt],.list (ints L)] = some (.agg ((exch m L).cellsW (.sl [1] 5 0 0 none)),oneM M (rowMem 53 []))) :
    wwp (mkEnv [(27,p27),(39,p39)] [] [(41,m41)]) WH17.1 (fun e s=>okExit e∧∃ d0,resV WH17.2 s = some d0∧Out s d0 (.tup [.agg ((exch m L).cellsW (.sl [] 5 0 0 none)),iv 0]) (rowMem 53 [])) (initV [.agg (m.cellsW .mt),.list (ints L)]):=by
  simp only [WH17]
  refine wwp_cutW (wf_init _) (fun σ=>σ.s 1 = .list (ints L)∧σ.s 2 = .ptr [3,0] 0∧σ.s 4 = .ptr [5,0] 0∧σ.m [3,0] = some (.box [iv m.t,iv m.r,iv m.s,iv m.c,iv m.w,.mt])∧σ.m [5,0] = some (.box [iv 0,iv 0,iv 0,iv 0,iv 0,.nil])∧σ.c 17 = 0) (by simp [Mv.cellsW]) ?_
  rintro σ W ⟨h1,h2,h4,m3,m5,c17⟩
  refine wwp_condW W (fun σ=>σ.s 1 = .list (ints L)∧σ.s 2 = .ptr [3,0] 0∧σ.s 4 = .ptr [5,0] 0∧σ.m [3,0] = some (.box [iv m.t,iv m.r,iv m.s,iv m.c,iv m.w,.mt])∧σ.m [5,0] = some (.box [iv 0,iv 0,iv 0,iv 0,iv 0,.nil])∧σ.c 17 = 0) (by simp [h1,h2,h4,m3,m5,c17,h27]) ?_
  clear W h1 h2 h4 m3 m5 c17 σ
  rintro σ W ⟨h1,h2,h4,m3,m5,c17⟩
  refine wwp_condW W (fun σ=>σ.s 1 = .list (ints L)∧σ.s 2 = .ptr [3,0] 0∧σ.s 4 = .ptr [5,0] 0∧σ.m [3,0] = some (.box [iv m.t,iv m.r,iv m.s,iv m.c,iv m.w,.mt])∧σ.m [5,0] = some (.box [iv 0,iv 0,iv 0,iv 0,iv 0,.nil])∧σ.c 17 = 0) (by simp [h1,h2,h4,m3,m5,c17,h39]) ?_
  clear W h1 h2 h4 m3 m5 c17 σ
  rintro σ W ⟨h1,h2,h4,m3,m5,c17⟩
  refine wwp_cutN 1 W (fun σ=>σ.s 15 = .agg [iv m.t,iv m.r,iv m.s,iv m.c,iv m.w,.mt]∧σ.s 16 = .list (ints L)∧σ.s 4 = .ptr [5,0] 0∧σ.m [5,0] = some (.box [iv 0,iv 0,iv 0,iv 0,iv 0,.nil])∧σ.c 17 = 0) (by simp [h1,h2,h4,m3,m5,c17]) ?_
  clear W h1 h2 h4 m3 m5 c17 σ
  rintro σ W ⟨h15,h16,h4,m5,c17⟩
  simp only [List.drop_succ_cons,List.drop_zero]
  have e41:=h41 σ.m
  refine wwp_cutN 1 W (fun σ=>σ.s 17 = .agg ((exch m L).cellsW (.sl [18,0,1] 5 0 0 none))∧σ.s 4 = .ptr [5,0] 0∧σ.m [5,0] = some (.box [iv 0,iv 0,iv 0,iv 0,iv 0,.nil])∧σ.m [18,0,1] = some (.row [18,0,1,0] 53 [])) ?_ ?_
  · have k5:=adoptM_gen W m5 17 (.agg ((exch m L).cellsW (.sl [1] 5 0 0 none))) (m':=oneM σ.m (rowMem 53 [])) (by simp only [oneM,m5]; rfl)
    have k6:=adoptM_new (σ:=σ) (x:=17) (d:=.agg ((exch m L).cellsW (.sl [1] 5 0 0 none))) (m':=oneM σ.m (rowMem 53 [])) (b:=0) (r:=[])
    rw [c17] at k6
    simp [h15,h16,h4,e41,c17]
    exact ⟨by simp [dnTok,Mv.cellsW],by rw [k5]; rfl,by rw [show ([18,0,1] : Tok) = (17 + 1) :: 0 :: (0 + 1) :: [] from rfl,k6]; rfl⟩
  clear W h15 h16 h4 m5 c17 e41 σ
  rintro σ W ⟨h17,h4,m5,m18⟩
  simp only [Mv.cellsW] at h17
  simp only [List.drop_succ_cons,List.drop_zero]
  simp [h17,h4,m5,putAt,Mv.cellsW]
  exact Out.tup (Out.aggRow (t:=[18,0,1]) (g:=[18,0,1,0]) (es:=[]) (pre:=[iv (exch m L).t,iv (exch m L).r,iv (exch m L).s,iv (exch m L).c,iv (exch m L).w]) rfl (by simp [m18]) (by simp)) _
theorem c17H (m : Mv) (L : List Int) (hr : m.rows = []) (hf : fitB m = true) (hk : listOK m.r (-1) L = true) (hL : L.length≤1000000) : VCq Try.prog 17 [.agg (m.cellsW .mt),.list (ints L)] (.tup [.agg ((exch m L).cellsW (.sl [] 5 0 0 none)),iv 0]) (rowMem 53 []):=by
  obtain ⟨mt,mr,ms,mc,mw,rows⟩:=m
  simp only at hr
  subst hr
  refine wcontract_q (Γ:=mkEnv [(27,S27),(39,S39)] [] [(41,S41H)]) (sound_mk (by simp [s27,s39]) (by simp) (by simp [s41H])) mixed isH17 (by rw [nt17]; simp) (c17Hw S27 S39 S41H _ L ?_ ?_ fun M=>?_)
  · simp [S27,hf]
  · simp [S39,hL,hk]
  · simp [S41H]
end Go.Proofs.Ytpmgaaalfdjikaa
namespace Go.Proofs.Ytpmgaaalfdjikaa
open Go.RowKit
set_option linter.unusedSimpArgs false
set_option linter.unusedVariables false
def W44 : WC × List VRes:=(.seq (.reg [.stm (.eff (.box 2 (.t 0)) none),.set [(4,.c .nil),(5,.c (.v (.int .i64 0)))] [4,5]]) (.seq (.seq (.reg [.set [(10,.ap .inot [.ap (.call 49) [.ap (.load 6 true) [.t 2]]])] [8,9,10]]) (.cond (.t 10) (.seq (.reg [.set [(4,.c .nil),(5,.c (.v (.int .i64 290)))] [4,5]]) .ret) .skip)) (.seq (.seq (.reg [.set [(18,.ite (.ap (.ibin .lss) [.t 1,.c (.v (.int .i64 0))]) (.c (.v (.bool true))) (.ap (.ibin .gtr) [.t 1,.ap (.load 1 false) [.ap (.fld 1) [.t 2]]]))] [11,12,13,14,15,16,17,18]]) (.cond (.t 18) (.seq (.reg [.set [(4,.c .nil),(5,.c (.v (.int .i64 2)))] [4,5]]) .ret) .skip)) (.seq (.reg [.set [(6,.c .nil)] [6]]) (.seq (.seq (.reg [.set [(7,.c (.v (.int .i64 0)))] [7]]) (.block 0 (.loop (.seq (.seq (.reg [.set [(22,.ap (.ibin .lss) [.t 7,.ap (.load 1 false) [.ap (.fld 1) [.t 2]]])] [19,20,21,22]]) (.cond (.t 22) .skip (.exit 0))) (.seq (.block 1 (.seq (.reg [.set [(30,.ap (.ibin .geq) [.t 7,.ap (.ibin .sub) [.ap (.load 1 false) [.ap (.fld 1) [.t 2]],.t 1]])] [25,26,27,28,29,30]]) (.cond (.t 30) (.reg [.set [(31,.t 6),(32,.t 7)] [31,32],.stm (.eff (.lit 33 3 1 1 [.v (.int .i64 0)] [(0,1)] [.t 32]) none),.stm (.eff (.app 34 3 1 (.t 31) (.t 33)) none),.set [(6,.t 34)] [6]]) .skip))) (.reg [.set [(7,.ap (.ibin .add) [.t 7,.c (.v (.int .i64 1))])] [23,24,7]])))))) (.seq (.reg [.set [(4,.t 6),(5,.c (.v (.int .i64 0)))] [35,4,5]]) .ret))))),[.t 4,.t 5])
theorem is44 : IsFn Try.prog frOf 44 Try.f44 W44:=⟨by kernel_rfl,by kernel_rfl,by kernel_rfl⟩
theorem nt44 : Try.f44.ntmps = 36:=by kernel_rfl
def W45 : WC × List VRes:=(.seq (.reg [.stm (.eff (.box 3 (.t 0)) none),.set [(6,.c (.v (.int .i64 0))),(7,.c (.v (.int .i64 0)))] [6,7]]) (.seq (.seq (.reg [.set [(11,.ap .inot [.ap (.call 49) [.ap (.load 6 true) [.t 3]]])] [9,10,11]]) (.cond (.t 11) (.seq (.reg [.set [(6,.c (.v (.int .i64 0))),(7,.c (.v (.int .i64 290)))] [6,7]]) .ret) .skip)) (.seq (.reg [.set [(8,.ap (.call 65) [.ap (.load 6 true) [.t 3]])] [12,13,8]]) (.seq (.seq (.reg [.set [(34,.ite (.ite (.ite (.ite (.ap (.ibin .lss) [.t 1,.c (.v (.int .i64 1))]) (.c (.v (.bool true))) (.ap (.ibin .lss) [.t 2,.c (.v (.int .i64 1))])) (.c (.v (.bool true))) (.ap (.ibin .gtr) [.t 1,.t 8])) (.c (.v (.bool true))) (.ap (.ibin .gtr) [.t 2,.t 8])) (.c (.v (.bool true))) (.ap (.ibin .eql) [.t 1,.t 2]))] [14,15,16,17,18,19,20,21,22,23,24,25,26,27,28,29,30,31,32,33,34]]) (.cond (.t 34) (.seq (.reg [.set [(6,.c (.v (.int .i64 0))),(7,.c (.v (.int .i64 2)))] [6,7]]) .ret) .skip)) (.seq (.reg [.set [(6,.ap (.call 66) [.ap (.load 6 true) [.t 3],.t 1,.t 2]),(7,.c (.v (.int .i64 0)))] [35,36,37,38,6,7]]) .ret)))),[.t 6,.t 7])
theorem is45 : IsFn Try.prog frOf 45 Try.f45 W45:=⟨by kernel_rfl,by kernel_rfl,by kernel_rfl⟩
theorem nt45 : Try.f45.ntmps = 39:=by kernel_rfl
theorem c45 (m : Mv) (p q : Int) (hl : m.rows.length≤60) : VCp Try.prog 45 [.agg m.cells,iv p,iv q] (.tup [iv (contestR m p q).1,iv (contestR m p q).2]):=by
  have h49:=S49_at m (by omega)
  have h65:=S65_at m (by omega)
  have h66:=S66_at m p q hl
  simp only [Mv.cells,Mv.cellsW] at h49 h65 h66
  refine wcontract_p (Γ:=mkEnv [(49,S49),(65,S65),(66,S66)] [] []) (sound_mk (by simp [s49,s65,s66]) (by simp) (by simp)) mixed is45 (by rw [nt45]; simp) ?_ rfl
  cases hf : fitB m with
  | false=>
    rw [hf] at h49
    simp [W45,Mv.cells,Mv.cellsW,h49,contestR,hf]
  | true=>
    rw [hf] at h49
    have hg:=great_bounds (fit_pairs hf)
    by_cases hb : p < 1 ∨ great m.rows < p ∨ q < 1 ∨ great m.rows < q ∨ p = q
    · have hB : (decide (p < 1) || decide (q < 1) || decide (great m.rows < p) || decide (great m.rows < q) || p == q) = true:=by
        simp only [Bool.or_eq_true,decide_eq_true_eq,beq_iff_eq]; omega
      have hB' : (((((p < 1 ∨ q < 1) ∨ great m.rows < p) ∨ great m.rows < q) ∨ p = q)):=by omega
      simp [W45,Mv.cells,Mv.cellsW,h49,h65,contestR,hf,hb,hB]
    · have hB : (decide (p < 1) || decide (q < 1) || decide (great m.rows < p) || decide (great m.rows < q) || p == q) = false:=by
        simp only [Bool.or_eq_false_iff,decide_eq_false_iff_not,beq_eq_false_iff_ne]; omega
      obtain ⟨a,rfl⟩ : ∃ a : Nat,p = a:=⟨p.toNat,by omega⟩
      obtain ⟨b,rfl⟩ : ∃ b : Nat,q = b:=⟨q.toNat,by omega⟩
      have e : outS m.rows a b m.rows.length = conT m (a * 50 + b):=by
        rw [out_cont hf (by omega) (by omega) (by omega),conT_eq hl]
      rw [e] at h66
      simp [W45,Mv.cells,Mv.cellsW,h49,h65,h66,contestR,hf,hb,hB]
def S45 : List D→Option D
  | [.agg xs,.v (.int .i64 p),.v (.int .i64 q)]=>(asMv xs).bind fun m=>if m.rows.length≤60 then some (.tup [iv (contestR m p q).1,iv (contestR m p q).2]) else none
  | _=>none
theorem s45 : OkP 45 S45:=fun ds d h=>by
  unfold S45 at h
  split at h
  · rw [Option.bind_eq_some_iff] at h
    obtain ⟨m,hm,h⟩:=h
    split at h <;> cases h
    rw [asMv_eq hm]
    exact c45 m _ _ (by assumption)
  · cases h
theorem S45_at (m : Mv) (p q : Int) (h : m.rows.length≤60) : S45 [.agg m.cells,iv p,iv q] = some (.tup [iv (contestR m p q).1,iv (contestR m p q).2]):=by
  simp only [S45,Mv.cells,Mv.cellsW,asMv_cells,Option.bind_some]
  rw [if_pos h]
theorem c44 (m : Mv) (n : Int) (hl : m.rows.length≤1000000) : VCq Try.prog 44 [.agg m.cells,iv n] (lastR m n).1 (lastR m n).2:=by
  have h49:=S49_at m hl
  simp only [Mv.cells,Mv.cellsW] at h49
  refine wcontract_q (Γ:=mkEnv [(49,S49)] [] []) (sound_mk (by simp [s49]) (by simp) (by simp)) mixed is44 (by rw [nt44]; simp) ?_
  cases hf : fitB m with
  | false=>
    rw [hf] at h49
    simp [W44,Mv.cells,Mv.cellsW,h49,lastR,lastE,hf]
    exact Out.flat rfl rfl
  | true=>
    rw [hf] at h49
    obtain ⟨b1,b2,b3,b4,b5⟩:=((fitB_iff m).1 hf).1
    simp only [W44]
    refine wwp_cutW (wf_init _) (fun σ=>σ.s 1 = iv n∧σ.s 2 = .ptr [3,0] 0∧σ.m [3,0] = some (.box [iv m.t,iv m.r,iv m.s,iv m.c,iv m.w,.list (rowsL m.rows)])) (by simp [Mv.cells,Mv.cellsW]) ?_
    rintro σ W ⟨h1,h2,m3⟩
    refine wwp_condW W (fun σ=>σ.s 1 = iv n∧σ.s 2 = .ptr [3,0] 0∧σ.m [3,0] = some (.box [iv m.t,iv m.r,iv m.s,iv m.c,iv m.w,.list (rowsL m.rows)])) (by simp [h1,h2,m3,h49]) ?_
    clear W h1 h2 m3 σ
    rintro σ W ⟨h1,h2,m3⟩
    by_cases hk : n < 0 ∨ m.r < n
    · have hB : (decide (n < 0) || decide (m.r < n)) = true:=by
        simp only [Bool.or_eq_true,decide_eq_true_eq]; omega
      simp [h1,h2,m3,hB,lastR,lastE,hf,hk]
      exact Out.flat rfl rfl
    · have hB : (decide (n < 0) || decide (m.r < n)) = false:=by
        simp only [Bool.or_eq_false_iff,decide_eq_false_iff_not]; omega
      refine wwp_condW W (fun σ=>σ.s 1 = iv n∧σ.s 2 = .ptr [3,0] 0∧σ.m [3,0] = some (.box [iv m.t,iv m.r,iv m.s,iv m.c,iv m.w,.list (rowsL m.rows)])) (by simp [h1,h2,m3,hB]) ?_
      clear W h1 h2 m3 σ
      rintro σ W ⟨h1,h2,m3⟩
      obtain ⟨N,rfl⟩ : ∃ N : Nat,n = N:=⟨n.toNat,by omega⟩
      obtain ⟨R,hR⟩ : ∃ R : Nat,m.r = R:=⟨m.r.toNat,by omega⟩
      have hw0 : IntKind.i64.wrap ((R : Int) - N) = (R : Int) - N:=wrap_in (by omega) (by omega)
      refine wwp_cutW W (fun σ=>σ.s 1 = iv N∧σ.s 2 = .ptr [3,0] 0∧σ.m [3,0] = some (.box [iv m.t,iv m.r,iv m.s,iv m.c,iv m.w,.list (rowsL m.rows)])∧σ.s 6 = .nil) (by simp [h1,h2,m3]) ?_
      clear W h1 h2 m3 σ
      rintro σ W ⟨h1,h2,m3,h6⟩
      refine wwp_cutG (fun σ=>(N = 0∧σ.s 6 = .nil) ∨ (0 < N∧∃ t,σ.s 6 = .sl t 1 0 N none∧∃ g,σ.m t = some (.row g 3 (ints (lastF m.r N N))))) ?_ ?_
      · refine wwp_cut (fun σ=>σ.s 1 = iv N∧σ.s 2 = .ptr [3,0] 0∧σ.m [3,0] = some (.box [iv m.t,iv m.r,iv m.s,iv m.c,iv m.w,.list (rowsL m.rows)])∧σ.s 6 = .nil∧σ.s 7 = iv 0) (by simp [h1,h2,m3,h6]) ?_
        clear W h1 h2 m3 h6 σ
        rintro σ ⟨h1,h2,m3,h6,h7⟩
        simp only [wwp_block]
        refine wwp_loop (fun σ=>∃ k : Nat,k≤R∧σ.s 1 = iv N∧σ.s 2 = .ptr [3,0] 0∧σ.m [3,0] = some (.box [iv m.t,iv m.r,iv m.s,iv m.c,iv m.w,.list (rowsL m.rows)])∧
          ((k≤R - N∧σ.s 6 = .nil) ∨ (R - N < k∧∃ t,σ.s 6 = .sl t 1 0 (k - (R - N)) none∧∃ g,σ.m t = some (.row g 3 (ints (lastF m.r N (k - (R - N)))))))∧σ.s 7 = iv k) (fun σ=>cnt R (σ.s 7)) ?_ ?_
        · exact ⟨0,by omega,h1,h2,m3,.inl ⟨by omega,h6⟩,h7⟩
        clear h1 h2 m3 h6 h7 σ
        rintro σ W ⟨k,hkR,h1,h2,m3,h6,h7⟩
        refine wwp_seq_assoc ?_
        by_cases hlt : k < R
        · have hw1:=wrap_succ (show k≤1000000000 by omega)
          have hmu : cnt R (σ.s 7) = R - k:=by simp [h7]
          simp only [hmu]
          clear hmu
          have hz : (k : Int) < R:=by omega
          refine wwp_on (fun σ=>WF σ∧σ.s 1 = iv N∧σ.s 2 = .ptr [3,0] 0∧σ.m [3,0] = some (.box [iv m.t,iv m.r,iv m.s,iv m.c,iv m.w,.list (rowsL m.rows)])∧
            ((k≤R - N∧σ.s 6 = .nil) ∨ (R - N < k∧∃ t,σ.s 6 = .sl t 1 0 (k - (R - N)) none∧∃ g,σ.m t = some (.row g 3 (ints (lastF m.r N (k - (R - N)))))))∧σ.s 7 = iv k) (by simp [h1,h2,m3,h7,hR,hz,hlt]; exact ⟨W.of rfl rfl,by rw [hR] at h6; exact h6⟩) ?_
          clear W h1 h2 m3 h6 h7 σ
          rintro σ ⟨W,h1,h2,m3,h6,h7⟩
          refine wwp_body (fun σ=>σ.s 1 = iv N∧σ.s 2 = .ptr [3,0] 0∧σ.m [3,0] = some (.box [iv m.t,iv m.r,iv m.s,iv m.c,iv m.w,.list (rowsL m.rows)])∧
            ((k + 1≤R - N∧σ.s 6 = .nil) ∨ (R - N < k + 1∧∃ t,σ.s 6 = .sl t 1 0 (k + 1 - (R - N)) none∧∃ g,σ.m t = some (.row g 3 (ints (lastF m.r N (k + 1 - (R - N)))))))∧σ.s 7 = iv k) ?_ ?_
          · by_cases hge : R - N≤k
            · have hzg : (R : Int) - N≤k:=by omega
              have ek : k + 1 - (R - N) = k - (R - N) + 1:=by omega
              have nk : ¬ k + 1≤R - N:=by omega
              have yk : R - N < k + 1:=by omega
              obtain ⟨c,hc⟩ : ∃ c,c = k - (R - N):=⟨_,rfl⟩
              rw [← hc] at h6 ek
              rw [ek]
              have hx : m.r - (N : Int) + (c : Int) = k:=by omega
              have hlf : lastF m.r N (c + 1) = lastF m.r N c ++ [(k : Int)]:=by rw [lastF_succ,hx]
              rw [hlf,ints_append]
              rcases h6 with ⟨hk6,h6⟩ | ⟨hk6,t,h6,g,mt⟩
              · have hc0 : c = 0:=by omega
                rw [hc0]
                simp [h1,h2,m3,h6,h7,hR,hw0,hzg,one_made,nk,yk]
                simp [lastF,ints]
              · have n1:=W.ne mt 33 (σ.c 33) []
                have hmx : c + 1≤maxMade:=by unfold maxMade; omega
                have hln : (ints (lastF m.r N c)).length = c:=by rw [ints_len,lastF_len]
                obtain ⟨X,hX⟩ : ∃ X,X = ints (lastF m.r N c):=⟨_,rfl⟩
                rw [← hX] at mt hln ⊢
                have htk : X.take c = X:=List.take_of_length_le (by omega)
                simp [h1,h2,m3,h6,h7,mt,n1,hR,hw0,hzg,one_made,nk,yk,hmx,hln,htk]
                simp [ints]
            · have hzg : ¬ (R : Int) - N≤k:=by omega
              rcases h6 with ⟨hk6,h6⟩ | ⟨hk6,_⟩
              · have nk : k + 1≤R - N:=by omega
                simp [h1,h2,m3,h6,h7,hR,hw0,hzg,nk]
              · omega
          · clear W h1 h2 m3 h6 h7 σ
            rintro σ ⟨h1,h2,m3,h6,h7⟩
            simp [h1,h2,m3,h7,hw1]
            exact ⟨⟨k + 1,by omega,h6,by simp⟩,by omega⟩
        · obtain rfl : k = R:=by omega
          refine wwp_off ?_
          have e2 : N≤k:=by omega
          have e1 : k - (k - N) = N:=by omega
          rw [e1] at h6
          simp [h1,h2,m3,h7,hR]
          rw [hR] at h6
          rcases h6 with ⟨a,b⟩ | ⟨a,b⟩
          · exact .inl ⟨by omega,b⟩
          · exact .inr ⟨by omega,b⟩
      · clear W h1 h2 m3 h6 σ
        rintro σ h6
        rcases h6 with ⟨h0,h6⟩ | ⟨h0,t,h6,g,mt⟩
        · subst h0
          simp [h6,lastR,lastE,hf,hk,hR]
          exact Out.flat rfl rfl
        · have hk0 : ¬ N = 0:=by omega
          have hNr : (N : Int)≤m.r:=by omega
          simp [h6,lastR,lastE,hf,hk,hk0,hNr]
          refine Out.tupSl (Out.row (g:=g) (es:=ints (lastL m.r N)) (by exact mt) (ints_flat _)) _
def S44 : List D→Option (D × Mem)
  | [.agg xs,.v (.int .i64 n)]=>(asMv xs).bind fun m=>if m.rows.length≤1000000 then some (lastR m n) else none
  | _=>none
theorem s44 : OkQ 44 S44:=fun ds d mm h=>by
  unfold S44 at h
  split at h
  · rename_i xs n
    rw [Option.bind_eq_some_iff] at h
    obtain ⟨m,hm,h⟩:=h
    split at h
    · rename_i hc
      rw [asMv_eq hm]
      have:=c44 m n hc
      rw [Option.some.inj h] at this
      exact this
    · cases h
  · cases h
theorem S44_at (m : Mv) (n : Int) (h : m.rows.length≤1000000) : S44 [.agg m.cells,iv n] = some (lastR m n):=by
  simp only [S44,Mv.cells,Mv.cellsW,asMv_cells,Option.bind_some]
  rw [if_pos h]
end Go.Proofs.Ytpmgaaalfdjikaa
namespace Go.Proofs.Ytpmgaaalfdjikaa
open Go.RowKit
set_option linter.unusedSimpArgs false
set_option linter.unusedVariables false
def cutM (cut : Tok→Option Nat) (M : Mem) : Mem:=fun τ=>match M τ,cut τ with
  | some (.row g e es),some n=>some (.row g e (es.take n))
  | o,_=>o
theorem cutM_row {cut : Tok→Option Nat} {M : Mem} {t g : Tok} {e : Nat} {es : List (List D)} (h : cutM cut M t = some (.row g e es)) : ∃ es',M t = some (.row g e es'):=by
  unfold cutM at h
  split at h
  · rename_i h1 h2
    cases h
    exact ⟨_,h1⟩
  · exact ⟨_,h⟩
theorem cutM_row' {cut : Tok→Option Nat} {M : Mem} {t g : Tok} {e : Nat} {es : List (List D)} (h : M t = some (.row g e es)) : ∃ es',cutM cut M t = some (.row g e es'):=by
  unfold cutM
  rw [h]
  cases cut t with
  | none=>exact ⟨_,rfl⟩
  | some n=>exact ⟨_,rfl⟩
theorem cutM_none {cut : Tok→Option Nat} {M : Mem} {t : Tok} (h : cut t = none) : cutM cut M t = M t:=by
  unfold cutM
  rw [h]
  split <;> simp_all
theorem cutM_some {cut : Tok→Option Nat} {M : Mem} {t g : Tok} {e n : Nat} {es : List (List D)} (h : M t = some (.row g e es)) (hc : cut t = some n) : cutM cut M t = some (.row g e (es.take n)):=by
  unfold cutM
  rw [h,hc]
theorem cutM_dom {cut : Tok→Option Nat} {M : Mem} {t : Tok} {o : HO} (h : cutM cut M t = some o) : ∃ o',M t = some o'∧o'.grp = o.grp:=by
  unfold cutM at h
  split at h
  · rename_i h1 h2
    cases h
    exact ⟨_,h1,rfl⟩
  · exact ⟨_,h,rfl⟩
theorem cutM_dom' {cut : Tok→Option Nat} {M : Mem} {t : Tok} {o : HO} (h : M t = some o) : ∃ o',cutM cut M t = some o':=by
  unfold cutM
  split
  · exact ⟨_,rfl⟩
  · exact ⟨_,h⟩
theorem MemOK.cut {P : Program} {w : World} {pr : Prot} {tk : Places} {M : Mem} (h : MemOK P w pr tk M) (cut : Tok→Option Nat) : MemOK P w pr tk (cutM cut M):=by
  refine ⟨fun t o ho=>?_,fun t t' o o' b c c' ho ho' ht ht'=>?_⟩
  · unfold cutM at ho
    split at ho
    · rename_i g e es n h1 h2
      cases ho
      obtain ⟨b,cap,C,k1,k2,k3,k4,k5,k6,k7⟩:=h.obj t _ h1
      refine ⟨b,cap,C,k1,k2,by rw [List.length_take]; omega,k4,k5,fun c hc=>k6 c (List.mem_of_mem_take hc),fun i c hc=>k7 i c ?_⟩
      rw [List.getElem?_take] at hc
      split at hc
      · exact hc
      · cases hc
    · exact h.obj t o ho
  · obtain ⟨q,hq,e1⟩:=cutM_dom ho
    obtain ⟨q',hq',e2⟩:=cutM_dom ho'
    have:=h.inj t t' q q' b c c' hq hq' ht ht'
    rw [e1,e2] at this
    exact this
theorem VCm.cut {P : Program} {f : Nat} {m m' : Mem} {ds : List D} {d : D} {cut : Tok→Option Nat} (h : VCm P f (cutM cut m) ds d m') : VCm P f m ds d m':=by
  have hb : ∀ tk,blocksOf tk (cutM cut m) = blocksOf tk m:=fun tk=>by
    funext b
    refine propext ⟨?_,?_⟩
    · rintro ⟨t,o,c,h1,h2⟩
      obtain ⟨q,hq,_⟩:=cutM_dom h1
      exact ⟨t,q,c,hq,h2⟩
    · rintro ⟨t,o,c,h1,h2⟩
      obtain ⟨q,hq⟩:=cutM_dom' (cut:=cut) h1
      exact ⟨t,q,c,hq,h2⟩
  refine ⟨h.1,fun w pr tk cargs hpr hprA M hargs=>?_⟩
  have:=h.2 w pr tk cargs hpr (by rw [hb]; exact hprA) (M.cut cut) hargs
  rw [hb] at this
  exact this
theorem grpsOf_cut {cut : Tok→Option Nat} {M : Mem} {hs : List (List D)} (g : Tok) : grpsOf (cutM cut M) hs g ↔ grpsOf M hs g:=by
  constructor
  · rintro ⟨t,s,len,h1,g',e,es,h2,rfl⟩
    obtain ⟨es',h3⟩:=cutM_row h2
    exact ⟨t,s,len,h1,g',e,es',h3,rfl⟩
  · rintro ⟨t,s,len,h1,g',e,es,h2,rfl⟩
    obtain ⟨es',h3⟩:=cutM_row' (cut:=cut) h2
    exact ⟨t,s,len,h1,g',e,es',h3,rfl⟩
theorem FlR.dropCut {F : FlR} {C : Nat→List Row} (h : F.In C F.U) {M : Mem} {cut : Tok→Option Nat} (hM : F.U = cutM cut M) (hcut : ∀ τ n,cut τ = some n→∃ j,j < F.K∧F.nl j = false∧τ = F.tk j) : dropM (grpsOf F.U F.hrow) (upM F.U) = dropM (grpsOf M F.hrow) (upM M):=by
  have hg : grpsOf F.U F.hrow = grpsOf M F.hrow:=by rw [hM]; funext g; exact propext (grpsOf_cut g)
  rw [hg]
  funext τ
  match τ with
  | []=>rfl
  | (_ + 1) :: _=>rfl
  | 0 :: τ=>
    cases hc : cut τ with
    | none=>
      have : F.U τ = M τ:=by
        rw [hM]
        unfold cutM
        rw [hc]
        split <;> simp_all
      simp only [dropM,upM_up,this]
    | some n=>
      obtain ⟨j,hj,hn,rfl⟩:=hcut τ n hc
      have h1:=(h j hj hn).1
      have h2:=h1
      rw [hM] at h2
      obtain ⟨es',h3⟩:=cutM_row h2
      have hP : grpsOf M F.hrow (0 :: F.gr j):=by rw [← hg]; exact (FlR.grps h _).2 ⟨j,hj,hn,rfl⟩
      simp only [dropM,upM_up,h1,h3,Option.map_some]
      rw [if_pos ⟨_,rfl,hP⟩,if_pos ⟨_,rfl,hP⟩]
open Classical in
noncomputable def S51 : FM:=fun M ds=>match ds with
  | [.sl t 1 0 n none]=>match M t with
    | some (.row _ 22 hs)=>if ∃ (F : FlR) (C : Nat→List Row) (cut : Tok→Option Nat),F.CK∧F.In C F.U∧F.U = cutM cut M∧(∀ τ n,cut τ = some n→∃ j,j < F.K∧F.nl j = false∧τ = F.tk j)∧F.lt = t∧F.K = n∧0 < n∧hs = F.hrow then some (bv true,dropM (grpsOf M hs) (upM M)) else none
    | _=>none
  | _=>none
theorem s51 : OkM 51 S51:=fun m ds d m' h=>by
  unfold S51 at h
  split at h
  · split at h
    · split at h
      · rename_i hc
        cases h
        obtain ⟨F,C,cut,h1,h2,h3,h4,rfl,rfl,h5,rfl⟩:=hc
        rw [← FlR.dropCut h2 h3 h4]
        have:=c51 F h1 C h2 h5
        exact VCm.cut (cut:=cut) (h3 ▸ this)
      · cases h
    · cases h
  · cases h
theorem S51_at {M : Mem} {F : FlR} {C : Nat→List Row} {cut : Tok→Option Nat} (hc : F.CK) (h : F.In C F.U) (hM : F.U = cutM cut M) (hcut : ∀ τ n,cut τ = some n→∃ j,j < F.K∧F.nl j = false∧τ = F.tk j) (h0 : 0 < F.K) (hl : M F.lt = some (.row F.lg 22 F.hrow)) :
    S51 M [.sl F.lt 1 0 F.K none] = some (bv true,dropM (grpsOf M F.hrow) (upM M)):=by
  simp only [S51,hl]
  exact if_pos ⟨F,C,cut,hc,h,hM,hcut,rfl,rfl,h0,rfl⟩
theorem FlI.dropCut {F : FlI} {C : Nat→List Int} (h : F.In C F.U) {M : Mem} {cut : Tok→Option Nat} (hM : F.U = cutM cut M) (hcut : ∀ τ n,cut τ = some n→∃ j,j < F.K∧F.nl j = false∧τ = F.tk j) : dropM (grpsOf F.U F.hrow) (upM F.U) = dropM (grpsOf M F.hrow) (upM M):=by
  have hg : grpsOf F.U F.hrow = grpsOf M F.hrow:=by rw [hM]; funext g; exact propext (grpsOf_cut g)
  rw [hg]
  funext τ
  match τ with
  | []=>rfl
  | (_ + 1) :: _=>rfl
  | 0 :: τ=>
    cases hc : cut τ with
    | none=>
      have : F.U τ = M τ:=by
        rw [hM]
        unfold cutM
        rw [hc]
        split <;> simp_all
      simp only [dropM,upM_up,this]
    | some n=>
      obtain ⟨j,hj,hn,rfl⟩:=hcut τ n hc
      have h1:=(h j hj hn).1
      have h2:=h1
      rw [hM] at h2
      obtain ⟨es',h3⟩:=cutM_row h2
      have hP : grpsOf M F.hrow (0 :: F.gr j):=by rw [← hg]; exact (FlI.grps h _).2 ⟨j,hj,hn,rfl⟩
      simp only [dropM,upM_up,h1,h3,Option.map_some]
      rw [if_pos ⟨_,rfl,hP⟩,if_pos ⟨_,rfl,hP⟩]
open Classical in
noncomputable def S52 : FM:=fun M ds=>match ds with
  | [.sl t 1 0 n none]=>match M t with
    | some (.row _ 34 hs)=>if ∃ (F : FlI) (C : Nat→List Int) (cut : Tok→Option Nat),F.CK∧F.In C F.U∧F.U = cutM cut M∧(∀ τ n,cut τ = some n→∃ j,j < F.K∧F.nl j = false∧τ = F.tk j)∧F.lt = t∧F.K = n∧0 < n∧hs = F.hrow then some (bv true,dropM (grpsOf M hs) (upM M)) else none
    | _=>none
  | _=>none
theorem s52 : OkM 52 S52:=fun m ds d m' h=>by
  unfold S52 at h
  split at h
  · split at h
    · split at h
      · rename_i hc
        cases h
        obtain ⟨F,C,cut,h1,h2,h3,h4,rfl,rfl,h5,rfl⟩:=hc
        rw [← FlI.dropCut h2 h3 h4]
        have:=c52 F h1 C h2 h5
        exact VCm.cut (cut:=cut) (h3 ▸ this)
      · cases h
    · cases h
  · cases h
theorem S52_at {M : Mem} {F : FlI} {C : Nat→List Int} {cut : Tok→Option Nat} (hc : F.CK) (h : F.In C F.U) (hM : F.U = cutM cut M) (hcut : ∀ τ n,cut τ = some n→∃ j,j < F.K∧F.nl j = false∧τ = F.tk j) (h0 : 0 < F.K) (hl : M F.lt = some (.row F.lg 34 F.hrow)) :
    S52 M [.sl F.lt 1 0 F.K none] = some (bv true,dropM (grpsOf M F.hrow) (upM M)):=by
  simp only [S52,hl]
  exact if_pos ⟨F,C,cut,hc,h,hM,hcut,rfl,rfl,h0,rfl⟩
end Go.Proofs.Ytpmgaaalfdjikaa
namespace Go.Proofs.Ytpmgaaalfdjikaa
open Go.RowKit
set_option linter.unusedSimpArgs false
set_option linter.unusedVariables false
def HdR (h : D) (R : List Row) (a : Nat) (M : Mem) : Prop:=(h = .nil∧R = []) ∨ ∃ r g,h = .sl (a :: 0 :: r) 5 0 R.length none∧M (a :: 0 :: r) = some (.row (a :: 0 :: g) 53 (rowsL R))
def HdI (h : D) (R : List Int) (a : Nat) (M : Mem) : Prop:=(h = .nil∧R = []) ∨ ∃ r g,h = .sl (a :: 0 :: r) 1 0 R.length none∧M (a :: 0 :: r) = some (.row (a :: 0 :: g) 3 (ints R))
def tkT (a j : Nat) : Tok:=[a,0,j + 1]
def grT (a j : Nat) : Tok:=[a,0,0,j]
def HdT (h : D) (Ls : List (List Int)) (a : Nat) (M : Mem) : Prop:=(h = .nil∧Ls = []) ∨ (0 < Ls.length∧h = .sl [a,0] 1 0 Ls.length none∧M [a,0] = some (.row [a,0,0] 34 (hdsF (tkT a) 0 Ls))∧LsF (tkT a) (grT a) M 0 Ls)
def BxR (aM : Mv) (b a : Nat) (M : Mem) : Prop:=∃ hA,M [b,0] = some (.box (aM.cellsW hA))∧HdR hA aM.rows a M
theorem HdR.mono {h : D} {R : List Row} {a : Nat} {M M' : Mem} (hh : HdR h R a M) (hM : ∀ r o,M (a :: 0 :: r) = some o→M' (a :: 0 :: r) = some o) : HdR h R a M':=by
  rcases hh with h | ⟨r,g,h1,h2⟩
  · exact .inl h
  · exact .inr ⟨r,g,h1,hM _ _ h2⟩
theorem HdI.mono {h : D} {R : List Int} {a : Nat} {M M' : Mem} (hh : HdI h R a M) (hM : ∀ r o,M (a :: 0 :: r) = some o→M' (a :: 0 :: r) = some o) : HdI h R a M':=by
  rcases hh with h | ⟨r,g,h1,h2⟩
  · exact .inl h
  · exact .inr ⟨r,g,h1,hM _ _ h2⟩
theorem HdT.mono {h : D} {Ls : List (List Int)} {a : Nat} {M M' : Mem} (hh : HdT h Ls a M) (hM : ∀ r o,M (a :: 0 :: r) = some o→M' (a :: 0 :: r) = some o) : HdT h Ls a M':=by
  rcases hh with h | ⟨h0,h1,h2,h3⟩
  · exact .inl h
  · exact .inr ⟨h0,h1,hM [] _ h2,fun i L hi hL=>hM _ _ (h3 i L hi hL)⟩
theorem BxR.mono {aM : Mv} {b a : Nat} {M M' : Mem} (hh : BxR aM b a M) (hb : ∀ o,M [b,0] = some o→M' [b,0] = some o) (hM : ∀ r o,M (a :: 0 :: r) = some o→M' (a :: 0 :: r) = some o) : BxR aM b a M':=by
  obtain ⟨hA,h1,h2⟩:=hh
  exact ⟨hA,hb _ h1,h2.mono hM⟩
theorem HdR.view {h : D} {R : List Row} {a : Nat} {M : Mem} (hh : HdR h R a M) (n : Nat) : viewC M (n + 1) h = some (.list (rowsL R)):=by
  rcases hh with ⟨rfl,rfl⟩ | ⟨r,g,rfl,h2⟩
  · rfl
  · simp [h2]
theorem HdI.view {h : D} {R : List Int} {a : Nat} {M : Mem} (hh : HdI h R a M) : viewA M h = some (.list (ints R)):=by
  rcases hh with ⟨rfl,rfl⟩ | ⟨r,g,rfl,h2⟩
  · rfl
  · simp [h2]
theorem HdT.view {h : D} {Ls : List (List Int)} {a : Nat} {M : Mem} (hh : HdT h Ls a M) : viewA M h = some (.list (lists Ls)):=by
  rcases hh with ⟨rfl,rfl⟩ | ⟨h0,rfl,h2,h3⟩
  · rfl
  · have hl:=hdsF_len (tkT a) Ls 0
    have ht : (hdsF (tkT a) 0 Ls).take Ls.length = hdsF (tkT a) 0 Ls:=List.take_of_length_le (by omega)
    have hv:=view_listsF (n:=4) h3
    simp [h2,hl,ht,hv]
structure TB (m : Mv) (L : List Int) (n p q : Int) (E : List Row) (Mk : List Int) (σ : St) : Prop where
  s1 : σ.s 1 = .list (ints L)
  s2 : σ.s 2 = iv n
  s3 : σ.s 3 = iv p
  s4 : σ.s 4 = iv q
  s5 : σ.s 5 = .ptr [6,0] 0
  m6 : σ.m [6,0] = some (.box [iv m.t,iv m.r,iv m.s,iv m.c,iv m.w,.list (rowsL m.rows)])
  s11 : σ.s 11 = .ptr [12,0] 0
  m12 : σ.m [12,0] = some (.box [iv m.t,iv m.r,iv m.s,iv m.c,iv m.w,.sl [40,0] 5 0 m.rows.length none])
  s12 : σ.s 12 = .sl [42,0] 1 0 L.length none
  m40 : σ.m [40,0] = some (.row [40,0,0] 53 (rowsL (m.rows ++ E)))
  m42 : σ.m [42,0] = some (.row [42,0,0] 3 (ints (L ++ Mk)))
structure T3 (m : Mv) (L : List Int) (n p q : Int) (E : List Row) (Mk : List Int) (aM : Mv) (eT : Int) (σ : St) : Prop where
  b : TB m L n p q E Mk σ
  s13 : σ.s 13 = .ptr [14,0] 0
  a : BxR aM 14 46 σ.m
  s14 : σ.s 14 = iv eT
  c : σ.c 15 = 0∧σ.c 51 = 0∧σ.c 57 = 0∧σ.c 63 = 0∧σ.c 82 = 0∧σ.c 87 = 0∧σ.c 172 = 0∧σ.c 178 = 0∧σ.c 179 = 0
def PreR (h : D) (R : List Row) (M : Mem) : Prop:=(h = .nil∧M = noMem∧R = []) ∨ (h = .sl [] 5 0 R.length none∧M = rowMem 53 (rowsL R))
def PreI (h : D) (R : List Int) (M : Mem) : Prop:=(h = .nil∧M = noMem∧R = []) ∨ (h = .sl [] 1 0 R.length none∧M = rowMem 3 (ints R))
def PreT (h : D) (Ls : List (List Int)) (M : Mem) : Prop:=(h = .nil∧M = noMem∧Ls = []) ∨ (0 < Ls.length∧h = .sl [] 1 0 Ls.length none∧M = tableMem Ls)
theorem HdR.keep {h : D} {R : List Row} {a : Nat} {σ : St} (W : WF σ) (hh : HdR h R a σ.m) (x : Nat) (d : D) : HdR h R a (σ.adoptM x d (upM σ.m)).m:=by
  rcases hh with h | ⟨r,g,h1,h2⟩
  · exact .inl h
  · exact .inr ⟨r,g,h1,by rw [adoptM_keep W h2]; simp⟩
theorem HdI.keep {h : D} {R : List Int} {a : Nat} {σ : St} (W : WF σ) (hh : HdI h R a σ.m) (x : Nat) (d : D) : HdI h R a (σ.adoptM x d (upM σ.m)).m:=by
  rcases hh with h | ⟨r,g,h1,h2⟩
  · exact .inl h
  · exact .inr ⟨r,g,h1,by rw [adoptM_keep W h2]; simp⟩
theorem HdT.keep {h : D} {Ls : List (List Int)} {a : Nat} {σ : St} (W : WF σ) (hh : HdT h Ls a σ.m) (x : Nat) (d : D) : HdT h Ls a (σ.adoptM x d (upM σ.m)).m:=by
  rcases hh with h | ⟨h0,h1,h2,h3⟩
  · exact .inl h
  · exact .inr ⟨h0,h1,by rw [adoptM_keep W h2]; simp only [HO.ren,hdsF_ren],fun i L hi hL=>by rw [adoptM_keep W (h3 i L hi hL)]; simp⟩
theorem BxR.keep {aM : Mv} {b a : Nat} {σ : St} (W : WF σ) (hh : BxR aM b a σ.m) (x : Nat) (d : D) : BxR aM b a (σ.adoptM x d (upM σ.m)).m:=by
  obtain ⟨hA,h1,h2⟩:=hh
  refine ⟨hA,?_,h2.keep W x d⟩
  rw [adoptM_keep W h1]
  rcases h2 with ⟨rfl,_⟩ | ⟨r,g,rfl,_⟩ <;> rfl
theorem TB.keep {m : Mv} {L : List Int} {n p q : Int} {E : List Row} {Mk : List Int} {σ : St} (W : WF σ) (B : TB m L n p q E Mk σ) (x : Nat) (hx : 200 > x∧20≤x) (d : D) : TB m L n p q E Mk (σ.adoptM x d (upM σ.m)):=by
  have e : ∀ j,j < 20→(σ.adoptM x d (upM σ.m)).s j = σ.s j:=fun j hj=>by rw [adoptM_s,if_neg (by omega)]
  exact ⟨by rw [e 1 (by omega),B.s1],by rw [e 2 (by omega),B.s2],by rw [e 3 (by omega),B.s3],by rw [e 4 (by omega),B.s4],by rw [e 5 (by omega),B.s5],by rw [adoptM_keep W B.m6]; rfl,by rw [e 11 (by omega),B.s11],by rw [adoptM_keep W B.m12]; rfl,by rw [e 12 (by omega),B.s12],by rw [adoptM_keep W B.m40]; simp,by rw [adoptM_keep W B.m42]; simp⟩
theorem apartR {M : Mem} {rows E : List Row} {hA : D} {R : List Row} (h40 : M [40,0] = some (.row [40,0,0] 53 (rowsL (rows ++ E)))) (hh : HdR hA R 46 M) (h173 : M [173,0] = some (.row [173,0] 22 [[.sl [40,0] 5 0 rows.length none],[hA]])) (hl : rows.length≤60) (hR : R.length≤60) :
    ∃ D',S51 M [.sl [173,0] 1 0 2 none] = some (bv true,D')∧∀ τ o,M τ = some o→(∀ g,o.grp = some g→g ≠ [40,0,0]∧∀ r,g ≠ 46 :: r)→D' (0 :: τ) = some (o.ren up):=by
  obtain ⟨nl1,t1,g1,hnl,hA1,hM1⟩ : ∃ (nl1 : Bool) (t1 g1 : Tok),(nl1 = true→R = [])∧(hA = if nl1 then .nil else .sl (46 :: t1) 5 0 R.length none)∧(nl1 = false→M (46 :: t1) = some (.row (46 :: g1) 53 (rowsL R))):=by
    rcases hh with ⟨h1,h2⟩ | ⟨r,g,h1,h2⟩
    · exact ⟨true,[],[],fun _=>h2,by simp [h1],fun h=>by cases h⟩
    · exact ⟨false,0 :: r,0 :: g,(fun h=>by cases h),by simp [h1],fun _=>h2⟩
  obtain ⟨cut,hcut⟩ : ∃ cut : Tok→Option Nat,cut = fun τ=>if τ = [40,0] then some rows.length else none:=⟨_,rfl⟩
  have c40 : cutM cut M [40,0] = some (.row [40,0,0] 53 (rowsL rows)):=by
    rw [cutM_some h40 (n:=rows.length) (by rw [hcut]; rfl),rowsL_append]
    congr 2
    exact List.take_left' (by simp)
  have c173 : cutM cut M [173,0] = some (.row [173,0] 22 [[.sl [40,0] 5 0 rows.length none],[hA]]):=by rw [cutM_none (by rw [hcut]; rfl),h173]
  obtain ⟨F,hF⟩ : ∃ F : FlR,F = { K:=2,nl:=fun k=>if k = 0 then false else nl1,ez:=fun _=>none,ln:=fun k=>if k = 0 then rows.length else R.length,tk:=fun k=>if k = 0 then [40,0] else 46 :: t1,gr:=fun k=>if k = 0 then [40,0,0] else 46 :: g1,lt:=[173,0],lg:=[173,0],U:=cutM cut M,mrk:=fun k i=>markRw k i }:=⟨_,rfl⟩
  have two : ∀ k,k < 2→k = 0 ∨ k = 1:=fun k h=>by omega
  have hhr : F.hrow = [[.sl [40,0] 5 0 rows.length none],[hA]]:=by
    rw [hF,hA1]
    rfl
  have hI : F.In (fun k=>if k = 0 then rows else R) F.U:=fun j hj hn=>by
    rw [hF] at hj hn ⊢
    rcases two j hj with rfl | rfl
    · exact ⟨c40,rfl⟩
    · refine ⟨?_,rfl⟩
      show cutM cut M (46 :: t1) = _
      rw [cutM_none (by rw [hcut]; simp),hM1 hn]
      rfl
  have hC : F.CK:=by
    refine ⟨by rw [hF]; show 2≤100; omega,fun k hk=>?_,fun k hk=>?_,(fun k t hk ht=>by rw [hF] at ht; cases ht),fun j k hj hk nj nk e=>?_,fun j k hj hk nj nk e=>?_,?_,fun j hj hn=>?_,fun k i=>by rw [hF]⟩
    · rw [hF] at hk ⊢
      by_cases h0 : k = 0
      · subst h0; cases hk
      · simp only [if_neg h0] at hk ⊢
        rw [hnl hk]; rfl
    · rw [hF]
      show (if k = 0 then rows.length else R.length)≤1000
      split <;> omega
    · rw [hF] at hj hk e
      rcases two j hj with rfl | rfl <;> rcases two k hk with rfl | rfl
      · rfl
      · simp at e
      · simp at e
      · rfl
    · rw [hF] at hj hk e
      rcases two j hj with rfl | rfl <;> rcases two k hk with rfl | rfl
      · rfl
      · simp at e
      · simp at e
      · rfl
    · rw [hhr,hF]; exact c173
    · rw [hF] at hj ⊢
      rcases two j hj with rfl | rfl <;> simp
  have hU : F.U = cutM cut M:=by rw [hF]
  have e:=S51_at (M:=M) hC hI hU (fun τ k h=>by
    rw [hcut] at h
    by_cases h0 : τ = [40,0]
    · exact ⟨0,by rw [hF]; show 0 < 2; omega,by rw [hF]; rfl,by rw [hF]; exact h0⟩
    · simp only [if_neg h0] at h; cases h) (by rw [hF]; show 0 < 2; omega) (by rw [hhr,hF]; exact h173)
  have e1 : F.lt = [173,0]:=by rw [hF]
  have e2 : F.K = 2:=by rw [hF]
  rw [e1,e2] at e
  refine ⟨_,e,fun τ o ho hg=>dropM_some.2 ⟨by rw [upM_up,ho]; rfl,fun g hg' hP=>?_⟩⟩
  rw [HO.ren_grp] at hg'
  obtain ⟨g0,hg0,rfl⟩:=Option.map_eq_some_iff.1 hg'
  have hP' : grpsOf F.U F.hrow (up g0):=by rw [hU]; exact (grpsOf_cut _).2 hP
  obtain ⟨j,hj,hn,ee⟩:=(FlR.grps hI _).1 hP'
  have:=hg g0 hg0
  rw [hF] at hj ee
  have ee:=(List.cons.inj ee).2
  rcases two j hj with rfl | rfl
  · exact this.1 ee
  · exact this.2 _ ee
theorem apartI {M : Mem} {L Mk : List Int} {hL : D} {RL : List Int} {Ls : List (List Int)} {lg : Tok} (h42 : M [42,0] = some (.row [42,0,0] 3 (ints (L ++ Mk)))) (hh : HdI hL RL 58 M) (hT : LsF (tkT 83) (grT 83) M 0 Ls) (hne : ∀ l ∈ Ls,l ≠ []) (hlg : lg = [180,0] ∨ lg = [83,0,0])
    (h180 : M [180,0] = some (.row lg 34 (hdsF (tkT 83) 0 Ls ++ [[.sl [42,0] 1 0 L.length none],[hL]]))) (hl : L.length≤60) (hR : RL.length≤60) (hLs : Ls.length≤60) (hLl : ∀ l ∈ Ls,l.length≤60) :
    ∃ D',S52 M [.sl [180,0] 1 0 (Ls.length + 2) none] = some (bv true,D'):=by
  obtain ⟨nl1,t1,g1,hnl,hL1,hM1⟩ : ∃ (nl1 : Bool) (t1 g1 : Tok),(nl1 = true→RL = [])∧(hL = if nl1 then .nil else .sl (58 :: t1) 1 0 RL.length none)∧(nl1 = false→M (58 :: t1) = some (.row (58 :: g1) 3 (ints RL))):=by
    rcases hh with ⟨h1,h2⟩ | ⟨r,g,h1,h2⟩
    · exact ⟨true,[],[],fun _=>h2,by simp [h1],fun h=>by cases h⟩
    · exact ⟨false,0 :: r,0 :: g,(fun h=>by cases h),by simp [h1],fun _=>h2⟩
  obtain ⟨cut,hcut⟩ : ∃ cut : Tok→Option Nat,cut = fun τ=>if τ = [42,0] then some L.length else none:=⟨_,rfl⟩
  obtain ⟨N,hN⟩ : ∃ N,N = Ls.length:=⟨_,rfl⟩
  have c42 : cutM cut M [42,0] = some (.row [42,0,0] 3 (ints L)):=by
    rw [cutM_some h42 (n:=L.length) (by rw [hcut]; rfl),ints_append]
    congr 2
    exact List.take_left' (by simp)
  obtain ⟨F,hF⟩ : ∃ F : FlI,F = { K:=N + 2,nl:=fun k=>if k = N + 1 then nl1 else false,ez:=fun _=>none,ln:=fun k=>if k < N then (Ls.getD k []).length else if k = N then L.length else RL.length,tk:=fun k=>if k < N then [83,0,k + 1] else if k = N then [42,0] else 58 :: t1,gr:=fun k=>if k < N then [83,0,0,k] else if k = N then [42,0,0] else 58 :: g1,lt:=[180,0],lg:=lg,U:=cutM cut M,mrk:=fun k i=>markI k i }:=⟨_,rfl⟩
  have three : ∀ k,k < N + 2→k < N ∨ k = N ∨ k = N + 1:=fun k h=>by omega
  have gd : ∀ k (h : k < Ls.length),Ls.getD k [] = Ls[k]:=fun k h=>by simp [List.getD,h]
  have hhr : F.hrow = hdsF (tkT 83) 0 Ls ++ [[.sl [42,0] 1 0 L.length none],[hL]]:=by
    apply List.ext_getElem?
    intro k
    have hfl:=hdsF_len (tkT 83) Ls 0
    by_cases h1 : k < N
    · rw [F.hrow_at (by rw [hF]; show k < N + 2; omega),List.getElem?_append_left (by omega),hdsF_at _ _ _ k (by omega),Nat.zero_add]
      have hne':=hne Ls[k] (List.getElem_mem (by omega))
      rw [hF]
      simp only [FlI.hdr,hd,if_neg (show ¬ k = N + 1 by omega),if_pos h1,if_neg hne',gd k (by omega)]
      rfl
    · rw [List.getElem?_append_right (by omega)]
      by_cases h2 : k = N
      · subst h2
        rw [F.hrow_at (by rw [hF]; show k < k + 2; omega),hfl,← hN,Nat.sub_self,hF]
        simp only [FlI.hdr,if_neg (show ¬ k = k + 1 by omega),if_neg (Nat.lt_irrefl k)]
        rfl
      · by_cases h3 : k = N + 1
        · subst h3
          rw [F.hrow_at (by rw [hF]; show N + 1 < N + 2; omega),hfl,← hN,Nat.add_sub_cancel_left,hL1,hF]
          simp only [FlI.hdr,FlI.emp,if_true,if_neg (show ¬ N + 1 < N by omega),if_neg (show ¬ N + 1 = N by omega)]
          rfl
        · have a1 : F.hrow.length = N + 2:=by rw [F.hrow_len,hF]
          rw [List.getElem?_eq_none (by omega),List.getElem?_eq_none (by simp; omega)]
  have hI : F.In (fun k=>if k < N then Ls.getD k [] else if k = N then L else RL) F.U:=fun j hj hn=>by
    rw [hF] at hj hn ⊢
    rcases three j hj with h | rfl | rfl
    · simp only [if_pos h]
      refine ⟨?_,trivial⟩
      have e:=hT j Ls[j] (by simp [hN ▸ h]) (hne _ (List.getElem_mem (by omega)))
      rw [cutM_none (by rw [hcut]; simp),gd j (by omega)]
      simpa [tkT,grT] using e
    · simp only [if_neg (Nat.lt_irrefl j),if_true]
      exact ⟨c42,trivial⟩
    · simp only [if_neg (show ¬ N + 1 < N by omega),if_neg (show ¬ N + 1 = N by omega)]
      simp only [if_true] at hn
      refine ⟨?_,trivial⟩
      rw [cutM_none (by rw [hcut]; simp),hM1 hn]
  have hC : F.CK:=by
    refine ⟨by rw [hF]; show N + 2≤100; omega,fun k hk=>?_,fun k hk=>?_,(fun k t hk ht=>by rw [hF] at ht; cases ht),fun j k hj hk nj nk e=>?_,fun j k hj hk nj nk e=>?_,?_,fun j hj hn=>?_,fun k i=>by rw [hF]⟩
    · rw [hF] at hk ⊢
      by_cases h0 : k = N + 1
      · subst h0
        simp only [if_true] at hk
        simp only [if_neg (show ¬ N + 1 < N by omega),if_neg (show ¬ N + 1 = N by omega)]
        rw [hnl hk]; rfl
      · simp only [if_neg h0] at hk; cases hk
    · rw [hF] at hk ⊢
      show (if k < N then (Ls.getD k []).length else if k = N then L.length else RL.length)≤1000
      split
      · rename_i h
        rw [gd k (by omega)]
        have:=hLl Ls[k] (List.getElem_mem (by omega))
        omega
      · split <;> omega
    · rw [hF] at hj hk e
      rcases three j hj with h | rfl | rfl <;> rcases three k hk with h' | rfl | rfl
      · simp only [if_pos h,if_pos h'] at e; simpa using e
      · simp [h] at e
      · simp [h,show ¬ N + 1 < N by omega] at e
      · simp [h'] at e
      · rfl
      · simp [show ¬ j + 1 < j by omega] at e
      · simp [h',show ¬ N + 1 < N by omega] at e
      · simp [show ¬ k + 1 < k by omega] at e
      · rfl
    · rw [hF] at hj hk e
      rcases three j hj with h | rfl | rfl <;> rcases three k hk with h' | rfl | rfl
      · simp only [if_pos h,if_pos h'] at e; simpa using e
      · simp [h] at e
      · simp [h,show ¬ N + 1 < N by omega] at e
      · simp [h'] at e
      · rfl
      · simp [show ¬ j + 1 < j by omega] at e
      · simp [h',show ¬ N + 1 < N by omega] at e
      · simp [show ¬ k + 1 < k by omega] at e
      · rfl
    · rw [hhr,hF]
      show cutM cut M [180,0] = _
      rw [cutM_none (by rw [hcut]; rfl),h180]
    · rw [hF] at hj ⊢
      rcases three j hj with h | rfl | rfl
      · rcases hlg with rfl | rfl <;> simp [h]
      · rcases hlg with rfl | rfl <;> simp
      · rcases hlg with rfl | rfl <;> simp [show ¬ N + 1 < N by omega]
  have hU : F.U = cutM cut M:=by rw [hF]
  have e:=S52_at (M:=M) hC hI hU (fun τ k h=>by
    rw [hcut] at h
    by_cases h0 : τ = [42,0]
    · exact ⟨N,by rw [hF]; show N < N + 2; omega,by rw [hF]; simp,by rw [hF]; simp [h0]⟩
    · simp only [if_neg h0] at h; cases h) (by rw [hF]; show 0 < N + 2; omega) (by rw [hhr,hF]; exact h180)
  have e1 : F.lt = [180,0]:=by rw [hF]
  have e2 : F.K = Ls.length + 2:=by rw [hF,hN]
  rw [e1,e2] at e
  exact ⟨_,e⟩
end Go.Proofs.Ytpmgaaalfdjikaa
namespace Go.Proofs.Ytpmgaaalfdjikaa
open Go.RowKit
set_option linter.unusedSimpArgs false
set_option linter.unusedVariables false
def W21T : WC:=(.seq (.reg [.set [(49,.ap (.load 6 true) [.t 5]),(50,.t 1)] [49,50],.stm (.eff (.callq 51 43 [.t 49,.t 50]) none),.set [(52,.ap (.ext 0) [.t 51]),(53,.ap (.ext 1) [.t 51])] [48,52,53],.stm (.eff (.box 15 (.c (.agg [.v (.int .i64 0),.v (.int .i64 0),.v (.int .i64 0),.v (.int .i64 0),.v (.int .i64 0),.nil]))) none),.stm (.eff (.store 6 (.t 15) (.t 52)) none),.set [(16,.t 53)] [16]]) (.seq (.reg [.set [(55,.ap (.load 6 true) [.t 11]),(56,.t 2)] [55,56],.stm (.eff (.callq 57 20 [.t 55,.t 56]) none),.set [(17,.ap (.ext 0) [.t 57]),(18,.ap (.ext 1) [.t 57])] [54,58,59,17,18]]) (.seq (.reg [.set [(61,.ap (.load 6 true) [.t 5]),(62,.t 2)] [61,62],.stm (.eff (.callq 63 44 [.t 61,.t 62]) none),.set [(19,.ap (.ext 0) [.t 63]),(20,.ap (.ext 1) [.t 63])] [60,64,65,19,20]]) (.seq (.reg [.set [(21,.ap (.ext 0) [.ap (.call 25) [.ap (.load 6 true) [.t 11],.t 3,.t 4]]),(22,.ap (.ext 1) [.ap (.call 25) [.ap (.load 6 true) [.t 11],.t 3,.t 4]])] [67,68,69,70,66,71,72,21,22]]) (.seq (.reg [.set [(23,.ap (.ext 0) [.ap (.call 45) [.ap (.load 6 true) [.t 5],.t 3,.t 4]]),(24,.ap (.ext 1) [.ap (.call 45) [.ap (.load 6 true) [.t 5],.t 3,.t 4]])] [74,75,76,77,73,78,79,23,24]]) (.seq (.reg [.set [(81,.ap (.load 6 true) [.t 11])] [81],.stm (.eff (.callq 82 26 [.t 81]) none),.set [(25,.ap (.ext 0) [.t 82]),(26,.ap (.ext 1) [.t 82])] [80,83,84,25,26]]) (.seq (.reg [.set [(86,.ap (.load 6 true) [.t 5])] [86],.stm (.eff (.callq 87 46 [.t 86]) none),.set [(27,.ap (.ext 0) [.t 87]),(28,.ap (.ext 1) [.t 87])] [85,88,89,27,28]]) (.seq (.reg [.set [(29,.ap (.ext 0) [.ap (.call 18) [.ap (.load 6 true) [.t 11]]]),(30,.ap (.ext 1) [.ap (.call 18) [.ap (.load 6 true) [.t 11]]])] [91,92,90,93,94,29,30]]) (.seq (.reg [.set [(31,.ap (.ext 0) [.ap (.call 47) [.ap (.load 6 true) [.t 5]]]),(32,.ap (.ext 1) [.ap (.call 47) [.ap (.load 6 true) [.t 5]]])] [96,97,95,98,99,31,32]]) (.seq (.seq (.reg [.set [(132,.ite (.ite (.ite (.ite (.ite (.ap .inot [.ap (.call 48) [.ap (.load 6 true) [.t 13],.ap (.load 6 true) [.t 15]]]) (.c (.v (.bool true))) (.ap .inot [.ap (.call 38) [.t 17,.t 19]])) (.c (.v (.bool true))) (.ap (.ibin .neq) [.t 21,.t 23])) (.c (.v (.bool true))) (.ap .inot [.ap (.call 30) [.t 25,.t 27]])) (.c (.v (.bool true))) (.ap (.ibin .neq) [.t 29,.t 31])) (.c (.v (.bool true))) (.ap (.beq true) [.ap (.call 27) [.ap (.load 6 true) [.t 11]],.ap (.call 49) [.ap (.load 6 true) [.t 5]]]))] [100,101,102,103,104,105,106,107,108,109,110,111,112,113,114,115,116,117,118,119,120,121,122,123,124,125,126,127,128,129,130,131,132]]) (.cond (.t 132) (.seq (.reg [.set [(10,.c (.v (.bool false)))] [10]]) .ret) .skip)) (.seq (.seq (.reg [.stm (.op 133 .mv [.t 14] none),.stm (.op 134 .mv [.t 16] none),.stm (.op 135 (.ibin .neq) [.t 133,.t 134] none),.stm (.op 136 .mv [.t 135] none),.stm (.op 137 .mv [.t 18] (some (136,false))),.stm (.op 138 .mv [.t 20] (some (136,false))),.stm (.op 139 (.ibin .neq) [.t 137,.t 138] (some (136,false))),.stm (.op 140 .pick [.t 136,.c (.v (.bool true)),.t 139] none),.stm (.op 141 .mv [.t 140] none),.stm (.op 142 .mv [.t 22] (some (141,false))),.stm (.op 143 .mv [.t 24] (some (141,false))),.stm (.op 144 (.ibin .neq) [.t 142,.t 143] (some (141,false))),.stm (.op 145 .pick [.t 141,.c (.v (.bool true)),.t 144] none),.stm (.op 146 .mv [.t 145] none),.stm (.op 147 .mv [.t 26] (some (146,false))),.stm (.op 148 .mv [.t 28] (some (146,false))),.stm (.op 149 (.ibin .neq) [.t 147,.t 148] (some (146,false))),.stm (.op 150 .pick [.t 146,.c (.v (.bool true)),.t 149] none),.stm (.op 151 .mv [.t 150] none),.stm (.op 152 .mv [.t 30] (some (151,false))),.stm (.op 153 .mv [.t 32] (some (151,false))),.stm (.op 154 (.ibin .neq) [.t 152,.t 153] (some (151,false))),.stm (.op 155 .pick [.t 151,.c (.v (.bool true)),.t 154] none),.stm (.op 156 .mv [.t 155] none),.stm (.op 157 (.load 6 true) [.t 11] (some (156,false))),.stm (.op 158 (.load 6 true) [.t 5] (some (156,false))),.stm (.eff (.callm 159 36 [.t 157,.t 158]) (some (156,false))),.stm (.op 160 .inot [.t 159] (some (156,false))),.stm (.op 161 .pick [.t 156,.c (.v (.bool true)),.t 160] none),.stm (.op 162 .mv [.t 161] none),.stm (.op 163 .mv [.t 12] (some (162,false))),.stm (.op 164 .mv [.t 1] (some (162,false))),.stm (.eff (.callm 165 50 [.t 163,.t 164]) (some (162,false))),.stm (.op 166 .inot [.t 165] (some (162,false))),.stm (.op 167 .pick [.t 162,.c (.v (.bool true)),.t 166] none)]) (.cond (.t 167) (.seq (.reg [.set [(10,.c (.v (.bool false)))] [10]]) .ret) .skip)) (.seq (.reg [.set [(169,.ap (.load 1 false) [.ap (.fld 5) [.t 11]]),(171,.ap (.load 1 false) [.ap (.fld 5) [.t 13]])] [168,169,170,171],.stm (.eff (.lit 172 22 1 2 [.nil,.nil] [(0,1),(1,1)] [.t 169,.t 171]) none),.stm (.eff (.callm 173 51 [.t 172]) none),.stm (.op 174 .mv [.t 173] none),.stm (.op 175 .mv [.t 25] (some (174,true))),.stm (.op 176 .mv [.t 12] (some (174,true))),.stm (.op 177 .mv [.t 17] (some (174,true))),.stm (.eff (.lit 178 34 1 2 [.nil,.nil] [(0,1),(1,1)] [.t 176,.t 177]) (some (174,true))),.stm (.eff (.app 179 34 1 (.t 175) (.t 178)) (some (174,true))),.stm (.eff (.callm 180 52 [.t 179]) (some (174,true))),.set [(10,.ite (.t 174) (.t 180) (.c (.v (.bool false))))] [181,10]]) .ret))))))))))))
def W21 : WC × List VRes:=(.seq (.reg [.stm (.eff (.box 5 (.t 0)) none),.set [(10,.c (.v (.bool false)))] [10]]) (.seq (.seq (.reg [.set [(33,.ap (.load 6 true) [.t 5]),(34,.t 1)] [33,34],.stm (.eff (.lit 35 34 1 1 [.nil] [(0,1)] [.t 34]) none),.set [(37,.ap .inot [.ap (.call 32) [.t 33,.t 35]])] [36,37]]) (.cond (.t 37) (.seq (.reg [.set [(10,.c (.v (.bool true)))] [10]]) .ret) .skip)) (.seq (.reg [.set [(38,.ap (.load 6 true) [.t 5])] [38],.stm (.eff (.callq 39 33 [.t 38]) none),.set [(40,.t 1)] [40],.stm (.eff (.callq 41 42 [.t 40]) none),.stm (.eff (.box 11 (.c (.agg [.v (.int .i64 0),.v (.int .i64 0),.v (.int .i64 0),.v (.int .i64 0),.v (.int .i64 0),.nil]))) none),.stm (.eff (.store 6 (.t 11) (.t 39)) none),.set [(12,.t 41)] [12]]) (.seq (.reg [.set [(43,.ap (.load 6 true) [.t 11]),(44,.t 12)] [43,44],.stm (.eff (.callq 45 17 [.t 43,.t 44]) none),.set [(46,.ap (.ext 0) [.t 45]),(47,.ap (.ext 1) [.t 45])] [42,46,47],.stm (.eff (.box 13 (.c (.agg [.v (.int .i64 0),.v (.int .i64 0),.v (.int .i64 0),.v (.int .i64 0),.v (.int .i64 0),.nil]))) none),.stm (.eff (.store 6 (.t 13) (.t 46)) none),.set [(14,.t 47)] [14]]) W21T))),[.t 10])
theorem is21 : IsFn Try.prog frOf 21 Try.f21 W21:=⟨by kernel_rfl,by kernel_rfl,by kernel_rfl⟩
def WH21 : WC × List VRes:=(.seq (.reg [.stm (.eff (.box 5 (.t 0)) none),.set [(10,.c (.v (.bool false)))] [10]]) (.seq (.seq (.reg [.set [(33,.ap (.load 6 true) [.t 5]),(34,.t 1)] [33,34],.stm (.eff (.lit 35 34 1 1 [.nil] [(0,1)] [.t 34]) none),.set [(37,.ap .inot [.ap (.call 32) [.t 33,.t 35]])] [36,37]]) (.cond (.t 37) (.seq (.reg [.set [(10,.c (.v (.bool true)))] [10]]) .ret) .skip)) (.seq (.reg [.set [(38,.ap (.load 6 true) [.t 5])] [38],.stm (.eff (.callq 39 33 [.t 38]) none),.set [(40,.t 1)] [40],.stm (.eff (.callq 41 42 [.t 40]) none),.stm (.eff (.box 11 (.c (.agg [.v (.int .i64 0),.v (.int .i64 0),.v (.int .i64 0),.v (.int .i64 0),.v (.int .i64 0),.nil]))) none),.stm (.eff (.store 6 (.t 11) (.t 39)) none),.set [(12,.t 41)] [12]]) (.seq (.reg [.set [(43,.ap (.load 6 true) [.t 11]),(44,.t 12)] [43,44],.stm (.eff (.callm 45 17 [.t 43,.t 44]) none),.set [(46,.ap (.ext 0) [.t 45]),(47,.ap (.ext 1) [.t 45])] [42,46,47],.stm (.eff (.box 13 (.c (.agg [.v (.int .i64 0),.v (.int .i64 0),.v (.int .i64 0),.v (.int .i64 0),.v (.int .i64 0),.nil]))) none),.stm (.eff (.store 6 (.t 13) (.t 46)) none),.set [(14,.t 47)] [14]]) W21T))),[.t 10])
theorem isH21 : IsFn Try.prog frH 21 Try.f21 WH21:=⟨by kernel_rfl,by kernel_rfl,by kernel_rfl⟩
theorem nt21 : Try.f21.ntmps = 182:=by kernel_rfl
theorem c21t (q17 : FQ) (m17 : FM) (p25 p45 p18 p47 p48 p38 p30 p27 p49 p32 : FP) (q43 q20 q44 q26 q46 q33 q42 : FQ) (m36 m50 : FM) (m : Mv) (L : List Int) (n p q : Int) (E : List Row) (Mk : List Int) (aM : Mv) (eT eL cx ex eB cu eu : Int) (RL : List Int) (Ls : List (List Int)) (fB : Bool)
    (hB : D) (MB : Mem) (hB0 : PreR hB aM.rows MB) (h43 : q43 [.agg [iv m.t,iv m.r,iv m.s,iv m.c,iv m.w,.list (rowsL m.rows)],.list (ints L)] = some (.tup [.agg (aM.cellsW hB),iv eT],MB))
    (hL : D) (ML : Mem) (hL0 : PreI hL RL ML) (h20 : q20 [.agg [iv m.t,iv m.r,iv m.s,iv m.c,iv m.w,.list (rowsL m.rows)],iv n] = some (.tup [hL,iv eL],ML)) (h44 : q44 [.agg [iv m.t,iv m.r,iv m.s,iv m.c,iv m.w,.list (rowsL m.rows)],iv n] = some (.tup [hL,iv eL],ML))
    (h25 : p25 [.agg [iv m.t,iv m.r,iv m.s,iv m.c,iv m.w,.list (rowsL m.rows)],iv p,iv q] = some (.tup [iv cx,iv ex])) (h45 : p45 [.agg [iv m.t,iv m.r,iv m.s,iv m.c,iv m.w,.list (rowsL m.rows)],iv p,iv q] = some (.tup [iv cx,iv ex]))
    (hT : D) (MT : Mem) (hT0 : PreT hT Ls MT) (h26 : q26 [.agg [iv m.t,iv m.r,iv m.s,iv m.c,iv m.w,.list (rowsL m.rows)]] = some (.tup [hT,iv eB],MT)) (h46 : q46 [.agg [iv m.t,iv m.r,iv m.s,iv m.c,iv m.w,.list (rowsL m.rows)]] = some (.tup [hT,iv eB],MT))
    (h18q : p18 [.agg [iv m.t,iv m.r,iv m.s,iv m.c,iv m.w,.list (rowsL m.rows)]] = some (.tup [iv cu,iv eu])) (h47 : p47 [.agg [iv m.t,iv m.r,iv m.s,iv m.c,iv m.w,.list (rowsL m.rows)]] = some (.tup [iv cu,iv eu]))
    (h48 : p48 [.agg [iv aM.t,iv aM.r,iv aM.s,iv aM.c,iv aM.w,.list (rowsL aM.rows)],.agg [iv aM.t,iv aM.r,iv aM.s,iv aM.c,iv aM.w,.list (rowsL aM.rows)]] = some (bv true)) (h38 : p38 [.list (ints RL),.list (ints RL)] = some (bv true)) (h30p : p30 [.list (lists Ls),.list (lists Ls)] = some (bv true)) (h27 : p27 [.agg [iv m.t,iv m.r,iv m.s,iv m.c,iv m.w,.list (rowsL m.rows)]] = some (bv fB)) (h49 : p49 [.agg [iv m.t,iv m.r,iv m.s,iv m.c,iv m.w,.list (rowsL m.rows)]] = some (bv fB))
    (h36 : ∀ M : Mem,M [40,0] = some (.row [40,0,0] 53 (rowsL (m.rows ++ E)))→m36 M [.agg [iv m.t,iv m.r,iv m.s,iv m.c,iv m.w,.sl [40,0] 5 0 m.rows.length none],.agg [iv m.t,iv m.r,iv m.s,iv m.c,iv m.w,.list (rowsL m.rows)]] = some (bv true,upM M))
    (h50 : ∀ M : Mem,M [42,0] = some (.row [42,0,0] 3 (ints (L ++ Mk)))→m50 M [.sl [42,0] 1 0 L.length none,.list (ints L)] = some (bv true,upM M))
    (hm60 : m.rows.length≤60) (hR60 : aM.rows.length≤60) (hl60 : L.length≤60) (hRL60 : RL.length≤60) (hLs60 : Ls.length≤60) (hLl60 : ∀ l ∈ Ls,l.length≤60) (hne : ∀ l ∈ Ls,l ≠ [])
    (σ : St) (W : WF σ) (hσ : T3 m L n p q E Mk aM eT σ) :
    wwp (mkEnv [(32,p32),(25,p25),(45,p45),(18,p18),(47,p47),(48,p48),(38,p38),(30,p30),(27,p27),(49,p49)] [(17,q17),(43,q43),(20,q20),(44,q44),(26,q26),(46,q46),(33,q33),(42,q42)] [(17,m17),(36,m36),(50,m50),(51,S51),(52,S52)]) W21T (fun e s=>okExit e∧resV [.t 10] s = some (bv true)) σ:=by
  have htk : (rowsL (m.rows ++ E)).take m.rows.length = rowsL m.rows:=by rw [rowsL_append]; exact List.take_left' (by simp)
  have hti : (ints (L ++ Mk)).take L.length = ints L:=by rw [ints_append]; exact List.take_left' (by simp)
  have hle : m.rows.length≤(rowsL (m.rows ++ E)).length:=by simp
  have hli : L.length≤(ints (L ++ Mk)).length:=by simp
  simp only [W21T]
  obtain ⟨B,h13,hA,h14,c15,c51,c57,c63,c82,c87,c172,c178,c179⟩:=hσ
  refine wwp_cutW W (fun σ=>TB m L n p q E Mk σ∧σ.s 13 = .ptr [14,0] 0∧BxR aM 14 46 σ.m∧σ.s 14 = iv eT∧σ.s 15 = .ptr [16,0] 0∧BxR aM 16 52 σ.m∧σ.s 16 = iv eT∧σ.c 57 = 0∧σ.c 63 = 0∧σ.c 82 = 0∧σ.c 87 = 0∧σ.c 172 = 0∧σ.c 178 = 0∧σ.c 179 = 0) ?_ ?_
  · rcases hB0 with ⟨rfl,rfl,hR⟩ | ⟨rfl,rfl⟩
    · simp [B.s1,B.s2,B.s3,B.s4,B.s5,B.m6,B.s11,B.m12,B.s12,B.m40,B.m42,htk,hti,hle,hli,h13,h14,c15,c51,c57,c63,c82,c87,c172,c178,c179,h43,putAt,Mv.cellsW]
      exact ⟨⟨by simp [B.s1],by simp [B.s2],by simp [B.s3],by simp [B.s4],by simp [B.s5],by simp [B.m6],by simp [B.s11],by simp [B.m12],by simp [B.s12],by simp [B.m40],by simp [B.m42]⟩,hA.mono (fun o h=>by simp [h]) fun r o h=>by simp [h],⟨.nil,by simp [Mv.cellsW],.inl ⟨rfl,hR⟩⟩⟩
    · simp [B.s1,B.s2,B.s3,B.s4,B.s5,B.m6,B.s11,B.m12,B.s12,B.m40,B.m42,htk,hti,hle,hli,h13,h14,c15,c51,c57,c63,c82,c87,c172,c178,c179,h43,putAt,Mv.cellsW]
      exact ⟨⟨by simp [B.s1],by simp [B.s2],by simp [B.s3],by simp [B.s4],by simp [B.s5],by simp [B.m6],by simp [B.s11],by simp [B.m12],by simp [B.s12],by simp [B.m40],by simp [B.m42]⟩,hA.mono (fun o h=>by simp [h]) fun r o h=>by simp [h],⟨.sl [52,0] 5 0 aM.rows.length none,by simp [Mv.cellsW],.inr ⟨[],[0],rfl,by simp [c51]⟩⟩⟩
  clear W B h13 hA h14 c15 c51 c57 c63 c82 c87 c172 c178 c179 σ
  rintro σ W ⟨B,h13,hA,h14,h15,hB,h16,c57,c63,c82,c87,c172,c178,c179⟩
  refine wwp_cutW W (fun σ=>TB m L n p q E Mk σ∧σ.s 13 = .ptr [14,0] 0∧BxR aM 14 46 σ.m∧σ.s 14 = iv eT∧σ.s 15 = .ptr [16,0] 0∧BxR aM 16 52 σ.m∧σ.s 16 = iv eT∧HdI (σ.s 17) RL 58 σ.m∧σ.s 18 = iv eL∧σ.c 63 = 0∧σ.c 82 = 0∧σ.c 87 = 0∧σ.c 172 = 0∧σ.c 178 = 0∧σ.c 179 = 0) ?_ ?_
  · rcases hL0 with ⟨rfl,rfl,hR⟩ | ⟨rfl,rfl⟩
    · simp [B.s1,B.s2,B.s3,B.s4,B.s5,B.m6,B.s11,B.m12,B.s12,B.m40,B.m42,htk,hti,hle,hli,h13,h14,h15,h16,c57,c63,c82,c87,c172,c178,c179,h20,putAt,Mv.cellsW]
      exact ⟨⟨by simp [B.s1],by simp [B.s2],by simp [B.s3],by simp [B.s4],by simp [B.s5],by simp [B.m6],by simp [B.s11],by simp [B.m12],by simp [B.s12],by simp [B.m40],by simp [B.m42]⟩,hA.mono (fun o h=>by simp [h]) fun r o h=>by simp [h],hB.mono (fun o h=>by simp [h]) fun r o h=>by simp [h],.inl ⟨rfl,hR⟩⟩
    · simp [B.s1,B.s2,B.s3,B.s4,B.s5,B.m6,B.s11,B.m12,B.s12,B.m40,B.m42,htk,hti,hle,hli,h13,h14,h15,h16,c57,c63,c82,c87,c172,c178,c179,h20,putAt,Mv.cellsW]
      exact ⟨⟨by simp [B.s1],by simp [B.s2],by simp [B.s3],by simp [B.s4],by simp [B.s5],by simp [B.m6],by simp [B.s11],by simp [B.m12],by simp [B.s12],by simp [B.m40],by simp [B.m42]⟩,hA.mono (fun o h=>by simp [h]) fun r o h=>by simp [h],hB.mono (fun o h=>by simp [h]) fun r o h=>by simp [h],.inr ⟨[],[0],rfl,by simp [c57]⟩⟩
  clear W B h13 hA h14 h15 hB h16 c57 c63 c82 c87 c172 c178 c179 σ
  rintro σ W ⟨B,h13,hA,h14,h15,hB,h16,hL,h18,c63,c82,c87,c172,c178,c179⟩
  refine wwp_cutW W (fun σ=>TB m L n p q E Mk σ∧σ.s 13 = .ptr [14,0] 0∧BxR aM 14 46 σ.m∧σ.s 14 = iv eT∧σ.s 15 = .ptr [16,0] 0∧BxR aM 16 52 σ.m∧σ.s 16 = iv eT∧HdI (σ.s 17) RL 58 σ.m∧σ.s 18 = iv eL∧HdI (σ.s 19) RL 64 σ.m∧σ.s 20 = iv eL∧σ.c 82 = 0∧σ.c 87 = 0∧σ.c 172 = 0∧σ.c 178 = 0∧σ.c 179 = 0) ?_ ?_
  · rcases hL0 with ⟨rfl,rfl,hR⟩ | ⟨rfl,rfl⟩
    · simp [B.s1,B.s2,B.s3,B.s4,B.s5,B.m6,B.s11,B.m12,B.s12,B.m40,B.m42,htk,hti,hle,hli,h13,h14,h15,h16,h18,c63,c82,c87,c172,c178,c179,h44,putAt,Mv.cellsW]
      exact ⟨⟨by simp [B.s1],by simp [B.s2],by simp [B.s3],by simp [B.s4],by simp [B.s5],by simp [B.m6],by simp [B.s11],by simp [B.m12],by simp [B.s12],by simp [B.m40],by simp [B.m42]⟩,hA.mono (fun o h=>by simp [h]) fun r o h=>by simp [h],hB.mono (fun o h=>by simp [h]) fun r o h=>by simp [h],hL.mono fun r o h=>by simp [h],.inl ⟨rfl,hR⟩⟩
    · simp [B.s1,B.s2,B.s3,B.s4,B.s5,B.m6,B.s11,B.m12,B.s12,B.m40,B.m42,htk,hti,hle,hli,h13,h14,h15,h16,h18,c63,c82,c87,c172,c178,c179,h44,putAt,Mv.cellsW]
      exact ⟨⟨by simp [B.s1],by simp [B.s2],by simp [B.s3],by simp [B.s4],by simp [B.s5],by simp [B.m6],by simp [B.s11],by simp [B.m12],by simp [B.s12],by simp [B.m40],by simp [B.m42]⟩,hA.mono (fun o h=>by simp [h]) fun r o h=>by simp [h],hB.mono (fun o h=>by simp [h]) fun r o h=>by simp [h],hL.mono fun r o h=>by simp [h],.inr ⟨[],[0],rfl,by simp [c63]⟩⟩
  clear W B h13 hA h14 h15 hB h16 hL h18 c63 c82 c87 c172 c178 c179 σ
  rintro σ W ⟨B,h13,hA,h14,h15,hB,h16,hL,h18,hW,h20',c82,c87,c172,c178,c179⟩
  refine wwp_cutW W (fun σ=>TB m L n p q E Mk σ∧σ.s 13 = .ptr [14,0] 0∧BxR aM 14 46 σ.m∧σ.s 14 = iv eT∧σ.s 15 = .ptr [16,0] 0∧BxR aM 16 52 σ.m∧σ.s 16 = iv eT∧HdI (σ.s 17) RL 58 σ.m∧σ.s 18 = iv eL∧HdI (σ.s 19) RL 64 σ.m∧σ.s 20 = iv eL∧σ.s 21 = iv cx∧σ.s 22 = iv ex∧σ.c 82 = 0∧σ.c 87 = 0∧σ.c 172 = 0∧σ.c 178 = 0∧σ.c 179 = 0) ?_ ?_
  · simp [B.s1,B.s2,B.s3,B.s4,B.s5,B.m6,B.s11,B.m12,B.s12,B.m40,B.m42,htk,hti,hle,hli,h13,h14,h15,h16,h18,h20',c82,c87,c172,c178,c179,h25]
    exact ⟨⟨by simp [B.s1],by simp [B.s2],by simp [B.s3],by simp [B.s4],by simp [B.s5],by simp [B.m6],by simp [B.s11],by simp [B.m12],by simp [B.s12],by simp [B.m40],by simp [B.m42]⟩,hA.mono (fun o h=>by simp [h]) fun r o h=>by simp [h],hB.mono (fun o h=>by simp [h]) fun r o h=>by simp [h],hL.mono fun r o h=>by simp [h],hW.mono fun r o h=>by simp [h]⟩
  clear W B h13 hA h14 h15 hB h16 hL h18 hW h20' c82 c87 c172 c178 c179 σ
  rintro σ W ⟨B,h13,hA,h14,h15,hB,h16,hL,h18,hW,h20',h21,h22,c82,c87,c172,c178,c179⟩
  refine wwp_cutW W (fun σ=>TB m L n p q E Mk σ∧σ.s 13 = .ptr [14,0] 0∧BxR aM 14 46 σ.m∧σ.s 14 = iv eT∧σ.s 15 = .ptr [16,0] 0∧BxR aM 16 52 σ.m∧σ.s 16 = iv eT∧HdI (σ.s 17) RL 58 σ.m∧σ.s 18 = iv eL∧HdI (σ.s 19) RL 64 σ.m∧σ.s 20 = iv eL∧σ.s 21 = iv cx∧σ.s 22 = iv ex∧σ.s 23 = iv cx∧σ.s 24 = iv ex∧σ.c 82 = 0∧σ.c 87 = 0∧σ.c 172 = 0∧σ.c 178 = 0∧σ.c 179 = 0) ?_ ?_
  · simp [B.s1,B.s2,B.s3,B.s4,B.s5,B.m6,B.s11,B.m12,B.s12,B.m40,B.m42,htk,hti,hle,hli,h13,h14,h15,h16,h18,h20',h21,h22,c82,c87,c172,c178,c179,h45]
    exact ⟨⟨by simp [B.s1],by simp [B.s2],by simp [B.s3],by simp [B.s4],by simp [B.s5],by simp [B.m6],by simp [B.s11],by simp [B.m12],by simp [B.s12],by simp [B.m40],by simp [B.m42]⟩,hA.mono (fun o h=>by simp [h]) fun r o h=>by simp [h],hB.mono (fun o h=>by simp [h]) fun r o h=>by simp [h],hL.mono fun r o h=>by simp [h],hW.mono fun r o h=>by simp [h]⟩
  clear W B h13 hA h14 h15 hB h16 hL h18 hW h20' h21 h22 c82 c87 c172 c178 c179 σ
  rintro σ W ⟨B,h13,hA,h14,h15,hB,h16,hL,h18,hW,h20',h21,h22,h23,h24,c82,c87,c172,c178,c179⟩
  refine wwp_cutW W (fun σ=>TB m L n p q E Mk σ∧σ.s 13 = .ptr [14,0] 0∧BxR aM 14 46 σ.m∧σ.s 14 = iv eT∧σ.s 15 = .ptr [16,0] 0∧BxR aM 16 52 σ.m∧σ.s 16 = iv eT∧HdI (σ.s 17) RL 58 σ.m∧σ.s 18 = iv eL∧HdI (σ.s 19) RL 64 σ.m∧σ.s 20 = iv eL∧σ.s 21 = iv cx∧σ.s 22 = iv ex∧σ.s 23 = iv cx∧σ.s 24 = iv ex∧HdT (σ.s 25) Ls 83 σ.m∧σ.s 26 = iv eB∧σ.c 87 = 0∧σ.c 172 = 0∧σ.c 178 = 0∧σ.c 179 = 0) ?_ ?_
  · rcases hT0 with ⟨rfl,rfl,hR⟩ | ⟨hpos,rfl,rfl⟩
    · simp [B.s1,B.s2,B.s3,B.s4,B.s5,B.m6,B.s11,B.m12,B.s12,B.m40,B.m42,htk,hti,hle,hli,h13,h14,h15,h16,h18,h20',h21,h22,h23,h24,c82,c87,c172,c178,c179,h26,putAt,Mv.cellsW]
      exact ⟨⟨by simp [B.s1],by simp [B.s2],by simp [B.s3],by simp [B.s4],by simp [B.s5],by simp [B.m6],by simp [B.s11],by simp [B.m12],by simp [B.s12],by simp [B.m40],by simp [B.m42]⟩,hA.mono (fun o h=>by simp [h]) fun r o h=>by simp [h],hB.mono (fun o h=>by simp [h]) fun r o h=>by simp [h],hL.mono fun r o h=>by simp [h],hW.mono fun r o h=>by simp [h],.inl ⟨rfl,hR⟩⟩
    · simp [B.s1,B.s2,B.s3,B.s4,B.s5,B.m6,B.s11,B.m12,B.s12,B.m40,B.m42,htk,hti,hle,hli,h13,h14,h15,h16,h18,h20',h21,h22,h23,h24,c82,c87,c172,c178,c179,h26,putAt,Mv.cellsW]
      exact ⟨⟨by simp [B.s1],by simp [B.s2],by simp [B.s3],by simp [B.s4],by simp [B.s5],by simp [B.m6],by simp [B.s11],by simp [B.m12],by simp [B.s12],by simp [B.m40],by simp [B.m42]⟩,hA.mono (fun o h=>by simp [h]) fun r o h=>by simp [h],hB.mono (fun o h=>by simp [h]) fun r o h=>by simp [h],hL.mono fun r o h=>by simp [h],hW.mono fun r o h=>by simp [h],.inr ⟨hpos,rfl,by simp [tableMem,hdsF_ren,c82]; rfl,fun i L' hi hne=>by simp [tkT,grT,tableMem,hi,hne,c82]⟩⟩
  clear W B h13 hA h14 h15 hB h16 hL h18 hW h20' h21 h22 h23 h24 c82 c87 c172 c178 c179 σ
  rintro σ W ⟨B,h13,hA,h14,h15,hB,h16,hL,h18,hW,h20',h21,h22,h23,h24,hT,h26',c87,c172,c178,c179⟩
  refine wwp_cutW W (fun σ=>TB m L n p q E Mk σ∧σ.s 13 = .ptr [14,0] 0∧BxR aM 14 46 σ.m∧σ.s 14 = iv eT∧σ.s 15 = .ptr [16,0] 0∧BxR aM 16 52 σ.m∧σ.s 16 = iv eT∧HdI (σ.s 17) RL 58 σ.m∧σ.s 18 = iv eL∧HdI (σ.s 19) RL 64 σ.m∧σ.s 20 = iv eL∧σ.s 21 = iv cx∧σ.s 22 = iv ex∧σ.s 23 = iv cx∧σ.s 24 = iv ex∧HdT (σ.s 25) Ls 83 σ.m∧σ.s 26 = iv eB∧HdT (σ.s 27) Ls 88 σ.m∧σ.s 28 = iv eB∧σ.c 172 = 0∧σ.c 178 = 0∧σ.c 179 = 0) ?_ ?_
  · rcases hT0 with ⟨rfl,rfl,hR⟩ | ⟨hpos,rfl,rfl⟩
    · simp [B.s1,B.s2,B.s3,B.s4,B.s5,B.m6,B.s11,B.m12,B.s12,B.m40,B.m42,htk,hti,hle,hli,h13,h14,h15,h16,h18,h20',h21,h22,h23,h24,h26',c87,c172,c178,c179,h46,putAt,Mv.cellsW]
      exact ⟨⟨by simp [B.s1],by simp [B.s2],by simp [B.s3],by simp [B.s4],by simp [B.s5],by simp [B.m6],by simp [B.s11],by simp [B.m12],by simp [B.s12],by simp [B.m40],by simp [B.m42]⟩,hA.mono (fun o h=>by simp [h]) fun r o h=>by simp [h],hB.mono (fun o h=>by simp [h]) fun r o h=>by simp [h],hL.mono fun r o h=>by simp [h],hW.mono fun r o h=>by simp [h],hT.mono fun r o h=>by simp [h],.inl ⟨rfl,hR⟩⟩
    · simp [B.s1,B.s2,B.s3,B.s4,B.s5,B.m6,B.s11,B.m12,B.s12,B.m40,B.m42,htk,hti,hle,hli,h13,h14,h15,h16,h18,h20',h21,h22,h23,h24,h26',c87,c172,c178,c179,h46,putAt,Mv.cellsW]
      exact ⟨⟨by simp [B.s1],by simp [B.s2],by simp [B.s3],by simp [B.s4],by simp [B.s5],by simp [B.m6],by simp [B.s11],by simp [B.m12],by simp [B.s12],by simp [B.m40],by simp [B.m42]⟩,hA.mono (fun o h=>by simp [h]) fun r o h=>by simp [h],hB.mono (fun o h=>by simp [h]) fun r o h=>by simp [h],hL.mono fun r o h=>by simp [h],hW.mono fun r o h=>by simp [h],hT.mono fun r o h=>by simp [h],.inr ⟨hpos,rfl,by simp [tableMem,hdsF_ren,c87]; rfl,fun i L' hi hne=>by simp [tkT,grT,tableMem,hi,hne,c87]⟩⟩
  clear W B h13 hA h14 h15 hB h16 hL h18 hW h20' h21 h22 h23 h24 hT h26' c87 c172 c178 c179 σ
  rintro σ W ⟨B,h13,hA,h14,h15,hB,h16,hL,h18,hW,h20',h21,h22,h23,h24,hT,h26',hQ,h28,c172,c178,c179⟩
  refine wwp_cutW W (fun σ=>TB m L n p q E Mk σ∧σ.s 13 = .ptr [14,0] 0∧BxR aM 14 46 σ.m∧σ.s 14 = iv eT∧σ.s 15 = .ptr [16,0] 0∧BxR aM 16 52 σ.m∧σ.s 16 = iv eT∧HdI (σ.s 17) RL 58 σ.m∧σ.s 18 = iv eL∧HdI (σ.s 19) RL 64 σ.m∧σ.s 20 = iv eL∧σ.s 21 = iv cx∧σ.s 22 = iv ex∧σ.s 23 = iv cx∧σ.s 24 = iv ex∧HdT (σ.s 25) Ls 83 σ.m∧σ.s 26 = iv eB∧HdT (σ.s 27) Ls 88 σ.m∧σ.s 28 = iv eB∧σ.s 29 = iv cu∧σ.s 30 = iv eu∧σ.c 172 = 0∧σ.c 178 = 0∧σ.c 179 = 0) ?_ ?_
  · simp [B.s1,B.s2,B.s3,B.s4,B.s5,B.m6,B.s11,B.m12,B.s12,B.m40,B.m42,htk,hti,hle,hli,h13,h14,h15,h16,h18,h20',h21,h22,h23,h24,h26',h28,c172,c178,c179,h18q]
    exact ⟨⟨by simp [B.s1],by simp [B.s2],by simp [B.s3],by simp [B.s4],by simp [B.s5],by simp [B.m6],by simp [B.s11],by simp [B.m12],by simp [B.s12],by simp [B.m40],by simp [B.m42]⟩,hA.mono (fun o h=>by simp [h]) fun r o h=>by simp [h],hB.mono (fun o h=>by simp [h]) fun r o h=>by simp [h],hL.mono fun r o h=>by simp [h],hW.mono fun r o h=>by simp [h],hT.mono fun r o h=>by simp [h],hQ.mono fun r o h=>by simp [h]⟩
  clear W B h13 hA h14 h15 hB h16 hL h18 hW h20' h21 h22 h23 h24 hT h26' hQ h28 c172 c178 c179 σ
  rintro σ W ⟨B,h13,hA,h14,h15,hB,h16,hL,h18,hW,h20',h21,h22,h23,h24,hT,h26',hQ,h28,h29,h30,c172,c178,c179⟩
  refine wwp_cutW W (fun σ=>TB m L n p q E Mk σ∧σ.s 13 = .ptr [14,0] 0∧BxR aM 14 46 σ.m∧σ.s 14 = iv eT∧σ.s 15 = .ptr [16,0] 0∧BxR aM 16 52 σ.m∧σ.s 16 = iv eT∧HdI (σ.s 17) RL 58 σ.m∧σ.s 18 = iv eL∧HdI (σ.s 19) RL 64 σ.m∧σ.s 20 = iv eL∧σ.s 21 = iv cx∧σ.s 22 = iv ex∧σ.s 23 = iv cx∧σ.s 24 = iv ex∧HdT (σ.s 25) Ls 83 σ.m∧σ.s 26 = iv eB∧HdT (σ.s 27) Ls 88 σ.m∧σ.s 28 = iv eB∧σ.s 29 = iv cu∧σ.s 30 = iv eu∧σ.s 31 = iv cu∧σ.s 32 = iv eu∧σ.c 172 = 0∧σ.c 178 = 0∧σ.c 179 = 0) ?_ ?_
  · simp [B.s1,B.s2,B.s3,B.s4,B.s5,B.m6,B.s11,B.m12,B.s12,B.m40,B.m42,htk,hti,hle,hli,h13,h14,h15,h16,h18,h20',h21,h22,h23,h24,h26',h28,h29,h30,c172,c178,c179,h47]
    exact ⟨⟨by simp [B.s1],by simp [B.s2],by simp [B.s3],by simp [B.s4],by simp [B.s5],by simp [B.m6],by simp [B.s11],by simp [B.m12],by simp [B.s12],by simp [B.m40],by simp [B.m42]⟩,hA.mono (fun o h=>by simp [h]) fun r o h=>by simp [h],hB.mono (fun o h=>by simp [h]) fun r o h=>by simp [h],hL.mono fun r o h=>by simp [h],hW.mono fun r o h=>by simp [h],hT.mono fun r o h=>by simp [h],hQ.mono fun r o h=>by simp [h]⟩
  clear W B h13 hA h14 h15 hB h16 hL h18 hW h20' h21 h22 h23 h24 hT h26' hQ h28 h29 h30 c172 c178 c179 σ
  rintro σ W ⟨B,h13,hA,h14,h15,hB,h16,hL,h18,hW,h20',h21,h22,h23,h24,hT,h26',hQ,h28,h29,h30,h31,h32,c172,c178,c179⟩
  -- the answers are the same
  obtain ⟨hA',mA,hdA⟩:=hA
  obtain ⟨hB',mB,hdB⟩:=hB
  have vA:=hdA.view (n:=5)
  have vB:=hdB.view (n:=5)
  have vL:=hL.view
  have vW:=hW.view
  have vT:=hT.view
  have vQ:=hQ.view
  simp only [Mv.cellsW] at mA mB
  refine wwp_condW W (fun σ=>TB m L n p q E Mk σ∧σ.s 13 = .ptr [14,0] 0∧BxR aM 14 46 σ.m∧σ.s 14 = iv eT∧σ.s 16 = iv eT∧HdI (σ.s 17) RL 58 σ.m∧σ.s 18 = iv eL∧σ.s 20 = iv eL∧σ.s 22 = iv ex∧σ.s 24 = iv ex∧HdT (σ.s 25) Ls 83 σ.m∧σ.s 26 = iv eB∧σ.s 28 = iv eB∧σ.s 30 = iv eu∧σ.s 32 = iv eu∧σ.c 172 = 0∧σ.c 178 = 0∧σ.c 179 = 0) ?_ ?_
  · simp [B.s1,B.s2,B.s3,B.s4,B.s5,B.m6,B.s11,B.m12,B.s12,B.m40,B.m42,htk,hti,hle,hli,h13,h14,h15,h16,h18,h20',h21,h22,h23,h24,h26',h28,h29,h30,h31,h32,c172,c178,c179,mA,mB,vA,vB,vL,vW,vT,vQ,h48,h38,h30p,h27,h49]
    exact ⟨⟨by simp [B.s1],by simp [B.s2],by simp [B.s3],by simp [B.s4],by simp [B.s5],by simp [B.m6],by simp [B.s11],by simp [B.m12],by simp [B.s12],by simp [B.m40],by simp [B.m42]⟩,⟨hA',by simpa [Mv.cellsW] using mA,hdA.mono fun r o h=>by simp [h]⟩,hL.mono fun r o h=>by simp [h],hT.mono fun r o h=>by simp [h]⟩
  clear W B h13 mA hdA vA h14 h15 mB hdB vB h16 hL vL h18 hW vW h20' h21 h22 h23 h24 hT vT h26' hQ vQ h28 h29 h30 h31 h32 c172 c178 c179 hA' hB' σ
  rintro σ W ⟨B,h13,hA,h14,h16,hL,h18,h20',h22,h24,hT,h26',h28,h30,h32,c172,c178,c179⟩
  refine wwp_seq_assoc ?_
  refine wwp_cutN 4 W (fun σ=>TB m L n p q E Mk σ∧σ.s 13 = .ptr [14,0] 0∧BxR aM 14 46 σ.m∧HdI (σ.s 17) RL 58 σ.m∧HdT (σ.s 25) Ls 83 σ.m∧σ.c 172 = 0∧σ.c 178 = 0∧σ.c 179 = 0∧σ.s 18 = iv eL∧σ.s 20 = iv eL∧σ.s 22 = iv ex∧σ.s 24 = iv ex∧σ.s 26 = iv eB∧σ.s 28 = iv eB∧σ.s 30 = iv eu∧σ.s 32 = iv eu∧σ.s 136 = bv false) ?_ ?_
  · simp [h13,h14,h18,h22,h26',h30,h16,h20',h24,h28,h32,c172,c178,c179]
    exact ⟨⟨by simp [B.s1],by simp [B.s2],by simp [B.s3],by simp [B.s4],by simp [B.s5],by simp [B.m6],by simp [B.s11],by simp [B.m12],by simp [B.s12],by simp [B.m40],by simp [B.m42]⟩,hA.mono (fun o h=>by simp [h]) fun r o h=>by simp [h],hL.mono fun r o h=>by simp [h],hT.mono fun r o h=>by simp [h]⟩
  clear W B h13 hA hL hT c172 c178 c179 h14 h18 h22 h26' h30 h16 h20' h24 h28 h32  σ
  rintro σ W ⟨B,h13,hA,hL,hT,c172,c178,c179,h18,h20',h22,h24,h26',h28,h30,h32,hg⟩
  simp only [List.drop_succ_cons,List.drop_zero]
  refine wwp_cutN 5 W (fun σ=>TB m L n p q E Mk σ∧σ.s 13 = .ptr [14,0] 0∧BxR aM 14 46 σ.m∧HdI (σ.s 17) RL 58 σ.m∧HdT (σ.s 25) Ls 83 σ.m∧σ.c 172 = 0∧σ.c 178 = 0∧σ.c 179 = 0∧σ.s 22 = iv ex∧σ.s 24 = iv ex∧σ.s 26 = iv eB∧σ.s 28 = iv eB∧σ.s 30 = iv eu∧σ.s 32 = iv eu∧σ.s 141 = bv false) ?_ ?_
  · simp [h13,h18,h22,h26',h30,h20',h24,h28,h32,c172,c178,c179,hg]
    exact ⟨⟨by simp [B.s1],by simp [B.s2],by simp [B.s3],by simp [B.s4],by simp [B.s5],by simp [B.m6],by simp [B.s11],by simp [B.m12],by simp [B.s12],by simp [B.m40],by simp [B.m42]⟩,hA.mono (fun o h=>by simp [h]) fun r o h=>by simp [h],hL.mono fun r o h=>by simp [h],hT.mono fun r o h=>by simp [h]⟩
  clear W B h13 hA hL hT c172 c178 c179 h18 h22 h26' h30 h20' h24 h28 h32 hg σ
  rintro σ W ⟨B,h13,hA,hL,hT,c172,c178,c179,h22,h24,h26',h28,h30,h32,hg⟩
  simp only [List.drop_succ_cons,List.drop_zero]
  refine wwp_cutN 5 W (fun σ=>TB m L n p q E Mk σ∧σ.s 13 = .ptr [14,0] 0∧BxR aM 14 46 σ.m∧HdI (σ.s 17) RL 58 σ.m∧HdT (σ.s 25) Ls 83 σ.m∧σ.c 172 = 0∧σ.c 178 = 0∧σ.c 179 = 0∧σ.s 26 = iv eB∧σ.s 28 = iv eB∧σ.s 30 = iv eu∧σ.s 32 = iv eu∧σ.s 146 = bv false) ?_ ?_
  · simp [h13,h22,h26',h30,h24,h28,h32,c172,c178,c179,hg]
    exact ⟨⟨by simp [B.s1],by simp [B.s2],by simp [B.s3],by simp [B.s4],by simp [B.s5],by simp [B.m6],by simp [B.s11],by simp [B.m12],by simp [B.s12],by simp [B.m40],by simp [B.m42]⟩,hA.mono (fun o h=>by simp [h]) fun r o h=>by simp [h],hL.mono fun r o h=>by simp [h],hT.mono fun r o h=>by simp [h]⟩
  clear W B h13 hA hL hT c172 c178 c179 h22 h26' h30 h24 h28 h32 hg σ
  rintro σ W ⟨B,h13,hA,hL,hT,c172,c178,c179,h26',h28,h30,h32,hg⟩
  simp only [List.drop_succ_cons,List.drop_zero]
  refine wwp_cutN 5 W (fun σ=>TB m L n p q E Mk σ∧σ.s 13 = .ptr [14,0] 0∧BxR aM 14 46 σ.m∧HdI (σ.s 17) RL 58 σ.m∧HdT (σ.s 25) Ls 83 σ.m∧σ.c 172 = 0∧σ.c 178 = 0∧σ.c 179 = 0∧σ.s 30 = iv eu∧σ.s 32 = iv eu∧σ.s 151 = bv false) ?_ ?_
  · simp [h13,h26',h30,h28,h32,c172,c178,c179,hg]
    exact ⟨⟨by simp [B.s1],by simp [B.s2],by simp [B.s3],by simp [B.s4],by simp [B.s5],by simp [B.m6],by simp [B.s11],by simp [B.m12],by simp [B.s12],by simp [B.m40],by simp [B.m42]⟩,hA.mono (fun o h=>by simp [h]) fun r o h=>by simp [h],hL.mono fun r o h=>by simp [h],hT.mono fun r o h=>by simp [h]⟩
  clear W B h13 hA hL hT c172 c178 c179 h26' h30 h28 h32 hg σ
  rintro σ W ⟨B,h13,hA,hL,hT,c172,c178,c179,h30,h32,hg⟩
  simp only [List.drop_succ_cons,List.drop_zero]
  refine wwp_cutN 5 W (fun σ=>TB m L n p q E Mk σ∧σ.s 13 = .ptr [14,0] 0∧BxR aM 14 46 σ.m∧HdI (σ.s 17) RL 58 σ.m∧HdT (σ.s 25) Ls 83 σ.m∧σ.c 172 = 0∧σ.c 178 = 0∧σ.c 179 = 0∧σ.s 156 = bv false) ?_ ?_
  · simp [h13,h30,h32,c172,c178,c179,hg]
    exact ⟨⟨by simp [B.s1],by simp [B.s2],by simp [B.s3],by simp [B.s4],by simp [B.s5],by simp [B.m6],by simp [B.s11],by simp [B.m12],by simp [B.s12],by simp [B.m40],by simp [B.m42]⟩,hA.mono (fun o h=>by simp [h]) fun r o h=>by simp [h],hL.mono fun r o h=>by simp [h],hT.mono fun r o h=>by simp [h]⟩
  clear W B h13 hA hL hT c172 c178 c179 h30 h32 hg σ
  rintro σ W ⟨B,h13,hA,hL,hT,c172,c178,c179,h156⟩
  simp only [List.drop_succ_cons,List.drop_zero]
  refine wwp_cutN 2 W (fun σ=>TB m L n p q E Mk σ∧σ.s 13 = .ptr [14,0] 0∧BxR aM 14 46 σ.m∧HdI (σ.s 17) RL 58 σ.m∧HdT (σ.s 25) Ls 83 σ.m∧σ.c 172 = 0∧σ.c 178 = 0∧σ.c 179 = 0∧σ.s 156 = bv false∧σ.s 157 = .agg [iv m.t,iv m.r,iv m.s,iv m.c,iv m.w,.sl [40,0] 5 0 m.rows.length none]∧σ.s 158 = .agg [iv m.t,iv m.r,iv m.s,iv m.c,iv m.w,.list (rowsL m.rows)]) ?_ ?_
  · simp [B.s5,B.m6,B.s11,B.m12,h13,c172,c178,c179,h156]
    exact ⟨⟨by simp [B.s1],by simp [B.s2],by simp [B.s3],by simp [B.s4],by simp [B.s5],by simp [B.m6],by simp [B.s11],by simp [B.m12],by simp [B.s12],by simp [B.m40],by simp [B.m42]⟩,hA.mono (fun o h=>by simp [h]) fun r o h=>by simp [h],hL.mono fun r o h=>by simp [h],hT.mono fun r o h=>by simp [h]⟩
  clear W B h13 hA hL hT c172 c178 c179 h156 σ
  rintro σ W ⟨B,h13,hA,hL,hT,c172,c178,c179,h156,h157,h158⟩
  simp only [List.drop_succ_cons,List.drop_zero]
  have e36:=h36 σ.m B.m40
  refine wwp_cutN 1 W (fun σ=>TB m L n p q E Mk σ∧σ.s 13 = .ptr [14,0] 0∧BxR aM 14 46 σ.m∧HdI (σ.s 17) RL 58 σ.m∧HdT (σ.s 25) Ls 83 σ.m∧σ.c 172 = 0∧σ.c 178 = 0∧σ.c 179 = 0∧σ.s 156 = bv false∧σ.s 159 = bv true) ?_ ?_
  · simp [h13,c172,c178,c179,h156,h157,h158,e36]
    exact ⟨B.keep W 159 (by omega) _,hA.keep W 159 _,hL.keep W 159 _,hT.keep W 159 _⟩
  clear W B h13 hA hL hT c172 c178 c179 h156 h157 h158 e36 σ
  rintro σ W ⟨B,h13,hA,hL,hT,c172,c178,c179,h156,h159⟩
  simp only [List.drop_succ_cons,List.drop_zero]
  refine wwp_cutN 5 W (fun σ=>TB m L n p q E Mk σ∧σ.s 13 = .ptr [14,0] 0∧BxR aM 14 46 σ.m∧HdI (σ.s 17) RL 58 σ.m∧HdT (σ.s 25) Ls 83 σ.m∧σ.c 172 = 0∧σ.c 178 = 0∧σ.c 179 = 0∧σ.s 162 = bv false∧σ.s 163 = .sl [42,0] 1 0 L.length none∧σ.s 164 = .list (ints L)) ?_ ?_
  · simp [B.s1,B.s12,h13,c172,c178,c179,h156,h159]
    exact ⟨⟨by simp [B.s1],by simp [B.s2],by simp [B.s3],by simp [B.s4],by simp [B.s5],by simp [B.m6],by simp [B.s11],by simp [B.m12],by simp [B.s12],by simp [B.m40],by simp [B.m42]⟩,hA.mono (fun o h=>by simp [h]) fun r o h=>by simp [h],hL.mono fun r o h=>by simp [h],hT.mono fun r o h=>by simp [h]⟩
  clear W B h13 hA hL hT c172 c178 c179 h156 h159 σ
  rintro σ W ⟨B,h13,hA,hL,hT,c172,c178,c179,h162,h163,h164⟩
  simp only [List.drop_succ_cons,List.drop_zero]
  have e50:=h50 σ.m B.m42
  refine wwp_cutN 1 W (fun σ=>TB m L n p q E Mk σ∧σ.s 13 = .ptr [14,0] 0∧BxR aM 14 46 σ.m∧HdI (σ.s 17) RL 58 σ.m∧HdT (σ.s 25) Ls 83 σ.m∧σ.c 172 = 0∧σ.c 178 = 0∧σ.c 179 = 0∧σ.s 162 = bv false∧σ.s 165 = bv true) ?_ ?_
  · simp [h13,c172,c178,c179,h162,h163,h164,e50]
    exact ⟨B.keep W 165 (by omega) _,hA.keep W 165 _,hL.keep W 165 _,hT.keep W 165 _⟩
  clear W B h13 hA hL hT c172 c178 c179 h162 h163 h164 e50 σ
  rintro σ W ⟨B,h13,hA,hL,hT,c172,c178,c179,h162,h165⟩
  simp only [List.drop_succ_cons,List.drop_zero]
  refine wwp_cutW W (fun σ=>TB m L n p q E Mk σ∧σ.s 13 = .ptr [14,0] 0∧BxR aM 14 46 σ.m∧HdI (σ.s 17) RL 58 σ.m∧HdT (σ.s 25) Ls 83 σ.m∧σ.c 172 = 0∧σ.c 178 = 0∧σ.c 179 = 0∧σ.s 167 = bv false) ?_ ?_
  · simp [h13,c172,c178,c179,h162,h165]
    exact ⟨⟨by simp [B.s1],by simp [B.s2],by simp [B.s3],by simp [B.s4],by simp [B.s5],by simp [B.m6],by simp [B.s11],by simp [B.m12],by simp [B.s12],by simp [B.m40],by simp [B.m42]⟩,hA.mono (fun o h=>by simp [h]) fun r o h=>by simp [h],hL.mono fun r o h=>by simp [h],hT.mono fun r o h=>by simp [h]⟩
  clear W B h13 hA hL hT c172 c178 c179 h162 h165 σ
  rintro σ W ⟨B,h13,hA,hL,hT,c172,c178,c179,h167⟩
  refine wwp_cutG (fun σ'=>σ' = σ) (by simp [h167]) ?_
  rintro σ' rfl
  -- apart
  obtain ⟨hA',mA,hdA⟩:=hA
  simp only [Mv.cellsW] at mA
  have okA : hA'.okC = true∧hA'.cells = [hA']:=by rcases hdA with ⟨rfl,_⟩ | ⟨r,g,rfl,_⟩ <;> exact ⟨rfl,rfl⟩
  obtain ⟨okA1,okA2⟩:=okA
  refine wwp_cutN 2 W (fun σ=>σ.s 12 = .sl [42,0] 1 0 L.length none∧σ.m [40,0] = some (.row [40,0,0] 53 (rowsL (m.rows ++ E)))∧σ.m [42,0] = some (.row [42,0,0] 3 (ints (L ++ Mk)))∧HdR hA' aM.rows 46 σ.m∧HdI (σ.s 17) RL 58 σ.m∧HdT (σ.s 25) Ls 83 σ.m∧σ.c 178 = 0∧σ.c 179 = 0∧σ.s 172 = .sl [173,0] 1 0 2 none∧σ.m [173,0] = some (.row [173,0] 22 [[.sl [40,0] 5 0 m.rows.length none],[hA']])) ?_ ?_
  · simp [B.s11,B.m12,B.s12,B.m40,B.m42,h13,mA,okA1,okA2,c172,c178,c179]
    exact ⟨hdA.mono fun r o h=>by simp [h],hL.mono fun r o h=>by simp [h],hT.mono fun r o h=>by simp [h]⟩
  clear W B h13 mA hdA hL hT c172 c178 c179 h167 okA1 okA2 σ'
  rintro σ W ⟨s12,m40,m42,hdA,hL,hT,c178,c179,h172,m173⟩
  simp only [List.drop_succ_cons,List.drop_zero]
  obtain ⟨D',e51,hD'⟩:=apartR m40 hdA m173 hm60 hR60
  have k40 : ∀ {τ o},σ.m τ = some o→(∀ g,o.grp = some g→g ≠ [40,0,0]∧∀ r,g ≠ 46 :: r)→(σ.adoptM 173 (bv true) D').m τ = some (o.ren fun t=>t):=fun h hg=>adoptM_gen W h 173 (bv true) (hD' _ _ h hg)
  refine wwp_cutN 1 W (fun σ=>σ.s 12 = .sl [42,0] 1 0 L.length none∧σ.m [42,0] = some (.row [42,0,0] 3 (ints (L ++ Mk)))∧HdI (σ.s 17) RL 58 σ.m∧HdT (σ.s 25) Ls 83 σ.m∧σ.c 178 = 0∧σ.c 179 = 0∧σ.s 173 = bv true) ?_ ?_
  · simp [s12,c178,c179,h172,e51]
    refine ⟨?_,?_,?_⟩
    · rw [k40 m42 (fun g hg=>by cases hg; exact ⟨by simp,by simp⟩)]; simp
    · rcases hL with h | ⟨r,g,h1,h2⟩
      · exact .inl h
      · exact .inr ⟨r,g,h1,by rw [k40 h2 (fun g hg=>by cases hg; exact ⟨by simp,by simp⟩)]; simp⟩
    · rcases hT with h | ⟨h0,h1,h2,h3⟩
      · exact .inl h
      · exact .inr ⟨h0,h1,by rw [k40 h2 (fun g hg=>by cases hg; exact ⟨by simp,by simp⟩)]; simp only [HO.ren,hdsF_ren],fun i L hi hL=>by rw [k40 (h3 i L hi hL) (fun g hg=>by cases hg; exact ⟨by simp [grT],by simp [grT]⟩)]; simp⟩
  clear W m40 hdA m173 h172 e51 hD' k40 D' s12 m42 hL hT c178 c179 σ
  rintro σ W ⟨s12,m42,hL,hT,c178,c179,h173⟩
  simp only [List.drop_succ_cons,List.drop_zero]
  obtain ⟨hLd,hhL⟩ : ∃ hLd,hLd = σ.s 17:=⟨_,rfl⟩
  rw [← hhL] at hL
  have okL : hLd.okC = true∧hLd.cells = [hLd]:=by rcases hL with ⟨rfl,_⟩ | ⟨r,g,rfl,_⟩ <;> exact ⟨rfl,rfl⟩
  obtain ⟨okL1,okL2⟩:=okL
  have s17 : σ.s 17 = hLd:=hhL.symm
  clear hhL
  refine wwp_cutN 6 W (fun σ=>σ.s 174 = bv true∧σ.m [42,0] = some (.row [42,0,0] 3 (ints (L ++ Mk)))∧HdI hLd RL 58 σ.m∧σ.s 179 = .sl [180,0] 1 0 (Ls.length + 2) none∧LsF (tkT 83) (grT 83) σ.m 0 Ls∧∃ lg,(lg = [180,0] ∨ lg = [83,0,0])∧σ.m [180,0] = some (.row lg 34 (hdsF (tkT 83) 0 Ls ++ [[.sl [42,0] 1 0 L.length none],[hLd]]))) ?_ ?_
  · rcases hT with ⟨s25,rfl⟩ | ⟨h0,s25,m83,hls⟩
    · have h2m : 2≤maxMade:=maxMade_le (by omega)
      simp [s12,s17,s25,m42,h173,okL1,okL2,c178,c179,hdsF,h2m]
      exact ⟨hL.mono fun r o h=>by simp [h],fun i L hi=>by simp at hi⟩
    · have hfl:=hdsF_len (tkT 83) Ls 0
      have hmx : Ls.length + 2≤maxMade:=maxMade_le (by omega)
      obtain ⟨X,hX⟩ : ∃ X,X = hdsF (tkT 83) 0 Ls:=⟨_,rfl⟩
      rw [← hX] at m83 hfl ⊢
      have htx : X.take Ls.length = X:=List.take_of_length_le (by omega)
      simp [s12,s17,s25,m42,m83,h173,okL1,okL2,c178,c179,hfl,hmx,htx]
      refine ⟨?_,fun i L hi hne=>?_⟩
      · rcases hL with h | ⟨r,g,h1,h2⟩
        · exact .inl h
        · exact .inr ⟨r,g,h1,by simp [h2]⟩
      · have:=hls i L hi hne
        simp [tkT,grT] at this ⊢
        simp [this]
  clear W s12 m42 hL hT c178 c179 h173 s17 σ
  rintro σ W ⟨h174,m42,hL,h179,hls,lg,hlg,m180⟩
  simp only [List.drop_succ_cons,List.drop_zero]
  obtain ⟨D',e52⟩:=apartI m42 hL hls hne hlg m180 hl60 hRL60 hLs60 hLl60
  simp [h174,h179,e52]
end Go.Proofs.Ytpmgaaalfdjikaa
namespace Go.Proofs.Ytpmgaaalfdjikaa
open Go.RowKit
set_option linter.unusedSimpArgs false
set_option linter.unusedVariables false
theorem c21q (q17 : FQ) (m17 : FM) (p25 p45 p18 p47 p48 p38 p30 p27 p49 p32 : FP) (q43 q20 q44 q26 q46 q33 q42 : FQ) (m36 m50 : FM) (m : Mv) (L : List Int) (n p q : Int) (E : List Row) (Mk : List Int) (aM : Mv) (eT : Int) (post : St→Prop)
    (h32 : p32 [.agg [iv m.t,iv m.r,iv m.s,iv m.c,iv m.w,.list (rowsL m.rows)],.list (lists [L])] = some (bv true))
    (h33 : q33 [.agg [iv m.t,iv m.r,iv m.s,iv m.c,iv m.w,.list (rowsL m.rows)]] = some (.agg [iv m.t,iv m.r,iv m.s,iv m.c,iv m.w,.sl [] 5 0 m.rows.length none],rowMem 53 (rowsL (m.rows ++ E))))
    (h42 : q42 [.list (ints L)] = some (.sl [] 1 0 L.length none,rowMem 3 (ints (L ++ Mk))))
    (hA : D) (MA : Mem) (hA0 : PreR hA aM.rows MA) (h17 : q17 [.agg [iv m.t,iv m.r,iv m.s,iv m.c,iv m.w,.list (rowsL m.rows)],.list (ints L)] = some (.tup [.agg (aM.cellsW hA),iv eT],MA))
    (htail : ∀ σ,WF σ→T3 m L n p q E Mk aM eT σ→wwp (mkEnv [(32,p32),(25,p25),(45,p45),(18,p18),(47,p47),(48,p48),(38,p38),(30,p30),(27,p27),(49,p49)] [(17,q17),(43,q43),(20,q20),(44,q44),(26,q26),(46,q46),(33,q33),(42,q42)] [(17,m17),(36,m36),(50,m50),(51,S51),(52,S52)]) W21T (fun e s=>okExit e∧resV [.t 10] s = some (bv true)) σ) :
    wwp (mkEnv [(32,p32),(25,p25),(45,p45),(18,p18),(47,p47),(48,p48),(38,p38),(30,p30),(27,p27),(49,p49)] [(17,q17),(43,q43),(20,q20),(44,q44),(26,q26),(46,q46),(33,q33),(42,q42)] [(17,m17),(36,m36),(50,m50),(51,S51),(52,S52)]) W21.1 (fun e s=>okExit e∧resV W21.2 s = some (bv true)) (initV [.agg m.cells,.list (ints L),iv n,iv p,iv q]):=by
  have htk : (rowsL (m.rows ++ E)).take m.rows.length = rowsL m.rows:=by rw [rowsL_append]; exact List.take_left' (by simp)
  have hti : (ints (L ++ Mk)).take L.length = ints L:=by rw [ints_append]; exact List.take_left' (by simp)
  have hle : m.rows.length≤(rowsL (m.rows ++ E)).length:=by simp
  have hli : L.length≤(ints (L ++ Mk)).length:=by simp
  have h32' : p32 [.agg [iv m.t,iv m.r,iv m.s,iv m.c,iv m.w,.list (rowsL m.rows)],.list [[.list (ints L)]]] = some (bv true):=h32
  simp only [W21]
  refine wwp_cutW (wf_init _) (fun σ=>σ.s 1 = .list (ints L)∧σ.s 2 = iv n∧σ.s 3 = iv p∧σ.s 4 = iv q∧σ.s 5 = .ptr [6,0] 0∧σ.m [6,0] = some (.box [iv m.t,iv m.r,iv m.s,iv m.c,iv m.w,.list (rowsL m.rows)])∧σ.c 35 = 0∧σ.c 11 = 0∧σ.c 13 = 0∧σ.c 39 = 0∧σ.c 41 = 0∧σ.c 45 = 0∧σ.c 15 = 0∧σ.c 51 = 0∧σ.c 57 = 0∧σ.c 63 = 0∧σ.c 82 = 0∧σ.c 87 = 0∧σ.c 172 = 0∧σ.c 178 = 0∧σ.c 179 = 0) (by simp [Mv.cells,Mv.cellsW]) ?_
  rintro σ W ⟨h1,h2,h3,h4,h5,m6,c35,c11,c13,c39,c41,c45,c15,c51,c57,c63,c82,c87,c172,c178,c179⟩
  refine wwp_condW W (fun σ=>σ.s 1 = .list (ints L)∧σ.s 2 = iv n∧σ.s 3 = iv p∧σ.s 4 = iv q∧σ.s 5 = .ptr [6,0] 0∧σ.m [6,0] = some (.box [iv m.t,iv m.r,iv m.s,iv m.c,iv m.w,.list (rowsL m.rows)])∧σ.c 11 = 0∧σ.c 13 = 0∧σ.c 39 = 0∧σ.c 41 = 0∧σ.c 45 = 0∧σ.c 15 = 0∧σ.c 51 = 0∧σ.c 57 = 0∧σ.c 63 = 0∧σ.c 82 = 0∧σ.c 87 = 0∧σ.c 172 = 0∧σ.c 178 = 0∧σ.c 179 = 0) (by simp [h1,h2,h3,h4,h5,m6,c35,c11,c13,c39,c41,c45,c15,c51,c57,c63,c82,c87,c172,c178,c179,h32']) ?_
  clear W h1 h2 h3 h4 h5 m6 c35 c11 c13 c39 c41 c45 c15 c51 c57 c63 c82 c87 c172 c178 c179 σ
  rintro σ W ⟨h1,h2,h3,h4,h5,m6,c11,c13,c39,c41,c45,c15,c51,c57,c63,c82,c87,c172,c178,c179⟩
  refine wwp_cutW W (fun σ=>TB m L n p q E Mk σ∧σ.c 13 = 0∧σ.c 45 = 0∧σ.c 15 = 0∧σ.c 51 = 0∧σ.c 57 = 0∧σ.c 63 = 0∧σ.c 82 = 0∧σ.c 87 = 0∧σ.c 172 = 0∧σ.c 178 = 0∧σ.c 179 = 0) ?_ ?_
  · simp [h1,h2,h3,h4,h5,m6,c11,c13,c39,c41,c45,c15,c51,c57,c63,c82,c87,c172,c178,c179,h33,h42,putAt]
    exact ⟨by simp [h1],by simp [h2],by simp [h3],by simp [h4],by simp [h5],by simp [m6],by simp [c11],by simp [c11],by simp [c41],by simp [c39],by simp [c41]⟩
  clear W h1 h2 h3 h4 h5 m6 c11 c13 c39 c41 c45 c15 c51 c57 c63 c82 c87 c172 c178 c179 σ
  rintro σ W ⟨B,c13,c45,c15,c51,c57,c63,c82,c87,c172,c178,c179⟩
  refine wwp_cutW W (T3 m L n p q E Mk aM eT) ?_ htail
  rcases hA0 with ⟨rfl,rfl,hR⟩ | ⟨rfl,rfl⟩
  · simp [B.s5,B.m6,B.s11,B.m12,B.s12,B.m40,B.m42,htk,hti,hle,hli,h17,putAt,Mv.cellsW,c13,c45,c15,c51,c57,c63,c82,c87,c172,c178,c179]
    exact ⟨⟨by simp [B.s1],by simp [B.s2],by simp [B.s3],by simp [B.s4],by simp [B.s5],by simp [B.m6],by simp [B.s11],by simp [B.m12],by simp [B.s12],by simp [B.m40],by simp [B.m42]⟩,by simp [c13],⟨.nil,by simp [c13,Mv.cellsW],.inl ⟨rfl,hR⟩⟩,by simp,by simp [c13,c45,c15,c51,c57,c63,c82,c87,c172,c178,c179]⟩
  · simp [B.s5,B.m6,B.s11,B.m12,B.s12,B.m40,B.m42,htk,hti,hle,hli,h17,putAt,Mv.cellsW,c13,c45,c15,c51,c57,c63,c82,c87,c172,c178,c179]
    exact ⟨⟨by simp [B.s1],by simp [B.s2],by simp [B.s3],by simp [B.s4],by simp [B.s5],by simp [B.m6],by simp [B.s11],by simp [B.m12],by simp [B.s12],by simp [B.m40],by simp [B.m42]⟩,by simp [c13],⟨.sl [46,0] 5 0 aM.rows.length none,by simp [c13,Mv.cellsW],.inr ⟨[],[0],rfl,by simp [c45]⟩⟩,by simp,by simp [c13,c45,c15,c51,c57,c63,c82,c87,c172,c178,c179]⟩
theorem c21m (q17 : FQ) (m17 : FM) (p25 p45 p18 p47 p48 p38 p30 p27 p49 p32 : FP) (q43 q20 q44 q26 q46 q33 q42 : FQ) (m36 m50 : FM) (m : Mv) (L : List Int) (n p q : Int) (E : List Row) (Mk : List Int) (aM : Mv) (eT : Int) (post : St→Prop)
    (h32 : p32 [.agg [iv m.t,iv m.r,iv m.s,iv m.c,iv m.w,.list (rowsL m.rows)],.list (lists [L])] = some (bv true))
    (h33 : q33 [.agg [iv m.t,iv m.r,iv m.s,iv m.c,iv m.w,.list (rowsL m.rows)]] = some (.agg [iv m.t,iv m.r,iv m.s,iv m.c,iv m.w,.sl [] 5 0 m.rows.length none],rowMem 53 (rowsL (m.rows ++ E))))
    (h42 : q42 [.list (ints L)] = some (.sl [] 1 0 L.length none,rowMem 3 (ints (L ++ Mk))))
    (hA0 : aM.rows = []) (h17 : ∀ M : Mem,M [40,0] = some (.row [40,0,0] 53 (rowsL (m.rows ++ E)))→M [42,0] = some (.row [42,0,0] 3 (ints (L ++ Mk)))→m17 M [.agg [iv m.t,iv m.r,iv m.s,iv m.c,iv m.w,.sl [40,0] 5 0 m.rows.length none],.sl [42,0] 1 0 L.length none] = some (.tup [.agg (aM.cellsW (.sl [1] 5 0 0 none)),iv eT],oneM M (rowMem 53 [])))
    (htail : ∀ σ,WF σ→T3 m L n p q E Mk aM eT σ→wwp (mkEnv [(32,p32),(25,p25),(45,p45),(18,p18),(47,p47),(48,p48),(38,p38),(30,p30),(27,p27),(49,p49)] [(17,q17),(43,q43),(20,q20),(44,q44),(26,q26),(46,q46),(33,q33),(42,q42)] [(17,m17),(36,m36),(50,m50),(51,S51),(52,S52)]) W21T (fun e s=>okExit e∧resV [.t 10] s = some (bv true)) σ) :
    wwp (mkEnv [(32,p32),(25,p25),(45,p45),(18,p18),(47,p47),(48,p48),(38,p38),(30,p30),(27,p27),(49,p49)] [(17,q17),(43,q43),(20,q20),(44,q44),(26,q26),(46,q46),(33,q33),(42,q42)] [(17,m17),(36,m36),(50,m50),(51,S51),(52,S52)]) WH21.1 (fun e s=>okExit e∧resV WH21.2 s = some (bv true)) (initV [.agg m.cells,.list (ints L),iv n,iv p,iv q]):=by
  have htk : (rowsL (m.rows ++ E)).take m.rows.length = rowsL m.rows:=by rw [rowsL_append]; exact List.take_left' (by simp)
  have hti : (ints (L ++ Mk)).take L.length = ints L:=by rw [ints_append]; exact List.take_left' (by simp)
  have hle : m.rows.length≤(rowsL (m.rows ++ E)).length:=by simp
  have hli : L.length≤(ints (L ++ Mk)).length:=by simp
  have h32' : p32 [.agg [iv m.t,iv m.r,iv m.s,iv m.c,iv m.w,.list (rowsL m.rows)],.list [[.list (ints L)]]] = some (bv true):=h32
  simp only [WH21]
  refine wwp_cutW (wf_init _) (fun σ=>σ.s 1 = .list (ints L)∧σ.s 2 = iv n∧σ.s 3 = iv p∧σ.s 4 = iv q∧σ.s 5 = .ptr [6,0] 0∧σ.m [6,0] = some (.box [iv m.t,iv m.r,iv m.s,iv m.c,iv m.w,.list (rowsL m.rows)])∧σ.c 35 = 0∧σ.c 11 = 0∧σ.c 13 = 0∧σ.c 39 = 0∧σ.c 41 = 0∧σ.c 45 = 0∧σ.c 15 = 0∧σ.c 51 = 0∧σ.c 57 = 0∧σ.c 63 = 0∧σ.c 82 = 0∧σ.c 87 = 0∧σ.c 172 = 0∧σ.c 178 = 0∧σ.c 179 = 0) (by simp [Mv.cells,Mv.cellsW]) ?_
  rintro σ W ⟨h1,h2,h3,h4,h5,m6,c35,c11,c13,c39,c41,c45,c15,c51,c57,c63,c82,c87,c172,c178,c179⟩
  refine wwp_condW W (fun σ=>σ.s 1 = .list (ints L)∧σ.s 2 = iv n∧σ.s 3 = iv p∧σ.s 4 = iv q∧σ.s 5 = .ptr [6,0] 0∧σ.m [6,0] = some (.box [iv m.t,iv m.r,iv m.s,iv m.c,iv m.w,.list (rowsL m.rows)])∧σ.c 11 = 0∧σ.c 13 = 0∧σ.c 39 = 0∧σ.c 41 = 0∧σ.c 45 = 0∧σ.c 15 = 0∧σ.c 51 = 0∧σ.c 57 = 0∧σ.c 63 = 0∧σ.c 82 = 0∧σ.c 87 = 0∧σ.c 172 = 0∧σ.c 178 = 0∧σ.c 179 = 0) (by simp [h1,h2,h3,h4,h5,m6,c35,c11,c13,c39,c41,c45,c15,c51,c57,c63,c82,c87,c172,c178,c179,h32']) ?_
  clear W h1 h2 h3 h4 h5 m6 c35 c11 c13 c39 c41 c45 c15 c51 c57 c63 c82 c87 c172 c178 c179 σ
  rintro σ W ⟨h1,h2,h3,h4,h5,m6,c11,c13,c39,c41,c45,c15,c51,c57,c63,c82,c87,c172,c178,c179⟩
  refine wwp_cutW W (fun σ=>TB m L n p q E Mk σ∧σ.c 13 = 0∧σ.c 45 = 0∧σ.c 15 = 0∧σ.c 51 = 0∧σ.c 57 = 0∧σ.c 63 = 0∧σ.c 82 = 0∧σ.c 87 = 0∧σ.c 172 = 0∧σ.c 178 = 0∧σ.c 179 = 0) ?_ ?_
  · simp [h1,h2,h3,h4,h5,m6,c11,c13,c39,c41,c45,c15,c51,c57,c63,c82,c87,c172,c178,c179,h33,h42,putAt]
    exact ⟨by simp [h1],by simp [h2],by simp [h3],by simp [h4],by simp [h5],by simp [m6],by simp [c11],by simp [c11],by simp [c41],by simp [c39],by simp [c41]⟩
  clear W h1 h2 h3 h4 h5 m6 c11 c13 c39 c41 c45 c15 c51 c57 c63 c82 c87 c172 c178 c179 σ
  rintro σ W ⟨B,c13,c45,c15,c51,c57,c63,c82,c87,c172,c178,c179⟩
  refine wwp_cutN 1 W (fun σ=>TB m L n p q E Mk σ∧σ.c 13 = 0∧σ.c 45 = 0∧σ.c 15 = 0∧σ.c 51 = 0∧σ.c 57 = 0∧σ.c 63 = 0∧σ.c 82 = 0∧σ.c 87 = 0∧σ.c 172 = 0∧σ.c 178 = 0∧σ.c 179 = 0∧σ.s 43 = .agg [iv m.t,iv m.r,iv m.s,iv m.c,iv m.w,.sl [40,0] 5 0 m.rows.length none]∧σ.s 44 = .sl [42,0] 1 0 L.length none) ?_ ?_
  · simp [B.s11,B.m12,B.s12,c13,c45,c15,c51,c57,c63,c82,c87,c172,c178,c179]
    exact ⟨by simp [B.s1],by simp [B.s2],by simp [B.s3],by simp [B.s4],by simp [B.s5],by simp [B.m6],by simp [B.s11],by simp [B.m12],by simp [B.s12],by simp [B.m40],by simp [B.m42]⟩
  clear W B c13 c45 c15 c51 c57 c63 c82 c87 c172 c178 c179 σ
  rintro σ W ⟨B,c13,c45,c15,c51,c57,c63,c82,c87,c172,c178,c179,h43',h44'⟩
  simp only [List.drop_succ_cons,List.drop_zero]
  have e17:=h17 σ.m B.m40 B.m42
  have hk : ∀ {τ o},σ.m τ = some o→(σ.adoptM 45 (.tup [.agg (aM.cellsW (.sl [1] 5 0 0 none)),iv eT]) (oneM σ.m (rowMem 53 []))).m τ = some (o.ren fun t=>t):=fun {τ o} h=>adoptM_gen W h 45 _ (by simp only [oneM,h]; rfl)
  have k6:=adoptM_new (σ:=σ) (x:=45) (d:=.tup [.agg (aM.cellsW (.sl [1] 5 0 0 none)),iv eT]) (m':=oneM σ.m (rowMem 53 [])) (b:=0) (r:=[])
  rw [c45] at k6
  refine wwp_cutN 1 W (fun σ=>TB m L n p q E Mk σ∧σ.c 13 = 0∧σ.c 15 = 0∧σ.c 51 = 0∧σ.c 57 = 0∧σ.c 63 = 0∧σ.c 82 = 0∧σ.c 87 = 0∧σ.c 172 = 0∧σ.c 178 = 0∧σ.c 179 = 0∧σ.s 45 = .tup [.agg [iv aM.t,iv aM.r,iv aM.s,iv aM.c,iv aM.w,.sl [46,0,1] 5 0 0 none],iv eT]∧σ.m [46,0,1] = some (.row [46,0,1,0] 53 [])) ?_ ?_
  · simp [h43',h44',e17,c13,c45,c15,c51,c57,c63,c82,c87,c172,c178,c179]
    have e : ∀ j,j < 20→(σ.adoptM 45 (.tup [.agg (aM.cellsW (.sl [1] 5 0 0 none)),iv eT]) (oneM σ.m (rowMem 53 []))).s j = σ.s j:=fun j hj=>by rw [adoptM_s,if_neg (by omega)]
    exact ⟨⟨by rw [e 1 (by omega),B.s1],by rw [e 2 (by omega),B.s2],by rw [e 3 (by omega),B.s3],by rw [e 4 (by omega),B.s4],by rw [e 5 (by omega),B.s5],by rw [hk B.m6]; rfl,by rw [e 11 (by omega),B.s11],by rw [hk B.m12]; rfl,by rw [e 12 (by omega),B.s12],by rw [hk B.m40]; simp,by rw [hk B.m42]; simp⟩,by simp [Mv.cellsW,dnTok],by rw [show ([46,0,1] : Tok) = (45 + 1) :: 0 :: (0 + 1) :: [] from rfl,k6]; rfl⟩
  clear W B c13 c45 c15 c51 c57 c63 c82 c87 c172 c178 c179 h43' h44' e17 hk k6 σ
  rintro σ W ⟨B,c13,c15,c51,c57,c63,c82,c87,c172,c178,c179,h45,m46⟩
  simp only [List.drop_succ_cons,List.drop_zero]
  refine wwp_cutW W (T3 m L n p q E Mk aM eT) ?_ htail
  simp [B.s5,B.m6,B.s11,B.m12,B.s12,B.m40,B.m42,h45,m46,putAt,c13,c15,c51,c57,c63,c82,c87,c172,c178,c179]
  exact ⟨⟨by simp [B.s1],by simp [B.s2],by simp [B.s3],by simp [B.s4],by simp [B.s5],by simp [B.m6],by simp [B.s11],by simp [B.m12],by simp [B.s12],by simp [B.m40],by simp [B.m42]⟩,by simp [c13],⟨.sl [46,0,1] 5 0 aM.rows.length none,by simp [c13,Mv.cellsW,hA0],.inr ⟨[1],[1,0],rfl,by simp [m46,hA0]⟩⟩,by simp,by simp [c13,c15,c51,c57,c63,c82,c87,c172,c178,c179]⟩
open Classical in
noncomputable def S17H (m : Mv) (L : List Int) : FM:=fun M ds=>
  if ds = [.agg [iv m.t,iv m.r,iv m.s,iv m.c,iv m.w,.sl [40,0] 5 0 m.rows.length none],.sl [42,0] 1 0 L.length none]∧∃ g es,M [42,0] = some (.row g 3 (ints (L ++ es))) then some (.tup [.agg ((exch m L).cellsW (.sl [1] 5 0 0 none)),iv 0],oneM M (rowMem 53 [])) else none
theorem s17H {m : Mv} {L : List Int} (hr : m.rows = []) (hf : fitB m = true) (hk : listOK m.r (-1) L = true) (hL : L.length≤1000000) : OkM 17 (S17H m L):=fun M ds d m' h=>by
  unfold S17H at h
  split at h
  · rename_i hc
    cases h
    obtain ⟨rfl,g,es,hM⟩:=hc
    exact VCm.ofq (c17H m L hr hf hk hL) fun w pr tk vs hpr hM' hrp=>by
      match vs,hrp with
      | [v1,v2],hrp=>
        refine ⟨rep_agg_mt (m:=m) (d:=.sl [40,0] 5 0 m.rows.length none) hrp.1 fun v h=>?_,viewA_sound (d:=.sl [42,0] 1 0 L.length none) hM' hpr ?_ hrp.2.1,trivial⟩
        · rw [hr] at h; exact rep_sl0 h
        · have hti : (ints (L ++ es)).take L.length = ints L:=by rw [ints_append]; exact List.take_left' (by simp)
          simp [hM,hti]
  · cases h
def mvZ : Mv:=⟨0,0,0,0,0,[]⟩
def turnM (m : Mv) (L : List Int) : Mv:=if turnE m L = 0 then exch m L else mvZ
theorem turnRef_pre (m : Mv) (L : List Int) : ∃ hB MB,turnRef m L = (.tup [.agg ((turnM m L).cellsW hB),iv (turnE m L)],MB)∧PreR hB (turnM m L).rows MB:=by
  unfold turnRef turnM turnE
  by_cases hf : fitB m = true
  · by_cases hk : listOK m.r (-1) L = true
    · simp only [hf,hk,if_true]
      by_cases hr : m.rows.isEmpty = true
      · rw [if_pos hr]
        have : (exch m L).rows = []:=by simp [exch,List.isEmpty_iff.1 hr]
        exact ⟨_,_,rfl,.inl ⟨rfl,rfl,this⟩⟩
      · rw [if_neg hr]
        have : (exch m L).rows.length = m.rows.length:=by simp [exch]
        exact ⟨_,_,rfl,.inr ⟨by rw [this],rfl⟩⟩
    · simp only [hf,hk,if_true]
      exact ⟨.nil,noMem,rfl,.inl ⟨rfl,rfl,rfl⟩⟩
  · simp only [hf]
    exact ⟨.nil,noMem,rfl,.inl ⟨rfl,rfl,rfl⟩⟩
theorem turnR_pre (m : Mv) (L : List Int) (h : ¬ (turnE m L = 0∧m.rows = [])) : ∃ hB MB,turnR m L = (.tup [.agg ((turnM m L).cellsW hB),iv (turnE m L)],MB)∧PreR hB (turnM m L).rows MB:=by
  unfold turnR turnM
  by_cases he : turnE m L = 0
  · have hr : ¬ m.rows.isEmpty = true:=fun h'=>h ⟨he,List.isEmpty_iff.1 h'⟩
    rw [if_pos he,if_neg hr,if_pos he,he]
    have : (exch m L).rows.length = m.rows.length:=by simp [exch]
    exact ⟨_,_,rfl,.inr ⟨by rw [this],rfl⟩⟩
  · rw [if_neg he,if_neg he]
    exact ⟨.nil,noMem,rfl,.inl ⟨rfl,rfl,rfl⟩⟩
theorem lastR_pre (m : Mv) (n : Int) : ∃ hL ML RL,lastR m n = (.tup [hL,iv (lastE m n)],ML)∧PreI hL RL ML∧RL.length≤60:=by
  unfold lastR
  by_cases he : lastE m n = 0
  · rw [if_pos he]
    by_cases h0 : n = 0
    · rw [if_pos h0,he]; exact ⟨_,_,[],rfl,.inl ⟨rfl,rfl,rfl⟩,by simp⟩
    · rw [if_neg h0,he]
      have hb : (lastL m.r n.toNat).length = n.toNat:=lastL_len _ _
      refine ⟨_,_,lastL m.r n.toNat,rfl,.inr ⟨by rw [hb],rfl⟩,?_⟩
      rw [hb]
      unfold lastE at he
      split at he
      · rename_i hf
        obtain ⟨b1,b2,b3,b4,b5⟩:=((fitB_iff m).1 hf).1
        split at he
        · cases he
        · omega
      · cases he
  · rw [if_neg he]; exact ⟨_,_,[],rfl,.inl ⟨rfl,rfl,rfl⟩,by simp⟩
theorem tableR_pre (m : Mv) : ∃ hT MT Ls eB,tableR m = (.tup [hT,iv eB],MT)∧PreT hT Ls MT∧Ls.length≤60∧(∀ l ∈ Ls,l.length≤60)∧∀ l ∈ Ls,l ≠ []:=by
  unfold tableR
  by_cases hf : fitB m = true
  · rw [if_pos hf]
    have hg:=great_bounds (fit_pairs hf)
    by_cases h0 : (great m.rows).toNat = 0
    · rw [if_pos h0]; exact ⟨_,_,[],0,rfl,.inl ⟨rfl,rfl,rfl⟩,by simp,by simp,by simp⟩
    · rw [if_neg h0]
      have hl:=tabL_len m (great m.rows).toNat
      refine ⟨_,_,tabL m (great m.rows).toNat,0,rfl,.inr ⟨by omega,by rw [hl],rfl⟩,by omega,fun l hm=>?_,fun l hm=>?_⟩
      · obtain ⟨p,_,rfl⟩:=List.mem_map.1 hm
        simp; omega
      · obtain ⟨p,_,rfl⟩:=List.mem_map.1 hm
        simp; omega
  · rw [if_neg hf]; exact ⟨_,_,[],290,rfl,.inl ⟨rfl,rfl,rfl⟩,by simp,by simp,by simp⟩
theorem noQ {f : Nat} : OkQ f (fun _=>none):=fun ds d m h=>by cases h
theorem noM {f : Nat} : OkM f (fun _ _=>none):=fun m ds d m' h=>by cases h
theorem c21 (m : Mv) (L : List Int) (n p q : Int) : VCp Try.prog 21 [.agg m.cells,.list (ints L),iv n,iv p,iv q] (bv true):=by
  have h32:=S32_at m [L]
  cases hfew : fewB m [L] with
  | false=>
    rw [hfew] at h32
    refine wcontract_p (Γ:=mkEnv [(32,S32)] [] []) (sound_mk (by simp [s32]) (by simp) (by simp)) mixed is21 (by rw [nt21]; simp) ?_ rfl
    have h32' : S32 [.agg [iv m.t,iv m.r,iv m.s,iv m.c,iv m.w,.list (rowsL m.rows)],.list [[.list (ints L)]]] = some (bv false):=h32
    simp [W21,Mv.cells,Mv.cellsW,h32']
  | true=>
    rw [hfew] at h32
    obtain ⟨f1,_,f3⟩:=few_iff.1 hfew
    have hL50:=f3 L (by simp)
    obtain ⟨hB,MB,eRef,hB0⟩:=turnRef_pre m L
    obtain ⟨hL,ML,RL,eLast,hL0,hRL⟩:=lastR_pre m n
    obtain ⟨hT,MT,Ls,eB,eTab,hT0,hLs,hLl,hne⟩:=tableR_pre m
    have hR60 : (turnM m L).rows.length≤60:=by
      unfold turnM
      split
      · simp [exch]; exact f1
      · simp [mvZ]
    have t43:=S43_at m L (by omega) (by omega)
    rw [eRef] at t43
    have t20:=S20_at m n
    rw [eLast] at t20
    have t44:=S44_at m n (by omega)
    rw [eLast] at t44
    have t26:=S26_at m
    rw [eTab] at t26
    have t46:=S46_at m f1
    rw [eTab] at t46
    have tail : ∀ (q17 : FQ) (m17 : FM) (σ : St),WF σ→T3 m L n p q (marksR 12) (marksI 12) (turnM m L) (turnE m L) σ→wwp (mkEnv [(32,S32),(25,S25),(45,S45),(18,S18),(47,S47),(48,S48),(38,S38),(30,S30),(27,S27),(49,S49)] [(17,q17),(43,S43),(20,S20),(44,S44),(26,S26),(46,S46),(33,S33),(42,S42)] [(17,m17),(36,S36),(50,S50),(51,S51),(52,S52)]) W21T (fun e s=>okExit e∧resV [.t 10] s = some (bv true)) σ:=fun q17 m17 σ W hσ=>
      c21t q17 m17 S25 S45 S18 S47 S48 S38 S30 S27 S49 S32 S43 S20 S44 S26 S46 S33 S42 S36 S50 m L n p q (marksR 12) (marksI 12) (turnM m L) (turnE m L) (lastE m n) (contestR m p q).1 (contestR m p q).2 eB (unbR m).1 (unbR m).2 RL Ls (fitB m)
        hB MB hB0 t43 hL ML hL0 t20 t44 (S25_at m p q) (S45_at m p q f1) hT MT hT0 t26 t46 (S18_at m) (S47_at m f1)
        (S48_self (turnM m L) (by omega)) (by rw [S38_at _ _ (by omega) (by omega)]; simp) (by rw [S30_at _ _ (by omega) (by omega) (fun l h=>by have:=hLl l h; omega) (fun l h=>by have:=hLl l h; omega)]; simp) (S27_at m) (S49_at m (by omega))
        (fun M h=>S36_at (a:=m) h (by omega)) (fun M h=>S50_at h (by omega)) f1 hR60 (by omega) hRL hLs hLl hne σ W hσ
    by_cases hsp : turnE m L = 0∧m.rows = []
    · have hf : fitB m = true:=by
        cases h : fitB m
        · have:=hsp.1; unfold turnE at this; rw [h] at this; cases this
        · rfl
      have hk : listOK m.r (-1) L = true:=by
        cases h : listOK m.r (-1) L
        · have:=hsp.1; unfold turnE at this; rw [hf,h] at this; cases this
        · rfl
      have eM : turnM m L = exch m L:=by unfold turnM; rw [if_pos hsp.1]
      refine wcontract_p (Γ:=mkEnv [(32,S32),(25,S25),(45,S45),(18,S18),(47,S47),(48,S48),(38,S38),(30,S30),(27,S27),(49,S49)] [(17,fun _=>none),(43,S43),(20,S20),(44,S44),(26,S26),(46,S46),(33,S33),(42,S42)] [(17,S17H m L),(36,S36),(50,S50),(51,S51),(52,S52)]) (sound_mk (by simp [s32,s25,s45,s18,s47,s48,s38,s30,s27,s49]) (by simp [s43,s20,s44,s26,s46,s33,s42,noQ]) (by simp [s36,s50,s51,s52,s17H hsp.2 hf hk (show L.length≤1000000 by omega)])) mixed isH21 (by rw [nt21]; simp) ?_ rfl
      refine c21m (fun _=>none) (S17H m L) S25 S45 S18 S47 S48 S38 S30 S27 S49 S32 S43 S20 S44 S26 S46 S33 S42 S36 S50 m L n p q (marksR 12) (marksI 12) (turnM m L) (turnE m L) (fun _=>True) h32 (S33_at m (by omega)) (S42_at L (by omega)) (by rw [eM]; simp [exch,hsp.2]) (fun M h1 h2=>?_) (tail _ _)
      rw [eM,hsp.1]
      unfold S17H
      exact if_pos ⟨rfl,_,_,h2⟩
    · obtain ⟨hA,MA,eT,hA0⟩:=turnR_pre m L hsp
      have t17:=S17_at m L (by omega)
      rw [eT] at t17
      refine wcontract_p (Γ:=mkEnv [(32,S32),(25,S25),(45,S45),(18,S18),(47,S47),(48,S48),(38,S38),(30,S30),(27,S27),(49,S49)] [(17,S17),(43,S43),(20,S20),(44,S44),(26,S26),(46,S46),(33,S33),(42,S42)] [(17,fun _ _=>none),(36,S36),(50,S50),(51,S51),(52,S52)]) (sound_mk (by simp [s32,s25,s45,s18,s47,s48,s38,s30,s27,s49]) (by simp [s17,s43,s20,s44,s26,s46,s33,s42]) (by simp [s36,s50,s51,s52,noM])) mixed is21 (by rw [nt21]; simp) ?_ rfl
      exact c21q S17 (fun _ _=>none) S25 S45 S18 S47 S48 S38 S30 S27 S49 S32 S43 S20 S44 S26 S46 S33 S42 S36 S50 m L n p q (marksR 12) (marksI 12) (turnM m L) (turnE m L) (fun _=>True) h32 (S33_at m (by omega)) (S42_at L (by omega)) hA MA hA0 t17 (tail _ _)
end Go.Proofs.Ytpmgaaalfdjikaa
namespace Go.Proofs.Ytpmgaaalfdjikaa
open Go.RowKit Go.ChangeShapes Go.WideShapes Go.ChangeAt
set_option linter.unusedSimpArgs false
set_option linter.unusedVariables false
set_option linter.constructorNameAsVariable false
def S21 : List D→Option D
  | [.agg xs,.list es,.v (.int .i64 n),.v (.int .i64 p),.v (.int .i64 q)]=>(asMv xs).bind fun m=>(asInts es).map fun L=>bv true
  | _=>none
theorem s21 : OkP 21 S21:=fun ds d h=>by
  unfold S21 at h
  split at h
  · rw [Option.bind_eq_some_iff] at h
    obtain ⟨m,hm,h⟩:=h
    obtain ⟨L,hL,rfl⟩:=Option.map_eq_some_iff.1 h
    rw [asMv_eq hm,asInts_eq hL]
    exact c21 m L _ _ _
  · cases h
theorem S21_at (m : Mv) (L : List Int) (n p q : Int) : S21 [.agg m.cells,.list (ints L),iv n,iv p,iv q] = some (bv true):=by
  simp only [S21,asMv_of,Option.bind_some,asInts_ints,Option.map_some]
end Go.Proofs.Ytpmgaaalfdjikaa
namespace Go.Proofs.Ytpmgaaalfdjikaa
open Go.RowKit
set_option linter.unusedSimpArgs false
set_option linter.unusedVariables false
def W7a : WC:=(.seq (.reg [.set [(1,.c (.v (.int .i64 2)))] [1]]) (.block 0 (.loop (.seq (.seq (.reg [.set [(18,.ap (.ibin .leq) [.t 1,.c (.v (.int .i64 5))])] [17,18]]) (.cond (.t 18) .skip (.exit 0))) (.seq (.block 1 (.seq (.reg [.set [(21,.t 1),(22,.t 1)] [21,22],.stm (.eff (.callq 23 22 [.t 21,.t 22]) none),.stm (.eff (.box 2 (.c (.agg [.v (.int .i64 0),.v (.int .i64 0),.v (.int .i64 0),.v (.int .i64 0),.v (.int .i64 0),.nil]))) none),.stm (.eff (.store 6 (.t 2) (.t 23)) none)]) (.seq (.reg [.set [(3,.c (.v (.int .i64 0)))] [3]]) (.block 2 (.loop (.seq (.seq (.reg [.set [(27,.ap (.ibin .lss) [.t 3,.ap (.ishift .shl) [.c (.v (.int .i64 1)),.t 1]])] [24,25,26,27]]) (.cond (.t 27) .skip (.exit 2))) (.seq (.block 3 (.seq (.reg [.set [(4,.c .nil)] [4]]) (.seq (.seq (.reg [.set [(30,.t 1),(31,.c (.v (.int .i64 0)))] [30,31]]) (.block 4 (.loop (.seq (.reg [.set [(32,.ap (.ibin .lss) [.t 31,.t 30])] [32]]) (.seq (.cond (.t 32) .skip (.exit 4)) (.seq (.block 5 (.seq (.reg [.set [(5,.t 31)] [33,5]]) (.seq (.reg [.set [(38,.ap (.ibin .eql) [.ap (.ibin .and) [.ap (.ishift .shr) [.t 3,.t 5],.c (.v (.int .i64 1))],.c (.v (.int .i64 1))])] [34,35,36,37,38]]) (.cond (.t 38) (.reg [.set [(39,.t 4),(40,.t 5)] [39,40],.stm (.eff (.lit 41 3 1 1 [.v (.int .i64 0)] [(0,1)] [.t 40]) none),.stm (.eff (.app 42 3 1 (.t 39) (.t 41)) none),.set [(4,.t 42)] [4]]) .skip)))) (.reg [.set [(31,.ap (.ibin .add) [.t 31,.c (.v (.int .i64 1))])] [43,31]]))))))) (.seq (.reg [.stm (.op 44 (.load 6 true) [.t 2] none),.stm (.op 45 .mv [.t 4] none),.stm (.op 46 .mv [.t 3] none),.stm (.op 47 (.ibin .sub) [.t 46,.c (.v (.int .i64 1))] none),.stm (.op 48 .mv [.t 3] none),.stm (.op 49 .mv [.t 1] none),.stm (.op 50 (.ibin .rem) [.t 48,.t 49] none),.stm (.op 51 .mv [.t 3] none),.stm (.op 52 .mv [.t 1] none),.stm (.op 53 (.ibin .mul) [.c (.v (.int .i64 2)),.t 52] none),.stm (.op 54 (.ibin .add) [.t 53,.c (.v (.int .i64 1))] none),.stm (.op 55 (.ibin .rem) [.t 51,.t 54] none),.stm (.op 56 (.ibin .add) [.c (.v (.int .i64 1)),.t 55] none),.stm (.op 57 (.call 21) [.t 44,.t 45,.t 47,.t 50,.t 56] none),.stm (.op 58 .inot [.t 57] none),.stm (.op 59 .mv [.t 58] none),.stm (.op 60 .mv [.t 3] (some (59,false))),.stm (.op 61 (.ibin .rem) [.t 60,.c (.v (.int .i64 4))] (some (59,false))),.stm (.op 62 (.ibin .eql) [.t 61,.c (.v (.int .i64 1))] (some (59,false))),.stm (.op 63 .mv [.t 62] (some (59,false))),.stm (.op 64 (.load 6 true) [.t 2] (some (63,true))),.stm (.op 65 .mv [.t 4] (some (63,true))),.stm (.op 66 .mv [.t 4] (some (63,true))),.stm (.op 67 (.slc 1 false true false) [.t 66,.c (.v (.int .i64 1))] (some (63,true))),.stm (.op 68 .mv [.t 1] (some (63,true))),.stm (.op 69 (.ibin .sub) [.t 68,.c (.v (.int .i64 1))] (some (63,true))),.stm (.eff (.lit 70 3 1 2 [.v (.int .i64 0),.v (.int .i64 0)] [(0,1),(1,1)] [.c (.v (.int .i64 0)),.t 69]) (some (63,true))),.stm (.eff (.lit 71 34 1 4 [.nil,.nil,.nil,.nil] [(0,1),(1,1),(2,1),(3,1)] [.t 65,.c .nil,.t 67,.t 70]) (some (63,true))),.stm (.op 72 (.call 11) [.t 64,.t 71] (some (63,true))),.stm (.op 73 .inot [.t 72] (some (63,true))),.stm (.op 74 .pick [.t 63,.t 73,.c (.v (.bool false))] (some (59,false))),.stm (.op 75 .pick [.t 59,.c (.v (.bool true)),.t 74] none)]) (.cond (.t 75) (.seq (.reg [.set [(0,.c (.v (.bool false)))] [0]]) .ret) .skip))))) (.reg [.set [(3,.ap (.ibin .add) [.t 3,.c (.v (.int .i64 1))])] [28,29,3]])))))))) (.reg [.set [(1,.ap (.ibin .add) [.t 1,.c (.v (.int .i64 1))])] [19,20,1]]))))))
def W7b : WC:=(.seq (.reg [.stm (.eff (.lit 76 3 1 16 (zrep 16 (.v (.int .i64 0))) [(0,1),(1,1),(2,1),(3,1),(4,1),(5,1),(6,1),(7,1),(8,1),(9,1),(10,1),(11,1),(12,1),(13,1),(14,1),(15,1)] [.c (.v (.int .i64 (-9223372036854775808))),.c (.v (.int .i64 (-1))),.c (.v (.int .i64 0)),.c (.v (.int .i64 1)),.c (.v (.int .i64 2)),.c (.v (.int .i64 3)),.c (.v (.int .i64 4)),.c (.v (.int .i64 23)),.c (.v (.int .i64 24)),.c (.v (.int .i64 25)),.c (.v (.int .i64 46)),.c (.v (.int .i64 47)),.c (.v (.int .i64 48)),.c (.v (.int .i64 49)),.c (.v (.int .i64 50)),.c (.v (.int .i64 9223372036854775807))]) none),.set [(77,.ap .llen [.t 76]),(78,.c (.v (.int .i64 0)))] [77,78]]) (.block 6 (.loop (.seq (.reg [.set [(79,.ap (.ibin .lss) [.t 78,.t 77])] [79]]) (.seq (.cond (.t 79) .skip (.exit 6)) (.seq (.block 7 (.seq (.reg [.set [(7,.ap (.load 1 false) [.ap (.idx 3 1) [.t 76,.t 78]])] [80,81,7]]) (.seq (.seq (.reg [.set [(82,.c (.v (.int .i64 0)))] [82]]) (.block 8 (.loop (.seq (.reg [.set [(83,.ap (.ibin .lss) [.t 82,.c (.v (.int .i64 9))])] [83]]) (.seq (.cond (.t 83) .skip (.exit 8)) (.seq (.block 9 (.seq (.reg [.set [(8,.t 82)] [84,8]]) (.seq (.reg [.set [(85,.c (.v (.int .i64 0)))] [85]]) (.block 10 (.loop (.seq (.reg [.set [(86,.ap (.ibin .lss) [.t 85,.c (.v (.int .i64 5))])] [86]]) (.seq (.cond (.t 86) .skip (.exit 10)) (.seq (.block 11 (.seq (.reg [.set [(9,.t 85)] [87,9]]) (.seq (.reg [.stm (.eff (.callq 88 23 []) none),.stm (.eff (.box 10 (.c (.agg [.v (.int .i64 0),.v (.int .i64 0),.v (.int .i64 0),.v (.int .i64 0),.v (.int .i64 0),.nil]))) none),.stm (.eff (.store 6 (.t 10) (.t 88)) none)]) (.seq (.reg [.set [(93,.ap (.fld 0) [.ap (.idx 53 5) [.ap (.load 1 false) [.ap (.fld 5) [.t 10]],.t 8]]),(98,.ap (.fld 1) [.ap (.idx 53 5) [.ap (.load 1 false) [.ap (.fld 5) [.t 10]],.t 8]]),(103,.ap (.fld 2) [.ap (.idx 53 5) [.ap (.load 1 false) [.ap (.fld 5) [.t 10]],.t 8]]),(108,.ap (.fld 3) [.ap (.idx 53 5) [.ap (.load 1 false) [.ap (.fld 5) [.t 10]],.t 8]]),(113,.ap (.fld 4) [.ap (.idx 53 5) [.ap (.load 1 false) [.ap (.fld 5) [.t 10]],.t 8]]),(115,.t 9),(118,.t 7)] [89,90,91,92,93,94,95,96,97,98,99,100,101,102,103,104,105,106,107,108,109,110,111,112,113,115,118],.stm (.eff (.lit 114 51 1 5 [.v (.pointer none),.v (.pointer none),.v (.pointer none),.v (.pointer none),.v (.pointer none)] [(0,1),(1,1),(2,1),(3,1),(4,1)] [.t 93,.t 98,.t 103,.t 108,.t 113]) none),.set [(119,.ap .chk [.ap (.load 1 false) [.ap (.idx 51 1) [.t 114,.t 115]]])] [116,117,119],.stm (.eff (.store 1 (.t 119) (.t 118)) none)]) (.seq (.reg [.set [(120,.ap (.load 6 true) [.t 10]),(122,.ap (.ibin .rem) [.t 8,.c (.v (.int .i64 3))])] [120,121,122],.stm (.eff (.lit 123 3 1 1 [.v (.int .i64 0)] [(0,1)] [.t 122]) none),.set [(127,.ap .inot [.ap (.call 21) [.t 120,.t 123,.t 7,.c (.v (.int .i64 1)),.t 7]])] [124,125,126,127]]) (.cond (.t 127) (.seq (.reg [.set [(0,.c (.v (.bool false)))] [0]]) .ret) .skip)))))) (.reg [.set [(85,.ap (.ibin .add) [.t 85,.c (.v (.int .i64 1))])] [128,85]]))))))))) (.reg [.set [(82,.ap (.ibin .add) [.t 82,.c (.v (.int .i64 1))])] [129,82]]))))))) (.seq (.reg [.set [(130,.c (.v (.int .i64 0)))] [130]]) (.block 12 (.loop (.seq (.reg [.set [(131,.ap (.ibin .lss) [.t 130,.c (.v (.int .i64 5))])] [131]]) (.seq (.cond (.t 131) .skip (.exit 12)) (.seq (.block 13 (.seq (.reg [.set [(11,.t 130)] [132,11]]) (.seq (.reg [.stm (.eff (.callq 133 23 []) none),.stm (.eff (.box 12 (.c (.agg [.v (.int .i64 0),.v (.int .i64 0),.v (.int .i64 0),.v (.int .i64 0),.v (.int .i64 0),.nil]))) none),.stm (.eff (.store 6 (.t 12) (.t 133)) none)]) (.seq (.reg [.set [(134,.ap (.fld 0) [.t 12]),(135,.ap (.fld 1) [.t 12]),(136,.ap (.fld 2) [.t 12]),(137,.ap (.fld 3) [.t 12]),(138,.ap (.fld 4) [.t 12])] [134,135,136,137,138],.stm (.eff (.lit 139 51 1 5 [.v (.pointer none),.v (.pointer none),.v (.pointer none),.v (.pointer none),.v (.pointer none)] [(0,1),(1,1),(2,1),(3,1),(4,1)] [.t 134,.t 135,.t 136,.t 137,.t 138]) none),.set [(143,.t 7),(144,.ap .chk [.ap (.load 1 false) [.ap (.idx 51 1) [.t 139,.t 11]]])] [140,141,142,143,144],.stm (.eff (.store 1 (.t 144) (.t 143)) none)]) (.seq (.reg [.set [(145,.ap (.load 6 true) [.t 12])] [145],.stm (.eff (.lit 146 3 1 2 [.v (.int .i64 0),.v (.int .i64 0)] [(0,1),(1,1)] [.c (.v (.int .i64 1)),.c (.v (.int .i64 2))]) none),.stm (.op 147 .mv [.t 7] none),.stm (.op 148 .mv [.t 7] none),.stm (.op 149 (.call 21) [.t 145,.t 146,.t 147,.t 148,.c (.v (.int .i64 2))] none),.stm (.op 150 .inot [.t 149] none),.stm (.op 151 .mv [.t 150] none),.stm (.op 152 (.load 6 true) [.t 12] (some (151,false))),.stm (.eff (.lit 153 3 1 1 [.v (.int .i64 0)] [(0,1)] [.c (.v (.int .i64 1))]) (some (151,false))),.stm (.op 154 .mv [.t 7] (some (151,false))),.stm (.eff (.lit 155 3 1 1 [.v (.int .i64 0)] [(0,1)] [.t 154]) (some (151,false))),.stm (.eff (.lit 156 34 1 3 [.nil,.nil,.nil] [(0,1),(1,1),(2,1)] [.t 153,.t 155,.c .nil]) (some (151,false))),.stm (.op 157 (.call 11) [.t 152,.t 156] (some (151,false))),.stm (.op 158 .inot [.t 157] (some (151,false))),.stm (.op 159 .pick [.t 151,.c (.v (.bool true)),.t 158] none)]) (.cond (.t 159) (.seq (.reg [.set [(0,.c (.v (.bool false)))] [0]]) .ret) .skip)))))) (.reg [.set [(130,.ap (.ibin .add) [.t 130,.c (.v (.int .i64 1))])] [160,130]])))))))))) (.reg [.set [(78,.ap (.ibin .add) [.t 78,.c (.v (.int .i64 1))])] [161,78]])))))))
def W7c : WC:=(.seq (.reg [.stm (.eff (.callq 162 23 []) none),.stm (.eff (.box 13 (.c (.agg [.v (.int .i64 0),.v (.int .i64 0),.v (.int .i64 0),.v (.int .i64 0),.v (.int .i64 0),.nil]))) none),.stm (.eff (.store 6 (.t 13) (.t 162)) none)]) (.seq (.reg [.set [(164,.ap (.load 1 false) [.ap (.fld 5) [.t 13]]),(165,.ap (.build [.v (.int .i64 0),.v (.int .i64 0),.v (.int .i64 0),.v (.int .i64 0),.v (.int .i64 0)] [(0,1),(1,1)]) [.c (.v (.int .i64 2)),.c (.v (.int .i64 2))])] [163,164,165],.stm (.eff (.lit 166 53 5 1 [.v (.int .i64 0),.v (.int .i64 0),.v (.int .i64 0),.v (.int .i64 0),.v (.int .i64 0)] [(0,5)] [.t 165]) none),.stm (.eff (.app 167 53 5 (.t 164) (.t 166)) none),.set [(168,.ap (.fld 5) [.t 13])] [168],.stm (.eff (.store 1 (.t 168) (.t 167)) none)]) (.seq (.reg [.set [(169,.ap (.build [.v (.int .i64 0),.v (.int .i64 0),.v (.int .i64 0),.v (.int .i64 0),.v (.int .i64 0),.nil] [(0,1),(1,1)]) [.c (.v (.int .i64 24)),.c (.v (.int .i64 47))])] [169],.stm (.eff (.box 14 (.c (.agg [.v (.int .i64 0),.v (.int .i64 0),.v (.int .i64 0),.v (.int .i64 0),.v (.int .i64 0),.nil]))) none),.stm (.eff (.store 6 (.t 14) (.t 169)) none)]) (.seq (.seq (.reg [.stm (.op 170 (.load 6 true) [.t 13] none),.stm (.op 171 (.call 21) [.t 170,.c .nil,.c (.v (.int .i64 0)),.c (.v (.int .i64 1)),.c (.v (.int .i64 2))] none),.stm (.op 172 .inot [.t 171] none),.stm (.op 173 .mv [.t 172] none),.stm (.op 174 (.load 6 true) [.t 14] (some (173,false))),.stm (.eff (.lit 175 3 1 1 [.v (.int .i64 0)] [(0,1)] [.c (.v (.int .i64 46))]) (some (173,false))),.stm (.op 176 (.call 21) [.t 174,.t 175,.c (.v (.int .i64 47)),.c (.v (.int .i64 1)),.c (.v (.int .i64 2))] (some (173,false))),.stm (.op 177 .inot [.t 176] (some (173,false))),.stm (.op 178 .pick [.t 173,.c (.v (.bool true)),.t 177] none),.stm (.op 179 .mv [.t 178] none),.stm (.op 180 (.load 6 true) [.t 14] (some (179,false))),.stm (.eff (.lit 181 3 1 1 [.v (.int .i64 0)] [(0,1)] [.c (.v (.int .i64 47))]) (some (179,false))),.stm (.op 182 (.call 21) [.t 180,.t 181,.c (.v (.int .i64 48)),.c (.v (.int .i64 0)),.c (.v (.int .i64 0))] (some (179,false))),.stm (.op 183 .inot [.t 182] (some (179,false))),.stm (.op 184 .pick [.t 179,.c (.v (.bool true)),.t 183] none),.stm (.op 185 .mv [.t 184] none),.stm (.eff (.callq 186 23 []) (some (185,false))),.stm (.op 187 (.call 11) [.t 186,.c .nil] (some (185,false))),.stm (.op 188 .inot [.t 187] (some (185,false))),.stm (.op 189 .pick [.t 185,.c (.v (.bool true)),.t 188] none)]) (.cond (.t 189) (.seq (.reg [.set [(0,.c (.v (.bool false)))] [0]]) .ret) .skip)) (.seq (.reg [.set [(15,.c .nil)] [15]]) (.seq (.seq (.reg [.set [(16,.c (.v (.int .i64 0)))] [16]]) (.block 14 (.loop (.seq (.seq (.reg [.set [(191,.ap (.ibin .lss) [.t 16,.c (.v (.int .i64 66))])] [190,191]]) (.cond (.t 191) .skip (.exit 14))) (.seq (.block 15 (.seq (.reg [.set [(194,.t 15)] [194],.stm (.eff (.lit 195 3 1 1 [.v (.int .i64 0)] [(0,1)] [.c (.v (.int .i64 0))]) none),.stm (.eff (.lit 196 3 1 1 [.v (.int .i64 0)] [(0,1)] [.c (.v (.int .i64 1))]) none),.stm (.eff (.lit 197 3 1 1 [.v (.int .i64 0)] [(0,1)] [.c (.v (.int .i64 2))]) none),.stm (.eff (.lit 198 3 1 3 [.v (.int .i64 0),.v (.int .i64 0),.v (.int .i64 0)] [(0,1),(1,1),(2,1)] [.c (.v (.int .i64 0)),.c (.v (.int .i64 1)),.c (.v (.int .i64 2))]) none),.stm (.eff (.lit 199 34 1 5 [.nil,.nil,.nil,.nil,.nil] [(0,1),(1,1),(2,1),(3,1),(4,1)] [.c .nil,.t 195,.t 196,.t 197,.t 198]) none),.set [(203,.ap (.load 1 false) [.ap (.idx 34 1) [.t 199,.ap (.ibin .rem) [.t 16,.c (.v (.int .i64 5))]]])] [200,201,202,203],.stm (.eff (.lit 204 34 1 1 [.nil] [(0,1)] [.t 203]) none),.stm (.eff (.app 205 34 1 (.t 194) (.t 204)) none),.set [(15,.t 205)] [15]]) (.seq (.reg [.set [(208,.ap (.ibin .gtr) [.t 16,.c (.v (.int .i64 61))])] [206,207,208],.stm (.eff (.callq 209 23 []) (some (208,true))),.stm (.op 210 .mv [.t 15] (some (208,true))),.stm (.op 211 (.call 11) [.t 209,.t 210] (some (208,true))),.stm (.op 212 .inot [.t 211] (some (208,true))),.stm (.op 213 .pick [.t 208,.t 212,.c (.v (.bool false))] none)]) (.cond (.t 213) (.seq (.reg [.set [(0,.c (.v (.bool false)))] [0]]) .ret) .skip)))) (.reg [.set [(16,.ap (.ibin .add) [.t 16,.c (.v (.int .i64 1))])] [192,193,16]])))))) (.seq (.reg [.set [(0,.ap (.call 12) [])] [214,0]]) .ret)))))))
def W7 : WC × List VRes:=(.seq (.reg [.set [(0,.c (.v (.bool false)))] [0]]) (.seq W7a (.seq W7b W7c)),[.t 0])
theorem is7 : IsFn Try.prog frOf 7 Try.f7 W7:=⟨by kernel_rfl,by kernel_rfl,by kernel_rfl⟩
theorem nt7 : Try.f7.ntmps = 215:=by kernel_rfl
theorem low_bit : ∀ s : Fin 64,s.val % 4 = 1→(bits .and .i64 (Int.fdiv (s.val : Int) (2 ^ min 0 IntKind.i64.bits)) 1 == 1) = true:=by decide +kernel
theorem shl_T : ∀ T : Fin 6,IntKind.i64.wrap (2 ^ min T.val IntKind.i64.bits) = ((2 ^ T.val : Nat) : Int):=by decide +kernel
def MvP (b r : Nat) (σ : St) (x : D) : Prop:=∃ (u v : Nat) (m : Mv),x = .ptr [b,u] 0∧σ.m [b,u] = some (.box [iv m.t,iv m.r,iv m.s,iv m.c,iv m.w,.sl [r,v] 5 0 m.rows.length none])∧σ.m [r,v] = some (.row [r,v,0] 53 (rowsL m.rows))
def LvP (a : Nat) (L : List Int) (x : D) (M : Mem) : Prop:=(x = .nil∧L = []) ∨ ∃ u w,x = .sl [a,u] 1 0 L.length none∧M [a,u] = some (.row [a,w] 3 (ints L))
theorem LvP.view {a : Nat} {L : List Int} {x : D} {M : Mem} (h : LvP a L x M) : viewA M x = some (.list (ints L))∧(∀ n,viewC M (n + 1) x = some (.list (ints L)))∧x.okC = true∧x.cells = [x]∧x.isDef = true:=by
  rcases h with ⟨rfl,rfl⟩ | ⟨u,w,rfl,h⟩
  · exact ⟨rfl,fun _=>rfl,rfl,rfl,rfl⟩
  · exact ⟨by simp [h],fun n=>by simp [h],rfl,rfl,rfl⟩
theorem view_hdl {M : Mem} : ∀ (hs : List D) (Ls : List (List Int)),hs.length = Ls.length→(∀ (i : Nat) (d : D) (L : List Int),hs[i]? = some d→Ls[i]? = some L→viewC M 5 d = some (.list (ints L)))→viewRows (viewC M 5) (hs.map fun d=>[d]) = some (lists Ls)
  | [],[],_,_=>rfl
  | d :: hs,L :: Ls,hl,h=>by
    have ih:=view_hdl hs Ls (by simpa using hl) fun i d L h1 h2=>h (i + 1) d L (by simpa using h1) (by simpa using h2)
    have h0:=h 0 d L rfl rfl
    rw [List.map_cons,viewRows_cons (viewC M 5) _ _ (fun _=>rfl),ih,viewRow_cons (viewC M 5) _ _ (fun _=>rfl),h0]
    simp [lists]
  | [],_ :: _,hl,_=>by simp at hl
  | _ :: _,[],hl,_=>by simp at hl
theorem c7a (p21 p11 : FP) (q22 : FQ) (ps : List (Nat × FP)) (qs : List (Nat × FQ)) (R : Nat→List Row) (hR : ∀ T,(R T).length = T * T)
    (h21 : ∀ (a b c d e : Int) (rs : List Row) (L : List Int) (n p q : Int),p21 [.agg [iv a,iv b,iv c,iv d,iv e,.list (rowsL rs)],.list (ints L),iv n,iv p,iv q] = some (bv true))
    (h11 : ∀ (a b c d e : Int) (rs : List Row) (Ls : List (List Int)),p11 [.agg [iv a,iv b,iv c,iv d,iv e,.list (rowsL rs)],.list (lists Ls)] = some (bv true))
    (h22 : ∀ T : Nat,2≤T→T≤5→q22 [iv T,iv T] = some (.agg [iv T,iv T,iv T,iv 1,iv 2,.sl [] 5 0 (T * T) none],rowMem 53 (rowsL (R T))))
    {b : WC} {Q : VE→St→Prop} {σ : St} (W : WF σ) (h2 : ∀ σ,WF σ→wwp (mkEnv ((21,p21) :: (11,p11) :: ps) ((22,q22) :: qs) []) b Q σ) :
    wwp (mkEnv ((21,p21) :: (11,p11) :: ps) ((22,q22) :: qs) []) (.seq W7a b) Q σ:=by
  refine wwp_cutG (fun σ=>WF σ) ?_ h2
  simp only [W7a]
  refine wwp_cutW W (fun σ=>σ.s 1 = iv 2) (by simp) ?_
  clear W σ
  rintro σ W h1
  simp only [wwp_block]
  refine wwp_loop (fun σ=>∃ T : Nat,2≤T∧T≤6∧σ.s 1 = iv T) (fun σ=>cnt 6 (σ.s 1)) ⟨2,by omega,by omega,h1⟩ ?_
  clear W h1 σ
  rintro σ W ⟨T,hT2,hT6,h1⟩
  refine wwp_seq_assoc ?_
  by_cases hT : T≤5
  · have hw1:=wrap_succ (show T≤1000000000 by omega)
    have hmu : cnt 6 (σ.s 1) = 6 - T:=by simp [h1]
    simp only [hmu]
    clear hmu
    have hz : (T : Int)≤5:=by omega
    have e22:=h22 T hT2 hT
    have hsh:=shl_T ⟨T,by omega⟩
    simp only at hsh
    obtain ⟨N,hN⟩ : ∃ N : Nat,N = 2 ^ T:=⟨_,rfl⟩
    rw [← hN] at hsh
    have hN32 : N≤32:=by rw [hN]; exact Nat.pow_le_pow_right (n:=2) (by omega) hT
    have hRT:=hR T
    refine wwp_on (fun σ=>WF σ∧σ.s 1 = iv T) (by simp [h1,hz,hT]; exact W.of rfl rfl) ?_
    clear W h1 σ
    rintro σ ⟨W,h1⟩
    refine wwp_body (fun σ=>σ.s 1 = iv T) ?_ ?_
    · refine wwp_cutW W (fun σ=>σ.s 1 = iv T∧MvP 3 24 σ (σ.s 2)) ?_ ?_
      · simp [h1,e22,putAt]
        exact ⟨σ.c 2,σ.c 23,⟨T,T,T,1,2,R T⟩,rfl,by simp [hRT],by simp⟩
      clear W h1 σ
      rintro σ W ⟨h1,hM⟩
      refine wwp_cutW W (fun σ=>σ.s 1 = iv T∧MvP 3 24 σ (σ.s 2)∧σ.s 3 = iv 0) ?_ ?_
      · simp [h1]; exact hM
      clear W h1 hM σ
      rintro σ W ⟨h1,hM,h3⟩
      simp only [wwp_block]
      refine wwp_loop (fun σ=>∃ s : Nat,s≤N∧σ.s 1 = iv T∧MvP 3 24 σ (σ.s 2)∧σ.s 3 = iv s) (fun σ=>cnt N (σ.s 3)) ⟨0,by omega,h1,hM,h3⟩ ?_
      clear W h1 hM h3 σ
      rintro σ W ⟨s,hs,h1,hM,h3⟩
      refine wwp_seq_assoc ?_
      by_cases hlt : s < N
      · have hw2:=wrap_succ (show s≤1000000000 by omega)
        have hmu2 : cnt N (σ.s 3) = N - s:=by simp [h3]
        simp only [hmu2]
        clear hmu2
        have hz2 : (s : Int) < N:=by omega
        refine wwp_on (fun σ=>WF σ∧σ.s 1 = iv T∧MvP 3 24 σ (σ.s 2)∧σ.s 3 = iv s) (by simp [h1,h3,hsh,hz2,hlt]; exact ⟨W.of rfl rfl,hM⟩) ?_
        clear W h1 hM h3 σ
        rintro σ ⟨W,h1,hM,h3⟩
        refine wwp_body (fun σ=>σ.s 1 = iv T∧MvP 3 24 σ (σ.s 2)∧σ.s 3 = iv s) ?_ ?_
        · refine wwp_cutW W (fun σ=>σ.s 1 = iv T∧MvP 3 24 σ (σ.s 2)∧σ.s 3 = iv s∧σ.s 4 = .nil) (by simp [h1,h3]; exact hM) ?_
          clear W h1 hM h3 σ
          rintro σ W ⟨h1,hM,h3,h4⟩
          refine wwp_cutG (fun σ=>WF σ∧σ.s 1 = iv T∧MvP 3 24 σ (σ.s 2)∧σ.s 3 = iv s∧∃ L,LvP 43 L (σ.s 4) σ.m∧(s % 4 = 1→L ≠ [])) ?_ ?_
          · refine wwp_cutW W (fun σ=>σ.s 1 = iv T∧MvP 3 24 σ (σ.s 2)∧σ.s 3 = iv s∧LvP 43 [] (σ.s 4) σ.m∧σ.s 30 = iv T∧σ.s 31 = iv 0) ?_ ?_
            · simp [h1,h3,h4]
              exact ⟨hM,.inl ⟨rfl,rfl⟩⟩
            clear W h1 hM h3 h4 σ
            rintro σ W ⟨h1,hM,h3,hL,h30,h31⟩
            simp only [wwp_block]
            refine wwp_loop (fun σ=>∃ r : Nat,r≤T∧σ.s 1 = iv T∧MvP 3 24 σ (σ.s 2)∧σ.s 3 = iv s∧(∃ L,LvP 43 L (σ.s 4) σ.m∧L.length≤r∧(s % 4 = 1→0 < r→L ≠ []))∧σ.s 30 = iv T∧σ.s 31 = iv r) (fun σ=>cnt T (σ.s 31)) ⟨0,by omega,h1,hM,h3,⟨[],hL,by simp,fun _ h=>absurd h (by omega)⟩,h30,h31⟩ ?_
            clear W h1 hM h3 hL h30 h31 σ
            rintro σ W ⟨r,hr,h1,hM,h3,⟨L,hL,hLl,hLn⟩,h30,h31⟩
            by_cases hrT : r < T
            · have hw3:=wrap_succ (show r≤1000000000 by omega)
              have hmu3 : cnt T (σ.s 31) = T - r:=by simp [h31]
              simp only [hmu3]
              clear hmu3
              have hz3 : (r : Int) < T:=by omega
              refine wwp_on (fun σ=>WF σ∧σ.s 1 = iv T∧MvP 3 24 σ (σ.s 2)∧σ.s 3 = iv s∧LvP 43 L (σ.s 4) σ.m∧σ.s 30 = iv T∧σ.s 31 = iv r) (by simp [h1,h3,h30,h31,hz3,hrT]; exact ⟨W.of rfl rfl,hM,hL⟩) ?_
              clear W h1 hM h3 hL h30 h31 σ
              rintro σ ⟨W,h1,hM,h3,hL,h30,h31⟩
              refine wwp_body (fun σ=>σ.s 1 = iv T∧MvP 3 24 σ (σ.s 2)∧σ.s 3 = iv s∧(∃ L,LvP 43 L (σ.s 4) σ.m∧L.length≤r + 1∧(s % 4 = 1→L ≠ []))∧σ.s 30 = iv T∧σ.s 31 = iv r) ?_ ?_
              · refine wwp_cutW W (fun σ=>σ.s 1 = iv T∧MvP 3 24 σ (σ.s 2)∧σ.s 3 = iv s∧LvP 43 L (σ.s 4) σ.m∧σ.s 30 = iv T∧σ.s 31 = iv r∧σ.s 5 = iv r) (by simp [h1,h3,h30,h31]; exact ⟨hM,hL⟩) ?_
                clear W h1 hM h3 hL h30 h31 σ
                rintro σ W ⟨h1,hM,h3,hL,h30,h31,h5⟩
                obtain ⟨B,hB⟩ : ∃ B : Bool,B = (bits .and .i64 (Int.fdiv (s : Int) (2 ^ min r IntKind.i64.bits)) 1 == 1):=⟨_,rfl⟩
                refine wwp_cutW W (fun σ=>σ.s 1 = iv T∧MvP 3 24 σ (σ.s 2)∧σ.s 3 = iv s∧LvP 43 L (σ.s 4) σ.m∧σ.s 30 = iv T∧σ.s 31 = iv r∧σ.s 5 = iv r∧σ.s 38 = bv B) ?_ ?_
                · simp [h1,h3,h30,h31,h5,← hB]
                  exact ⟨hM,hL⟩
                clear W h1 hM h3 hL h30 h31 h5 σ
                rintro σ W ⟨h1,hM,h3,hL,h30,h31,h5,h38⟩
                cases hBv : B with
                | false=>
                  rw [hBv] at h38 hB
                  simp [h1,h3,h30,h31,h5,h38]
                  refine ⟨hM,L,hL,by omega,fun h4=>?_⟩
                  by_cases hr0 : r = 0
                  · subst hr0
                    have:=low_bit ⟨s,by omega⟩ h4
                    simp only at this
                    rw [this] at hB
                    cases hB
                  · exact hLn h4 (by omega)
                | true=>
                  rw [hBv] at h38
                  obtain ⟨u,v,m,hx,mb,mr⟩:=hM
                  rcases hL with ⟨h4,hL0⟩ | ⟨y,w,h4,my⟩
                  · subst hL0
                    simp [h1,h3,h30,h31,h5,h38,h4,one_made]
                    exact ⟨⟨u,v,m,by simp [hx],by simp [mb],by simp [mr]⟩,[r],.inr ⟨σ.c 42,σ.c 42,by simp,by simp [ints]⟩,by simp,by simp⟩
                  · have n1:=W.ne my 41 (σ.c 41) []
                    have hmx : L.length + 1≤maxMade:=maxMade_le (by omega)
                    simp [h1,h3,h30,h31,h5,h38,h4,my,one_made,hmx]
                    exact ⟨⟨u,v,m,by simp [hx],by simp [mb],by simp [mr]⟩,L ++ [(r : Int)],.inr ⟨σ.c 42,w,by simp,by simp [ints]⟩,by simp; omega,by simp⟩
              · clear W h1 hM h3 hL h30 h31 σ
                rintro σ ⟨h1,hM,h3,⟨L,hL,hLl,hLn⟩,h30,h31⟩
                simp [h1,h3,h30,h31,hw3]
                exact ⟨⟨r + 1,by omega,hM,⟨L,hL,hLl,fun h4 _=>hLn h4⟩,rfl⟩,by omega⟩
            · obtain rfl : r = T:=by omega
              refine wwp_off ?_
              simp [h1,h3,h30,h31]
              exact ⟨W.of rfl rfl,hM,L,hL,fun h4=>hLn h4 (by omega)⟩
          · clear W h1 hM h3 h4 σ
            rintro σ ⟨W,h1,⟨u,v,m,hx,mb,mr⟩,h3,L,hL,hLn⟩
            obtain ⟨v1,v2,v3,v4,v5⟩:=hL.view
            have hT0 : ¬ (T : Int) = 0:=by omega
            have hTn : ¬ T = 0:=by omega
            have w2T : IntKind.i64.wrap (2 * (T : Int)) = 2 * T:=wrap_in (by omega) (by omega)
            have w2T1 : IntKind.i64.wrap (2 * (T : Int) + 1) = 2 * T + 1:=wrap_in (by omega) (by omega)
            have hT1 : ¬ 2 * (T : Int) + 1 = 0:=by omega
            refine wwp_cutN 14 W (fun σ=>σ.s 1 = iv T∧MvP 3 24 σ (σ.s 2)∧σ.s 3 = iv s∧LvP 43 L (σ.s 4) σ.m∧σ.s 57 = bv true) ?_ ?_
            · simp [h1,hx,mb,mr,h3,v1,hT0,hTn,w2T,w2T1,hT1,h21]
              exact ⟨⟨u,v,m,by simp [hx],by simp [mb],by simp [mr]⟩,by simpa using hL⟩
            clear W h1 hx mb mr h3 hL v1 v2 v3 v4 v5 u v m σ
            rintro σ W ⟨h1,hM,h3,hL,h57⟩
            simp only [List.drop_succ_cons,List.drop_zero]
            refine wwp_cutN 6 W (fun σ=>σ.s 1 = iv T∧MvP 3 24 σ (σ.s 2)∧σ.s 3 = iv s∧LvP 43 L (σ.s 4) σ.m∧σ.s 59 = bv false∧σ.s 63 = bv (decide (s % 4 = 1))) ?_ ?_
            · have e4 : ((s : Int).tmod 4 == 1) = decide (s % 4 = 1):=by
                rw [Int.tmod_eq_emod_of_nonneg (by omega)]
                rw [Bool.eq_iff_iff,beq_iff_eq,decide_eq_true_eq]
                omega
              simp [h1,h3,h57,e4]
              exact ⟨hM,hL⟩
            clear W h1 hM h3 hL h57 σ
            rintro σ W ⟨h1,hM,h3,hL,h59,h63⟩
            simp only [List.drop_succ_cons,List.drop_zero]
            by_cases h41 : s % 4 = 1
            · rw [decide_eq_true h41] at h63
              obtain ⟨x0,L',rfl⟩ : ∃ x0 L',L = x0 :: L':=by
                cases L with
                | nil=>exact absurd rfl (hLn h41)
                | cons a l=>exact ⟨a,l,rfl⟩
              obtain ⟨u,v,m,hx,mb,mr⟩:=hM
              rcases hL with ⟨_,hn⟩ | ⟨y,w,h4,my⟩
              · cases hn
              have w1 : IntKind.i64.wrap ((T : Int) - 1) = T - 1:=wrap_in (by omega) (by omega)
              have l1 : (1 : Int)≤(L'.length : Int) + 1:=by omega
              refine wwp_cutN 6 W (fun σ=>σ.s 1 = iv T∧σ.s 2 = .ptr [3,u] 0∧σ.m [3,u] = some (.box [iv m.t,iv m.r,iv m.s,iv m.c,iv m.w,.sl [24,v] 5 0 m.rows.length none])∧σ.m [24,v] = some (.row [24,v,0] 53 (rowsL m.rows))∧σ.s 3 = iv s∧σ.m [43,y] = some (.row [43,w] 3 (ints (x0 :: L')))∧σ.s 59 = bv false∧σ.s 63 = bv true∧σ.s 64 = .agg [iv m.t,iv m.r,iv m.s,iv m.c,iv m.w,.sl [24,v] 5 0 m.rows.length none]∧σ.s 65 = .sl [43,y] 1 0 (L'.length + 1) none∧σ.s 67 = .sl [43,y] 1 0 1 none∧σ.s 69 = iv ((T : Int) - 1)) (by simp [h1,hx,mb,mr,h3,h4,my,h59,h63,w1,l1]) ?_
              clear W h1 hx mb mr h3 h4 my h59 h63 σ
              rintro σ W ⟨h1,hx,mb,mr,h3,my,h59,h63,h64,h65,h67,h69⟩
              simp only [List.drop_succ_cons,List.drop_zero]
              refine wwp_cutN 1 W (fun σ=>σ.s 1 = iv T∧σ.s 2 = .ptr [3,u] 0∧σ.m [3,u] = some (.box [iv m.t,iv m.r,iv m.s,iv m.c,iv m.w,.sl [24,v] 5 0 m.rows.length none])∧σ.m [24,v] = some (.row [24,v,0] 53 (rowsL m.rows))∧σ.s 3 = iv s∧σ.m [43,y] = some (.row [43,w] 3 (ints (x0 :: L')))∧σ.s 59 = bv false∧σ.s 63 = bv true∧σ.s 64 = .agg [iv m.t,iv m.r,iv m.s,iv m.c,iv m.w,.sl [24,v] 5 0 m.rows.length none]∧σ.s 65 = .sl [43,y] 1 0 (L'.length + 1) none∧σ.s 67 = .sl [43,y] 1 0 1 none∧∃ z,σ.s 70 = .sl [71,z] 1 0 2 none∧σ.m [71,z] = some (.row [71,z] 3 (ints [0,(T : Int) - 1]))) (by simp [h1,hx,mb,mr,h3,my,h59,h63,h64,h65,h67,h69,ints]) ?_
              clear W h1 hx mb mr h3 my h59 h63 h64 h65 h67 h69 σ
              rintro σ W ⟨h1,hx,mb,mr,h3,my,h59,h63,h64,h65,h67,z,h70,mz⟩
              simp only [List.drop_succ_cons,List.drop_zero]
              refine wwp_cutN 1 W (fun σ=>σ.s 1 = iv T∧MvP 3 24 σ (σ.s 2)∧σ.m [24,v] = some (.row [24,v,0] 53 (rowsL m.rows))∧σ.s 3 = iv s∧σ.s 59 = bv false∧σ.s 63 = bv true∧σ.s 64 = .agg [iv m.t,iv m.r,iv m.s,iv m.c,iv m.w,.sl [24,v] 5 0 m.rows.length none]∧viewA σ.m (σ.s 71) = some (.list (lists [x0 :: L',[],[x0],[0,(T : Int) - 1]]))) ?_ ?_
              · have l2 : 1≤L'.length + 1:=by omega
                have ht1 : (ints (x0 :: L')).take (L'.length + 1) = ints (x0 :: L'):=List.take_of_length_le (by simp)
                have ht2 : (ints (x0 :: L')).take 1 = ints [x0]:=rfl
                have ht3 : (ints [0,(T : Int) - 1]).take 2 = ints [0,(T : Int) - 1]:=rfl
                simp [h1,hx,mb,mr,h3,h59,h63,h64,h65,h67,h70,my,mz,l2,ht1,ht2,ht3]
                exact ⟨⟨u,v,m,rfl,by simp [mb],by simp [mr]⟩,rfl⟩
              clear W h1 hx mb mr h3 my h59 h63 h64 h65 h67 h70 mz σ
              rintro σ W ⟨h1,hM,mr,h3,h59,h63,h64,h71⟩
              simp only [List.drop_succ_cons,List.drop_zero]
              refine wwp_cutN 1 W (fun σ=>σ.s 1 = iv T∧MvP 3 24 σ (σ.s 2)∧σ.s 3 = iv s∧σ.s 59 = bv false∧σ.s 63 = bv true∧σ.s 72 = bv true) ?_ ?_
              · simp [h1,mr,h3,h59,h63,h64,h71,h11]
                exact hM
              clear W h1 hM mr h3 h59 h63 h64 h71 σ
              rintro σ W ⟨h1,hM,h3,h59,h63,h72⟩
              simp only [List.drop_succ_cons,List.drop_zero]
              simp [h1,h3,h59,h63,h72]
              exact hM
            · rw [decide_eq_false h41] at h63
              simp [h1,h3,h59,h63]
              exact hM
        · clear W h1 hM h3 σ
          rintro σ ⟨h1,hM,h3⟩
          simp [h1,h3,hw2]
          exact ⟨⟨s + 1,by omega,hM,by simp⟩,by omega⟩
      · refine wwp_off ?_
        have hz2 : ¬ (s : Int) < N:=by omega
        simp [h1,h3,hsh,hz2]
    · clear W h1 σ
      rintro σ h1
      simp [h1,hw1]
      exact ⟨⟨T + 1,by omega,by omega,by simp⟩,by omega⟩
  · refine wwp_off ?_
    have hz : ¬ (T : Int)≤5:=by omega
    simp [h1,hz]
    exact W.of rfl rfl
end Go.Proofs.Ytpmgaaalfdjikaa
namespace Go.Proofs.Ytpmgaaalfdjikaa
open Go.RowKit
set_option linter.unusedSimpArgs false
set_option linter.unusedVariables false
def NsP (σ : St) : Prop:=∃ (w : Nat) (NS : List Int),NS.length = 16∧σ.s 76 = .sl [77,w] 1 0 16 none∧σ.m [77,w] = some (.row [77,w] 3 (ints NS))∧σ.s 77 = iv 16
def rowPut (x : Row) (k : Nat) (n : Int) : Row:=match k with
  | 0=>{ x with r:=n }
  | 1=>{ x with t:=n }
  | 2=>{ x with ns:=n }
  | 3=>{ x with ew:=n }
  | _=>{ x with s:=n }
theorem rowPut_cells (x : Row) (k : Nat) (n : Int) (h : k < 5) : putAt x.cells k [iv n] = (rowPut x k n).cells:=by
  match k,h with
  | 0,_=>simp [Row.cells,rowPut,putAt]
  | 1,_=>simp [Row.cells,rowPut,putAt]
  | 2,_=>simp [Row.cells,rowPut,putAt]
  | 3,_=>simp [Row.cells,rowPut,putAt]
  | 4,_=>simp [Row.cells,rowPut,putAt]
def mvPut (m : Mv) (k : Nat) (n : Int) : Mv:=match k with
  | 0=>{ m with t:=n }
  | 1=>{ m with r:=n }
  | 2=>{ m with s:=n }
  | 3=>{ m with c:=n }
  | _=>{ m with w:=n }
theorem mvPut_cells (m : Mv) (d : D) (k : Nat) (n : Int) (h : k < 5) : putAt [iv m.t,iv m.r,iv m.s,iv m.c,iv m.w,d] k [iv n] = [iv (mvPut m k n).t,iv (mvPut m k n).r,iv (mvPut m k n).s,iv (mvPut m k n).c,iv (mvPut m k n).w,d]∧(mvPut m k n).rows = m.rows:=by
  match k,h with
  | 0,_=>simp [mvPut,putAt]
  | 1,_=>simp [mvPut,putAt]
  | 2,_=>simp [mvPut,putAt]
  | 3,_=>simp [mvPut,putAt]
  | 4,_=>simp [mvPut,putAt]
theorem c7b (p21 p11 : FP) (q22 q23 : FQ) (ps : List (Nat × FP)) (qs : List (Nat × FQ)) (E : List Row) (hE : E.length = 9)
    (h21 : ∀ (a b c d e : Int) (rs : List Row) (L : List Int) (n p q : Int),p21 [.agg [iv a,iv b,iv c,iv d,iv e,.list (rowsL rs)],.list (ints L),iv n,iv p,iv q] = some (bv true))
    (h11 : ∀ (a b c d e : Int) (rs : List Row) (Ls : List (List Int)),p11 [.agg [iv a,iv b,iv c,iv d,iv e,.list (rowsL rs)],.list (lists Ls)] = some (bv true))
    (h23 : q23 [] = some (.agg [iv 3,iv 3,iv 3,iv 1,iv 2,.sl [] 5 0 9 none],rowMem 53 (rowsL E)))
    {b : WC} {Q : VE→St→Prop} {σ : St} (W : WF σ) (h2 : ∀ σ,WF σ→wwp (mkEnv ((21,p21) :: (11,p11) :: ps) ((22,q22) :: (23,q23) :: qs) []) b Q σ) :
    wwp (mkEnv ((21,p21) :: (11,p11) :: ps) ((22,q22) :: (23,q23) :: qs) []) (.seq W7b b) Q σ:=by
  refine wwp_cutG (fun σ=>WF σ) ?_ h2
  simp only [W7b]
  refine wwp_cutW W (fun σ=>NsP σ∧σ.s 78 = iv 0) ?_ ?_
  · have hz16 : zrep 16 (D.v (.int .i64 0)) = [iv 0,iv 0,iv 0,iv 0,iv 0,iv 0,iv 0,iv 0,iv 0,iv 0,iv 0,iv 0,iv 0,iv 0,iv 0,iv 0]:=rfl
    rw [hz16]
    simp [putAt]
    exact ⟨σ.c 76,[-9223372036854775808,-1,0,1,2,3,4,23,24,25,46,47,48,49,50,9223372036854775807],rfl,by simp,by simp [ints],by simp⟩
  clear W σ
  rintro σ W ⟨⟨w,NS,n1,z1,z2,z3⟩,h78⟩
  simp only [wwp_block]
  refine wwp_loop (fun σ=>∃ j : Nat,j≤16∧σ.s 76 = .sl [77,w] 1 0 16 none∧σ.m [77,w] = some (.row [77,w] 3 (ints NS))∧σ.s 77 = iv 16∧σ.s 78 = iv j) (fun σ=>cnt 16 (σ.s 78)) ⟨0,by omega,z1,z2,z3,h78⟩ ?_
  clear W z1 z2 z3 h78 σ
  rintro σ W ⟨j,hj,z1,z2,z3,h78⟩
  by_cases hj16 : j < 16
  · have hw1:=wrap_succ (show j≤1000000000 by omega)
    have hmu : cnt 16 (σ.s 78) = 16 - j:=by simp [h78]
    simp only [hmu]
    clear hmu
    have hz : (j : Int) < 16:=by omega
    refine wwp_on (fun σ=>WF σ∧σ.s 76 = .sl [77,w] 1 0 16 none∧σ.m [77,w] = some (.row [77,w] 3 (ints NS))∧σ.s 77 = iv 16∧σ.s 78 = iv j) (by simp [z1,z2,z3,h78,hz,hj16]; exact W.of rfl rfl) ?_
    clear W z1 z2 z3 h78 σ
    rintro σ ⟨W,z1,z2,z3,h78⟩
    refine wwp_body (fun σ=>σ.s 76 = .sl [77,w] 1 0 16 none∧σ.m [77,w] = some (.row [77,w] 3 (ints NS))∧σ.s 77 = iv 16∧σ.s 78 = iv j) ?_ ?_
    · have hat:=ints_at (l:=NS) (k:=j) (by omega)
      refine wwp_cutW W (fun σ=>σ.s 76 = .sl [77,w] 1 0 16 none∧σ.m [77,w] = some (.row [77,w] 3 (ints NS))∧σ.s 77 = iv 16∧σ.s 78 = iv j∧σ.s 7 = iv NS[j]) (by simp [z1,z2,z3,h78,hj16,hat]) ?_
      obtain ⟨n,hn⟩ : ∃ n,n = NS[j]:=⟨_,rfl⟩
      rw [← hn]
      clear W z1 z2 z3 h78 hat hn σ
      rintro σ W ⟨z1,z2,z3,h78,h7⟩
      refine wwp_cutG (fun σ=>WF σ∧σ.s 76 = .sl [77,w] 1 0 16 none∧σ.m [77,w] = some (.row [77,w] 3 (ints NS))∧σ.s 77 = iv 16∧σ.s 78 = iv j∧σ.s 7 = iv n) ?_ ?_
      · refine wwp_cutW W (fun σ=>σ.s 76 = .sl [77,w] 1 0 16 none∧σ.m [77,w] = some (.row [77,w] 3 (ints NS))∧σ.s 77 = iv 16∧σ.s 78 = iv j∧σ.s 7 = iv n∧σ.s 82 = iv 0) (by simp [z1,z2,z3,h78,h7]) ?_
        clear W z1 z2 z3 h78 h7 σ
        rintro σ W ⟨z1,z2,z3,h78,h7,h82⟩
        simp only [wwp_block]
        refine wwp_loop (fun σ=>∃ i : Nat,i≤9∧σ.s 76 = .sl [77,w] 1 0 16 none∧σ.m [77,w] = some (.row [77,w] 3 (ints NS))∧σ.s 77 = iv 16∧σ.s 78 = iv j∧σ.s 7 = iv n∧σ.s 82 = iv i) (fun σ=>cnt 9 (σ.s 82)) ⟨0,by omega,z1,z2,z3,h78,h7,h82⟩ ?_
        clear W z1 z2 z3 h78 h7 h82 σ
        rintro σ W ⟨i,hi,z1,z2,z3,h78,h7,h82⟩
        by_cases hi9 : i < 9
        · have hw2:=wrap_succ (show i≤1000000000 by omega)
          have hmu : cnt 9 (σ.s 82) = 9 - i:=by simp [h82]
          simp only [hmu]
          clear hmu
          have hz2 : (i : Int) < 9:=by omega
          refine wwp_on (fun σ=>WF σ∧σ.s 76 = .sl [77,w] 1 0 16 none∧σ.m [77,w] = some (.row [77,w] 3 (ints NS))∧σ.s 77 = iv 16∧σ.s 78 = iv j∧σ.s 7 = iv n∧σ.s 82 = iv i) (by simp [z1,z2,z3,h78,h7,h82,hz2,hi9]; exact W.of rfl rfl) ?_
          clear W z1 z2 z3 h78 h7 h82 σ
          rintro σ ⟨W,z1,z2,z3,h78,h7,h82⟩
          refine wwp_body (fun σ=>σ.s 76 = .sl [77,w] 1 0 16 none∧σ.m [77,w] = some (.row [77,w] 3 (ints NS))∧σ.s 77 = iv 16∧σ.s 78 = iv j∧σ.s 7 = iv n∧σ.s 82 = iv i) ?_ ?_
          · refine wwp_cutW W (fun σ=>σ.s 76 = .sl [77,w] 1 0 16 none∧σ.m [77,w] = some (.row [77,w] 3 (ints NS))∧σ.s 77 = iv 16∧σ.s 78 = iv j∧σ.s 7 = iv n∧σ.s 82 = iv i∧σ.s 8 = iv i) (by simp [z1,z2,z3,h78,h7,h82]) ?_
            clear W z1 z2 z3 h78 h7 h82 σ
            rintro σ W ⟨z1,z2,z3,h78,h7,h82,h8⟩
            refine wwp_cutW W (fun σ=>σ.s 76 = .sl [77,w] 1 0 16 none∧σ.m [77,w] = some (.row [77,w] 3 (ints NS))∧σ.s 77 = iv 16∧σ.s 78 = iv j∧σ.s 7 = iv n∧σ.s 82 = iv i∧σ.s 8 = iv i∧σ.s 85 = iv 0) (by simp [z1,z2,z3,h78,h7,h82,h8]) ?_
            clear W z1 z2 z3 h78 h7 h82 h8 σ
            rintro σ W ⟨z1,z2,z3,h78,h7,h82,h8,h85⟩
            simp only [wwp_block]
            refine wwp_loop (fun σ=>∃ k : Nat,k≤5∧σ.s 76 = .sl [77,w] 1 0 16 none∧σ.m [77,w] = some (.row [77,w] 3 (ints NS))∧σ.s 77 = iv 16∧σ.s 78 = iv j∧σ.s 7 = iv n∧σ.s 82 = iv i∧σ.s 8 = iv i∧σ.s 85 = iv k) (fun σ=>cnt 5 (σ.s 85)) ⟨0,by omega,z1,z2,z3,h78,h7,h82,h8,h85⟩ ?_
            clear W z1 z2 z3 h78 h7 h82 h8 h85 σ
            rintro σ W ⟨k,hk,z1,z2,z3,h78,h7,h82,h8,h85⟩
            by_cases hk5 : k < 5
            · have hw3:=wrap_succ (show k≤1000000000 by omega)
              have hmu : cnt 5 (σ.s 85) = 5 - k:=by simp [h85]
              simp only [hmu]
              clear hmu
              have hz3 : (k : Int) < 5:=by omega
              refine wwp_on (fun σ=>WF σ∧σ.s 76 = .sl [77,w] 1 0 16 none∧σ.m [77,w] = some (.row [77,w] 3 (ints NS))∧σ.s 77 = iv 16∧σ.s 78 = iv j∧σ.s 7 = iv n∧σ.s 82 = iv i∧σ.s 8 = iv i∧σ.s 85 = iv k) (by simp [z1,z2,z3,h78,h7,h82,h8,h85,hz3,hk5]; exact W.of rfl rfl) ?_
              clear W z1 z2 z3 h78 h7 h82 h8 h85 σ
              rintro σ ⟨W,z1,z2,z3,h78,h7,h82,h8,h85⟩
              refine wwp_body (fun σ=>σ.s 76 = .sl [77,w] 1 0 16 none∧σ.m [77,w] = some (.row [77,w] 3 (ints NS))∧σ.s 77 = iv 16∧σ.s 78 = iv j∧σ.s 7 = iv n∧σ.s 82 = iv i∧σ.s 8 = iv i∧σ.s 85 = iv k) ?_ ?_
              · refine wwp_cutW W (fun σ=>σ.s 76 = .sl [77,w] 1 0 16 none∧σ.m [77,w] = some (.row [77,w] 3 (ints NS))∧σ.s 77 = iv 16∧σ.s 78 = iv j∧σ.s 7 = iv n∧σ.s 82 = iv i∧σ.s 8 = iv i∧σ.s 85 = iv k∧σ.s 9 = iv k) (by simp [z1,z2,z3,h78,h7,h82,h8,h85]) ?_
                clear W z1 z2 z3 h78 h7 h82 h8 h85 σ
                rintro σ W ⟨z1,z2,z3,h78,h7,h82,h8,h85,h9⟩
                refine wwp_cutW W (fun σ=>σ.s 76 = .sl [77,w] 1 0 16 none∧σ.m [77,w] = some (.row [77,w] 3 (ints NS))∧σ.s 77 = iv 16∧σ.s 78 = iv j∧σ.s 7 = iv n∧σ.s 82 = iv i∧σ.s 8 = iv i∧σ.s 85 = iv k∧σ.s 9 = iv k∧∃ u v,σ.s 10 = .ptr [11,u] 0∧σ.m [11,u] = some (.box [iv 3,iv 3,iv 3,iv 1,iv 2,.sl [89,v] 5 0 9 none])∧σ.m [89,v] = some (.row [89,v,0] 53 (rowsL E))) (by simp [z1,z2,z3,h78,h7,h82,h8,h85,h9,h23,putAt]) ?_
                clear W z1 z2 z3 h78 h7 h82 h8 h85 h9 σ
                rintro σ W ⟨z1,z2,z3,h78,h7,h82,h8,h85,h9,u,v,h10,mb,mr⟩
                have hEi:=rowsL_at (l:=E) (k:=i) (by omega)
                obtain ⟨x,hx⟩ : ∃ x,x = E[i]:=⟨_,rfl⟩
                rw [← hx] at hEi
                have hpc:=rowPut_cells x k n hk5
                have hset : (rowsL E).set i (rowPut x k n).cells = rowsL (E.set i (rowPut x k n)):=(rowsL_set _ _ _).symm
                have hEl : (E.set i (rowPut x k n)).length = 9:=by simp [hE]
                obtain ⟨E',hE'⟩ : ∃ E',E' = E.set i (rowPut x k n):=⟨_,rfl⟩
                rw [← hE'] at hset hEl
                refine wwp_cutG (fun σ=>WF σ∧σ.s 76 = .sl [77,w] 1 0 16 none∧σ.m [77,w] = some (.row [77,w] 3 (ints NS))∧σ.s 77 = iv 16∧σ.s 78 = iv j∧σ.s 7 = iv n∧σ.s 82 = iv i∧σ.s 8 = iv i∧σ.s 85 = iv k∧σ.s 9 = iv k∧σ.s 10 = .ptr [11,u] 0∧σ.m [11,u] = some (.box [iv 3,iv 3,iv 3,iv 1,iv 2,.sl [89,v] 5 0 9 none])∧σ.m [89,v] = some (.row [89,v,0] 53 (rowsL E'))) ?_ ?_
                · refine wwp_cutN1 1 W (fun σ=>σ.s 76 = .sl [77,w] 1 0 16 none∧σ.m [77,w] = some (.row [77,w] 3 (ints NS))∧σ.s 77 = iv 16∧σ.s 78 = iv j∧σ.s 7 = iv n∧σ.s 82 = iv i∧σ.s 8 = iv i∧σ.s 85 = iv k∧σ.s 9 = iv k∧σ.s 10 = .ptr [11,u] 0∧σ.m [11,u] = some (.box [iv 3,iv 3,iv 3,iv 1,iv 2,.sl [89,v] 5 0 9 none])∧σ.m [89,v] = some (.row [89,v,0] 53 (rowsL E))∧σ.s 93 = .rptr [89,v] 5 i 0∧σ.s 98 = .rptr [89,v] 5 i 1∧σ.s 103 = .rptr [89,v] 5 i 2∧σ.s 108 = .rptr [89,v] 5 i 3∧σ.s 113 = .rptr [89,v] 5 i 4∧σ.s 115 = iv k∧σ.s 118 = iv n) (by simp [z1,z2,z3,h78,h7,h82,h8,h85,h9,h10,mb,mr,hi9]) ?_
                  clear W z1 z2 z3 h78 h7 h82 h8 h85 h9 h10 mb mr σ
                  rintro σ W ⟨z1,z2,z3,h78,h7,h82,h8,h85,h9,h10,mb,mr,h93,h98,h103,h108,h113,h115,h118⟩
                  simp only [List.drop_succ_cons,List.drop_zero]
                  refine wwp_cutN1 1 W (fun σ=>σ.s 76 = .sl [77,w] 1 0 16 none∧σ.m [77,w] = some (.row [77,w] 3 (ints NS))∧σ.s 77 = iv 16∧σ.s 78 = iv j∧σ.s 7 = iv n∧σ.s 82 = iv i∧σ.s 8 = iv i∧σ.s 85 = iv k∧σ.s 9 = iv k∧σ.s 10 = .ptr [11,u] 0∧σ.m [11,u] = some (.box [iv 3,iv 3,iv 3,iv 1,iv 2,.sl [89,v] 5 0 9 none])∧σ.m [89,v] = some (.row [89,v,0] 53 (rowsL E))∧σ.s 115 = iv k∧σ.s 118 = iv n∧∃ y,σ.s 114 = .sl [115,y] 1 0 5 none∧σ.m [115,y] = some (.row [115,y] 51 [[.rptr [89,v] 5 i 0],[.rptr [89,v] 5 i 1],[.rptr [89,v] 5 i 2],[.rptr [89,v] 5 i 3],[.rptr [89,v] 5 i 4]])) (by simp [z1,z2,z3,h78,h7,h82,h8,h85,h9,h10,mb,mr,h93,h98,h103,h108,h113,h115,h118]) ?_
                  clear W z1 z2 z3 h78 h7 h82 h8 h85 h9 h10 mb mr h93 h98 h103 h108 h113 h115 h118 σ
                  rintro σ W ⟨z1,z2,z3,h78,h7,h82,h8,h85,h9,h10,mb,mr,h115,h118,y,h114,mp⟩
                  simp only [List.drop_succ_cons,List.drop_zero]
                  have hpk : ([[.rptr [89,v] 5 i 0],[.rptr [89,v] 5 i 1],[.rptr [89,v] 5 i 2],[.rptr [89,v] 5 i 3],[.rptr [89,v] 5 i 4]] : List (List D))[k]? = some [.rptr [89,v] 5 i k]:=by
                    match k,hk5 with
                    | 0,_=>rfl
                    | 1,_=>rfl
                    | 2,_=>rfl
                    | 3,_=>rfl
                    | 4,_=>rfl
                  obtain ⟨PL,hPL⟩ : ∃ PL : List (List D),PL = [[.rptr [89,v] 5 i 0],[.rptr [89,v] 5 i 1],[.rptr [89,v] 5 i 2],[.rptr [89,v] 5 i 3],[.rptr [89,v] 5 i 4]]:=⟨_,rfl⟩
                  rw [← hPL] at mp hpk
                  have hk5' : k + 1≤5:=by omega
                  have hxl : x.cells.length = 5:=rfl
                  refine wwp_cutN1 2 W (fun σ=>σ.s 76 = .sl [77,w] 1 0 16 none∧σ.m [77,w] = some (.row [77,w] 3 (ints NS))∧σ.s 77 = iv 16∧σ.s 78 = iv j∧σ.s 7 = iv n∧σ.s 82 = iv i∧σ.s 8 = iv i∧σ.s 85 = iv k∧σ.s 9 = iv k∧σ.s 10 = .ptr [11,u] 0∧σ.m [11,u] = some (.box [iv 3,iv 3,iv 3,iv 1,iv 2,.sl [89,v] 5 0 9 none])∧σ.m [89,v] = some (.row [89,v,0] 53 (rowsL E'))) (by simp [z1,z2,z3,h78,h7,h82,h8,h85,h9,h10,mb,mr,h114,h115,h118,mp,hpk,hk5,hEi,hk5',hxl,hpc,hset]) ?_
                  rintro σ W ⟨z1,z2,z3,h78,h7,h82,h8,h85,h9,h10,mb,mr⟩
                  simp only [List.drop_succ_cons,List.drop_zero,List.drop_nil]
                  simp [z1,z2,z3,h78,h7,h82,h8,h85,h9,h10,mb,mr]
                  exact W
                · clear W z1 z2 z3 h78 h7 h82 h8 h85 h9 h10 mb mr σ
                  rintro σ ⟨W,z1,z2,z3,h78,h7,h82,h8,h85,h9,h10,mb,mr⟩
                  have htk : (rowsL E').take 9 = rowsL E':=List.take_of_length_le (by simp [hEl])
                  have hl9 : 9≤(rowsL E').length:=by simp [hEl]
                  have e21:=h21 3 3 3 1 2 E' [(i : Int).tmod 3] n 1 n
                  simp [ints] at e21
                  simp [z1,z2,z3,h78,h7,h82,h8,h85,h9,h10,mb,mr,htk,hEl,e21]
              · clear W z1 z2 z3 h78 h7 h82 h8 h85 σ
                rintro σ ⟨z1,z2,z3,h78,h7,h82,h8,h85⟩
                simp [z1,z2,z3,h78,h7,h82,h8,h85,hw3]
                exact ⟨⟨k + 1,by omega,by simp⟩,by omega⟩
            · refine wwp_off ?_
              have hz3 : ¬ (k : Int) < 5:=by omega
              simp [z1,z2,z3,h78,h7,h82,h8,h85,hz3]
          · clear W z1 z2 z3 h78 h7 h82 σ
            rintro σ ⟨z1,z2,z3,h78,h7,h82⟩
            simp [z1,z2,z3,h78,h7,h82,hw2]
            exact ⟨⟨i + 1,by omega,by simp⟩,by omega⟩
        · refine wwp_off ?_
          have hz2 : ¬ (i : Int) < 9:=by omega
          simp [z1,z2,z3,h78,h7,h82,hz2]
          exact W.of rfl rfl
      · clear W z1 z2 z3 h78 h7 σ
        rintro σ ⟨W,z1,z2,z3,h78,h7⟩
        refine wwp_cutW W (fun σ=>σ.s 76 = .sl [77,w] 1 0 16 none∧σ.m [77,w] = some (.row [77,w] 3 (ints NS))∧σ.s 77 = iv 16∧σ.s 78 = iv j∧σ.s 7 = iv n∧σ.s 130 = iv 0) (by simp [z1,z2,z3,h78,h7]) ?_
        clear W z1 z2 z3 h78 h7 σ
        rintro σ W ⟨z1,z2,z3,h78,h7,h130⟩
        simp only [wwp_block]
        refine wwp_loop (fun σ=>∃ k : Nat,k≤5∧σ.s 76 = .sl [77,w] 1 0 16 none∧σ.m [77,w] = some (.row [77,w] 3 (ints NS))∧σ.s 77 = iv 16∧σ.s 78 = iv j∧σ.s 7 = iv n∧σ.s 130 = iv k) (fun σ=>cnt 5 (σ.s 130)) ⟨0,by omega,z1,z2,z3,h78,h7,h130⟩ ?_
        clear W z1 z2 z3 h78 h7 h130 σ
        rintro σ W ⟨k,hk,z1,z2,z3,h78,h7,h130⟩
        by_cases hk5 : k < 5
        · have hw3:=wrap_succ (show k≤1000000000 by omega)
          have hmu : cnt 5 (σ.s 130) = 5 - k:=by simp [h130]
          simp only [hmu]
          clear hmu
          have hz3 : (k : Int) < 5:=by omega
          refine wwp_on (fun σ=>WF σ∧σ.s 76 = .sl [77,w] 1 0 16 none∧σ.m [77,w] = some (.row [77,w] 3 (ints NS))∧σ.s 77 = iv 16∧σ.s 78 = iv j∧σ.s 7 = iv n∧σ.s 130 = iv k) (by simp [z1,z2,z3,h78,h7,h130,hz3,hk5]; exact W.of rfl rfl) ?_
          clear W z1 z2 z3 h78 h7 h130 σ
          rintro σ ⟨W,z1,z2,z3,h78,h7,h130⟩
          refine wwp_body (fun σ=>σ.s 76 = .sl [77,w] 1 0 16 none∧σ.m [77,w] = some (.row [77,w] 3 (ints NS))∧σ.s 77 = iv 16∧σ.s 78 = iv j∧σ.s 7 = iv n∧σ.s 130 = iv k) ?_ ?_
          · refine wwp_cutW W (fun σ=>σ.s 76 = .sl [77,w] 1 0 16 none∧σ.m [77,w] = some (.row [77,w] 3 (ints NS))∧σ.s 77 = iv 16∧σ.s 78 = iv j∧σ.s 7 = iv n∧σ.s 130 = iv k∧σ.s 11 = iv k) (by simp [z1,z2,z3,h78,h7,h130]) ?_
            clear W z1 z2 z3 h78 h7 h130 σ
            rintro σ W ⟨z1,z2,z3,h78,h7,h130,h11'⟩
            refine wwp_cutW W (fun σ=>σ.s 76 = .sl [77,w] 1 0 16 none∧σ.m [77,w] = some (.row [77,w] 3 (ints NS))∧σ.s 77 = iv 16∧σ.s 78 = iv j∧σ.s 7 = iv n∧σ.s 130 = iv k∧σ.s 11 = iv k∧∃ u v,σ.s 12 = .ptr [13,u] 0∧σ.m [13,u] = some (.box [iv 3,iv 3,iv 3,iv 1,iv 2,.sl [134,v] 5 0 9 none])∧σ.m [134,v] = some (.row [134,v,0] 53 (rowsL E))) (by simp [z1,z2,z3,h78,h7,h130,h11',h23,putAt]) ?_
            clear W z1 z2 z3 h78 h7 h130 h11' σ
            rintro σ W ⟨z1,z2,z3,h78,h7,h130,h11',u,v,h12,mb,mr⟩
            have hpc:=(mvPut_cells ⟨3,3,3,1,2,E⟩ (.sl [134,v] 5 0 9 none) k n hk5).1
            obtain ⟨a,ha⟩ : ∃ a,a = mvPut ⟨3,3,3,1,2,E⟩ k n:=⟨_,rfl⟩
            rw [← ha] at hpc
            refine wwp_cutG (fun σ=>WF σ∧σ.s 76 = .sl [77,w] 1 0 16 none∧σ.m [77,w] = some (.row [77,w] 3 (ints NS))∧σ.s 77 = iv 16∧σ.s 78 = iv j∧σ.s 7 = iv n∧σ.s 130 = iv k∧σ.s 12 = .ptr [13,u] 0∧σ.m [13,u] = some (.box [iv a.t,iv a.r,iv a.s,iv a.c,iv a.w,.sl [134,v] 5 0 9 none])∧σ.m [134,v] = some (.row [134,v,0] 53 (rowsL E))) ?_ ?_
            · refine wwp_cutN1 1 W (fun σ=>σ.s 76 = .sl [77,w] 1 0 16 none∧σ.m [77,w] = some (.row [77,w] 3 (ints NS))∧σ.s 77 = iv 16∧σ.s 78 = iv j∧σ.s 7 = iv n∧σ.s 130 = iv k∧σ.s 11 = iv k∧σ.s 12 = .ptr [13,u] 0∧σ.m [13,u] = some (.box [iv 3,iv 3,iv 3,iv 1,iv 2,.sl [134,v] 5 0 9 none])∧σ.m [134,v] = some (.row [134,v,0] 53 (rowsL E))∧σ.s 134 = .ptr [13,u] 0∧σ.s 135 = .ptr [13,u] 1∧σ.s 136 = .ptr [13,u] 2∧σ.s 137 = .ptr [13,u] 3∧σ.s 138 = .ptr [13,u] 4) (by simp [z1,z2,z3,h78,h7,h130,h11',h12,mb,mr]) ?_
              clear W z1 z2 z3 h78 h7 h130 h11' h12 mb mr σ
              rintro σ W ⟨z1,z2,z3,h78,h7,h130,h11',h12,mb,mr,h134,h135,h136,h137,h138⟩
              simp only [List.drop_succ_cons,List.drop_zero]
              refine wwp_cutN1 1 W (fun σ=>σ.s 76 = .sl [77,w] 1 0 16 none∧σ.m [77,w] = some (.row [77,w] 3 (ints NS))∧σ.s 77 = iv 16∧σ.s 78 = iv j∧σ.s 7 = iv n∧σ.s 130 = iv k∧σ.s 11 = iv k∧σ.s 12 = .ptr [13,u] 0∧σ.m [13,u] = some (.box [iv 3,iv 3,iv 3,iv 1,iv 2,.sl [134,v] 5 0 9 none])∧σ.m [134,v] = some (.row [134,v,0] 53 (rowsL E))∧∃ y,σ.s 139 = .sl [140,y] 1 0 5 none∧σ.m [140,y] = some (.row [140,y] 51 [[.ptr [13,u] 0],[.ptr [13,u] 1],[.ptr [13,u] 2],[.ptr [13,u] 3],[.ptr [13,u] 4]])) (by simp [z1,z2,z3,h78,h7,h130,h11',h12,mb,mr,h134,h135,h136,h137,h138]) ?_
              clear W z1 z2 z3 h78 h7 h130 h11' h12 mb mr h134 h135 h136 h137 h138 σ
              rintro σ W ⟨z1,z2,z3,h78,h7,h130,h11',h12,mb,mr,y,h139,mp⟩
              simp only [List.drop_succ_cons,List.drop_zero]
              have hpk : ([[.ptr [13,u] 0],[.ptr [13,u] 1],[.ptr [13,u] 2],[.ptr [13,u] 3],[.ptr [13,u] 4]] : List (List D))[k]? = some [.ptr [13,u] k]:=by
                match k,hk5 with
                | 0,_=>rfl
                | 1,_=>rfl
                | 2,_=>rfl
                | 3,_=>rfl
                | 4,_=>rfl
              obtain ⟨PL,hPL⟩ : ∃ PL : List (List D),PL = [[.ptr [13,u] 0],[.ptr [13,u] 1],[.ptr [13,u] 2],[.ptr [13,u] 3],[.ptr [13,u] 4]]:=⟨_,rfl⟩
              rw [← hPL] at mp hpk
              have hk6 : k + 1≤6:=by omega
              refine wwp_cutN1 2 W (fun σ=>σ.s 76 = .sl [77,w] 1 0 16 none∧σ.m [77,w] = some (.row [77,w] 3 (ints NS))∧σ.s 77 = iv 16∧σ.s 78 = iv j∧σ.s 7 = iv n∧σ.s 130 = iv k∧σ.s 12 = .ptr [13,u] 0∧σ.m [13,u] = some (.box [iv a.t,iv a.r,iv a.s,iv a.c,iv a.w,.sl [134,v] 5 0 9 none])∧σ.m [134,v] = some (.row [134,v,0] 53 (rowsL E))) (by simp [z1,z2,z3,h78,h7,h130,h11',h12,mb,mr,h139,mp,hpk,hk5,hk6,hpc]) ?_
              rintro σ W ⟨z1,z2,z3,h78,h7,h130,h12,mb,mr⟩
              simp only [List.drop_succ_cons,List.drop_zero,List.drop_nil]
              simp [z1,z2,z3,h78,h7,h130,h12,mb,mr]
              exact W
            · clear W z1 z2 z3 h78 h7 h130 h11' h12 mb mr σ
              rintro σ ⟨W,z1,z2,z3,h78,h7,h130,h12,mb,mr⟩
              have htk : (rowsL E).take 9 = rowsL E:=List.take_of_length_le (by simp [hE])
              refine wwp_cutN 5 W (fun σ=>σ.s 76 = .sl [77,w] 1 0 16 none∧σ.m [77,w] = some (.row [77,w] 3 (ints NS))∧σ.s 77 = iv 16∧σ.s 78 = iv j∧σ.s 7 = iv n∧σ.s 130 = iv k∧σ.s 12 = .ptr [13,u] 0∧σ.m [13,u] = some (.box [iv a.t,iv a.r,iv a.s,iv a.c,iv a.w,.sl [134,v] 5 0 9 none])∧σ.m [134,v] = some (.row [134,v,0] 53 (rowsL E))∧σ.s 149 = bv true) ?_ ?_
              · have e21:=h21 a.t a.r a.s a.c a.w E [1,2] n n 2
                simp [ints] at e21
                simp [z1,z2,z3,h78,h7,h130,h12,mb,mr,htk,hE,e21]
              clear W z1 z2 z3 h78 h7 h130 h12 mb mr σ
              rintro σ W ⟨z1,z2,z3,h78,h7,h130,h12,mb,mr,h149⟩
              simp only [List.drop_succ_cons,List.drop_zero]
              refine wwp_cutN 7 W (fun σ=>σ.s 76 = .sl [77,w] 1 0 16 none∧σ.m [77,w] = some (.row [77,w] 3 (ints NS))∧σ.s 77 = iv 16∧σ.s 78 = iv j∧σ.s 7 = iv n∧σ.s 130 = iv k∧σ.m [134,v] = some (.row [134,v,0] 53 (rowsL E))∧σ.s 151 = bv false∧σ.s 152 = .agg [iv a.t,iv a.r,iv a.s,iv a.c,iv a.w,.sl [134,v] 5 0 9 none]∧∃ p q r,σ.s 156 = .sl [157,p] 1 0 3 none∧σ.m [157,p] = some (.row [157,p] 34 [[.sl [154,q] 1 0 1 none],[.sl [156,r] 1 0 1 none],[.nil]])∧σ.m [154,q] = some (.row [154,q] 3 (ints [1]))∧σ.m [156,r] = some (.row [156,r] 3 (ints [n]))) (by simp [z1,z2,z3,h78,h7,h130,h12,mb,mr,h149,ints]; exact ⟨σ.c 153,σ.c 155,⟨rfl,rfl⟩,by simp,by simp⟩) ?_
              clear W z1 z2 z3 h78 h7 h130 h12 mb mr h149 σ
              rintro σ W ⟨z1,z2,z3,h78,h7,h130,mr,h151,h152,p,q,r,h156,mp,mq,mr2⟩
              simp only [List.drop_succ_cons,List.drop_zero]
              have hv:=view_hdl (M:=σ.m) [.sl [154,q] 1 0 1 none,.sl [156,r] 1 0 1 none,.nil] [[1],[n],[]] rfl fun i d L h1 h2=>by
                match i,h1,h2 with
                | 0,h1,h2=>cases h1; cases h2; simp [mq,show (ints [1]).take 1 = ints [1] from rfl]
                | 1,h1,h2=>cases h1; cases h2; simp [mr2,show (ints [n]).take 1 = ints [n] from rfl]
                | 2,h1,h2=>cases h1; cases h2; simp
                | _ + 3,h1,h2=>simp at h1
              simp only [List.map_cons,List.map_nil] at hv
              refine wwp_cutN 1 W (fun σ=>σ.s 76 = .sl [77,w] 1 0 16 none∧σ.m [77,w] = some (.row [77,w] 3 (ints NS))∧σ.s 77 = iv 16∧σ.s 78 = iv j∧σ.s 7 = iv n∧σ.s 130 = iv k∧σ.s 151 = bv false∧σ.s 157 = bv true) (by simp [z1,z2,z3,h78,h7,h130,mr,h151,h152,h156,mp,htk,hE,hv,h11]) ?_
              clear W z1 z2 z3 h78 h7 h130 mr h151 h152 h156 mp mq mr2 hv σ
              rintro σ W ⟨z1,z2,z3,h78,h7,h130,h151,h157⟩
              simp only [List.drop_succ_cons,List.drop_zero]
              simp [z1,z2,z3,h78,h7,h130,h151,h157]
          · clear W z1 z2 z3 h78 h7 h130 σ
            rintro σ ⟨z1,z2,z3,h78,h7,h130⟩
            simp [z1,z2,z3,h78,h7,h130,hw3]
            exact ⟨⟨k + 1,by omega,by simp⟩,by omega⟩
        · refine wwp_off ?_
          have hz3 : ¬ (k : Int) < 5:=by omega
          simp [z1,z2,z3,h78,h7,h130,hz3]
    · clear W z1 z2 z3 h78 σ
      rintro σ ⟨z1,z2,z3,h78⟩
      simp [z1,z2,z3,h78,hw1]
      exact ⟨⟨j + 1,by omega,by simp⟩,by omega⟩
  · refine wwp_off ?_
    have hz : ¬ (j : Int) < 16:=by omega
    simp [z1,z2,z3,h78,hz]
    exact W.of rfl rfl
end Go.Proofs.Ytpmgaaalfdjikaa
namespace Go.Proofs.Ytpmgaaalfdjikaa
open Go.RowKit
set_option linter.unusedSimpArgs false
set_option linter.unusedVariables false
def HvP (hs : List D) (M : Mem) : Prop:=∀ d ∈ hs,d = .nil ∨ ∃ a u L,d = .sl [a,u] 1 0 L.length none∧195 < a∧a < 200∧M [a,u] = some (.row [a,u] 3 (ints L))
theorem HvP.lists {hs : List D} {M : Mem} (h : HvP hs M) : ∃ Ls,viewRows (viewC M 5) (hs.map fun d=>[d]) = some (lists Ls):=by
  have : ∃ Ls : List (List Int),hs.length = Ls.length∧∀ (i : Nat) (d : D) (L : List Int),hs[i]? = some d→Ls[i]? = some L→viewC M 5 d = some (.list (ints L)):=by
    induction hs with
    | nil=>exact ⟨[],rfl,fun i d L h=>by simp at h⟩
    | cons d hs ih=>
      obtain ⟨Ls,h1,h2⟩:=ih fun d hd=>h d (List.mem_cons_of_mem _ hd)
      obtain ⟨L,hL⟩ : ∃ L : List Int,viewC M 5 d = some (.list (ints L)):=by
        rcases h d List.mem_cons_self with rfl | ⟨a,u,L,rfl,_,_,hm⟩
        · exact ⟨[],rfl⟩
        · exact ⟨L,by simp [hm]⟩
      refine ⟨L :: Ls,by simp [h1],fun i d' L' g1 g2=>?_⟩
      cases i with
      | zero=>cases g1; cases g2; exact hL
      | succ i=>exact h2 i d' L' (by simpa using g1) (by simpa using g2)
  obtain ⟨Ls,h1,h2⟩:=this
  exact ⟨Ls,view_hdl hs Ls h1 h2⟩
theorem HvP.mono {hs : List D} {M M' : Mem} (h : HvP hs M) (hM : ∀ a u o,195 < a→a < 200→M [a,u] = some o→o.grp = some [a,u]→M' [a,u] = some o) : HvP hs M':=fun d hd=>by
  rcases h d hd with h | ⟨a,u,L,h1,h2,h3,h4⟩
  · exact .inl h
  · exact .inr ⟨a,u,L,h1,h2,h3,hM a u _ h2 h3 h4 rfl⟩
theorem HvP.snoc {hs : List D} {d : D} {M : Mem} (h : HvP hs M) (h2 : HvP [d] M) : HvP (hs ++ [d]) M:=fun x hx=>by
  rcases List.mem_append.1 hx with hx | hx
  · exact h x hx
  · exact h2 x hx
theorem HvP.one {d : D} {M : Mem} (h : HvP [d] M) : d.okC = true∧d.cells = [d]∧d.isDef = true:=by
  rcases h d (by simp) with rfl | ⟨a,u,L,rfl,_⟩ <;> exact ⟨rfl,rfl,rfl⟩
theorem c7c (p21 p11 p12 : FP) (q22 q23 : FQ) (ps : List (Nat × FP)) (qs : List (Nat × FQ)) (E : List Row) (hE : E.length = 9)
    (h21 : ∀ (a b c d e : Int) (rs : List Row) (L : List Int) (n p q : Int),p21 [.agg [iv a,iv b,iv c,iv d,iv e,.list (rowsL rs)],.list (ints L),iv n,iv p,iv q] = some (bv true))
    (h11 : ∀ (a b c d e : Int) (rs : List Row) (Ls : List (List Int)),p11 [.agg [iv a,iv b,iv c,iv d,iv e,.list (rowsL rs)],.list (lists Ls)] = some (bv true))
    (h12 : p12 [] = some (bv true)) (h23 : q23 [] = some (.agg [iv 3,iv 3,iv 3,iv 1,iv 2,.sl [] 5 0 9 none],rowMem 53 (rowsL E)))
    {σ : St} (W : WF σ) :
    wwp (mkEnv ((21,p21) :: (11,p11) :: (12,p12) :: ps) ((22,q22) :: (23,q23) :: qs) []) W7c (fun e s=>okExit e∧resV [.t 0] s = some (bv true)) σ:=by
  simp only [W7c]
  have htE : (rowsL E).take 9 = rowsL E:=List.take_of_length_le (by simp [hE])
  refine wwp_cutW W (fun σ=>∃ u v,σ.s 13 = .ptr [14,u] 0∧σ.m [14,u] = some (.box [iv 3,iv 3,iv 3,iv 1,iv 2,.sl [163,v] 5 0 9 none])∧σ.m [163,v] = some (.row [163,v,0] 53 (rowsL E))) (by simp [h23,putAt]) ?_
  clear W σ
  rintro σ W ⟨u,v,h13,mb,mr⟩
  have hx : rowsL (E ++ [⟨2,2,0,0,0⟩]) = rowsL E ++ [[iv 2,iv 2,iv 0,iv 0,iv 0]]:=by rw [rowsL_append]; rfl
  have n1:=W.ne mr 166 (σ.c 166) []
  have hmx : 10≤maxMade:=maxMade_le (by omega)
  refine wwp_cutW W (fun σ=>∃ u v w,σ.s 13 = .ptr [14,u] 0∧σ.m [14,u] = some (.box [iv 3,iv 3,iv 3,iv 1,iv 2,.sl [168,v] 5 0 10 none])∧σ.m [168,v] = some (.row w 53 (rowsL (E ++ [⟨2,2,0,0,0⟩])))) ?_ ?_
  · rw [hx]
    obtain ⟨X,hX⟩ : ∃ X,X = rowsL E:=⟨_,rfl⟩
    have hXl : X.length = 9:=by rw [hX]; simp [hE]
    rw [← hX] at mr htE ⊢
    simp [h13,mb,mr,n1,hXl,htE,hmx,one_made,putAt]
  clear W h13 mb mr n1 u v σ
  rintro σ W ⟨u,v,w,h13,mb,mr⟩
  refine wwp_cutW W (fun σ=>∃ t,σ.s 13 = .ptr [14,u] 0∧σ.m [14,u] = some (.box [iv 3,iv 3,iv 3,iv 1,iv 2,.sl [168,v] 5 0 10 none])∧σ.m [168,v] = some (.row w 53 (rowsL (E ++ [⟨2,2,0,0,0⟩])))∧σ.s 14 = .ptr [15,t] 0∧σ.m [15,t] = some (.box [iv 24,iv 47,iv 0,iv 0,iv 0,.nil])) (by simp [h13,mb,mr,putAt]) ?_
  clear W h13 mb mr σ
  rintro σ W ⟨t,h13,mb,mr,h14,mt⟩
  have htX : (rowsL (E ++ [⟨2,2,0,0,0⟩])).take 10 = rowsL (E ++ [⟨2,2,0,0,0⟩]):=List.take_of_length_le (by simp [hE])
  have hlX : (rowsL (E ++ [⟨2,2,0,0,0⟩])).length = 10:=by simp [hE]
  refine wwp_cutG (fun σ=>WF σ) ?_ ?_
  · refine wwp_cutN 4 W (fun σ=>σ.s 14 = .ptr [15,t] 0∧σ.m [15,t] = some (.box [iv 24,iv 47,iv 0,iv 0,iv 0,.nil])∧σ.s 173 = bv false) ?_ ?_
    · have e21:=h21 3 3 3 1 2 (E ++ [⟨2,2,0,0,0⟩]) [] 0 1 2
      obtain ⟨X,hX⟩ : ∃ X,X = E ++ [⟨2,2,0,0,0⟩]:=⟨_,rfl⟩
      rw [← hX] at mr htX hlX e21
      have hXl : X.length = 10:=by simpa using hlX
      simp at e21
      simp [h13,mb,mr,h14,mt,htX,hXl,e21]
    clear W h13 mb mr h14 mt σ
    rintro σ W ⟨h14,mt,h173⟩
    simp only [List.drop_succ_cons,List.drop_zero]
    refine wwp_cutN 6 W (fun σ=>σ.s 14 = .ptr [15,t] 0∧σ.m [15,t] = some (.box [iv 24,iv 47,iv 0,iv 0,iv 0,.nil])∧σ.s 179 = bv false) ?_ ?_
    · have e21:=h21 24 47 0 0 0 [] [46] 47 1 2
      simp [ints] at e21
      simp [h14,mt,h173,e21]
    clear W h14 mt h173 σ
    rintro σ W ⟨h14,mt,h179⟩
    simp only [List.drop_succ_cons,List.drop_zero]
    refine wwp_cutN 6 W (fun σ=>σ.s 185 = bv false) ?_ ?_
    · have e21:=h21 24 47 0 0 0 [] [47] 48 0 0
      simp [ints] at e21
      simp [h14,mt,h179,e21]
    clear W h14 mt h179 σ
    rintro σ W h185
    simp only [List.drop_succ_cons,List.drop_zero]
    refine wwp_cutW W (fun σ=>σ.s 189 = bv false) ?_ ?_
    · have e11:=h11 3 3 3 1 2 E []
      simp at e11
      simp [h185,h23,htE,hE,e11]
    clear W h185 σ
    rintro σ W h189
    simp [h189]
    exact W
  clear W h13 mb mr h14 mt σ
  intro σ W
  refine wwp_cutW W (fun σ=>σ.s 15 = .nil) (by simp) ?_
  clear W σ
  rintro σ W h15
  refine wwp_cutG (fun σ=>WF σ) ?_ fun σ W=>by simp [h12]
  refine wwp_cutW W (fun σ=>σ.s 15 = .nil∧σ.s 16 = iv 0) (by simp [h15]) ?_
  clear W h15 σ
  rintro σ W ⟨h15,h16⟩
  simp only [wwp_block]
  refine wwp_loop (fun σ=>∃ k : Nat,k≤66∧(∃ hs,hs.length = k∧HvP hs σ.m∧((k = 0∧σ.s 15 = .nil) ∨ (0 < k∧∃ y,σ.s 15 = .sl [206,y] 1 0 k none∧∃ w,σ.m [206,y] = some (.row [206,w] 34 (hs.map fun d=>[d])))))∧σ.s 16 = iv k) (fun σ=>cnt 66 (σ.s 16)) ⟨0,by omega,⟨[],rfl,fun d hd=>by simp at hd,.inl ⟨rfl,h15⟩⟩,h16⟩ ?_
  clear W h15 h16 σ
  rintro σ W ⟨k,hk,⟨hs,hsl,hv,h15⟩,h16⟩
  refine wwp_seq_assoc ?_
  by_cases hk66 : k < 66
  · have hw1:=wrap_succ (show k≤1000000000 by omega)
    have hmu : cnt 66 (σ.s 16) = 66 - k:=by simp [h16]
    simp only [hmu]
    clear hmu
    have hz : (k : Int) < 66:=by omega
    refine wwp_on (fun σ=>WF σ∧HvP hs σ.m∧((k = 0∧σ.s 15 = .nil) ∨ (0 < k∧∃ y,σ.s 15 = .sl [206,y] 1 0 k none∧∃ w,σ.m [206,y] = some (.row [206,w] 34 (hs.map fun d=>[d]))))∧σ.s 16 = iv k) (by simp [h16,hz]; exact ⟨W.of rfl rfl,hv,by simpa using h15⟩) ?_
    clear W hv h15 h16 σ
    rintro σ ⟨W,hv,h15,h16⟩
    refine wwp_body (fun σ=>(∃ hs,hs.length = k + 1∧HvP hs σ.m∧∃ y,σ.s 15 = .sl [206,y] 1 0 (k + 1) none∧∃ w,σ.m [206,y] = some (.row [206,w] 34 (hs.map fun d=>[d])))∧σ.s 16 = iv k) ?_ ?_
    · obtain ⟨P15,hP15⟩ : ∃ P15 : St→Prop,P15 = fun σ=>((k = 0∧σ.s 15 = .nil) ∨ (0 < k∧∃ y,σ.s 15 = .sl [206,y] 1 0 k none∧∃ w,σ.m [206,y] = some (.row [206,w] 34 (hs.map fun d=>[d])))):=⟨_,rfl⟩
      refine wwp_cutN 6 W (fun σ=>HvP hs σ.m∧((k = 0∧σ.s 194 = .nil) ∨ (0 < k∧∃ y,σ.s 194 = .sl [206,y] 1 0 k none∧∃ w,σ.m [206,y] = some (.row [206,w] 34 (hs.map fun d=>[d]))))∧σ.s 16 = iv k∧∃ q hs5,hs5.length = 5∧HvP hs5 σ.m∧σ.s 199 = .sl [200,q] 1 0 5 none∧σ.m [200,q] = some (.row [200,q] 34 (hs5.map fun d=>[d]))) ?_ ?_
      · simp [h16]
        refine ⟨hv.mono fun a u o h1 h2 h3 h4=>?_,?_,σ.c 199,[.nil,.sl [196,σ.c 195] 1 0 1 none,.sl [197,σ.c 196] 1 0 1 none,.sl [198,σ.c 197] 1 0 1 none,.sl [199,σ.c 198] 1 0 3 none],rfl,fun d hd=>?_,rfl,by simp⟩
        · have a1 : ¬ (a = 196∧u = σ.c 195):=by have:=W.ne h3 195 (σ.c 195) []; simpa using this
          have a2 : ¬ (a = 197∧u = σ.c 196):=by have:=W.ne h3 196 (σ.c 196) []; simpa using this
          have a3 : ¬ (a = 198∧u = σ.c 197):=by have:=W.ne h3 197 (σ.c 197) []; simpa using this
          have a4 : ¬ (a = 199∧u = σ.c 198):=by have:=W.ne h3 198 (σ.c 198) []; simpa using this
          have a5 : ¬ (a = 200∧u = σ.c 199):=by have:=W.ne h3 199 (σ.c 199) []; simpa using this
          simp [a1,a2,a3,a4,a5,h3]
        · rcases h15 with ⟨h0,h⟩ | ⟨h0,y,h,w,my⟩
          · exact .inl ⟨h0,h⟩
          · exact .inr ⟨h0,y,h,w,by simpa using my⟩
        · simp only [List.mem_cons,List.not_mem_nil,or_false] at hd
          rcases hd with rfl | rfl | rfl | rfl | rfl
          · exact .inl rfl
          · exact .inr ⟨196,σ.c 195,[0],rfl,by omega,by omega,by simp [ints]⟩
          · exact .inr ⟨197,σ.c 196,[1],rfl,by omega,by omega,by simp [ints]⟩
          · exact .inr ⟨198,σ.c 197,[2],rfl,by omega,by omega,by simp [ints]⟩
          · exact .inr ⟨199,σ.c 198,[0,1,2],rfl,by omega,by omega,by simp [ints]⟩
      clear W hv h15 h16 hP15 P15 σ
      rintro σ W ⟨hv,h194,h16,q,hs5,hl5,hv5,h199,m5⟩
      simp only [List.drop_succ_cons,List.drop_zero]
      have hm5 : (k : Int).tmod 5 = ((k % 5 : Nat) : Int):=by rw [Int.tmod_eq_emod_of_nonneg (by omega)]; omega
      obtain ⟨r,hr⟩ : ∃ r,r = k % 5:=⟨_,rfl⟩
      have hr5 : r < 5:=by omega
      rw [← hr] at hm5
      have hat : (hs5.map fun d=>[d])[r]? = some [hs5[r]]:=by simp [hl5,hr5]
      have hvr : HvP [hs5[r]] σ.m:=fun d hd=>by
        simp only [List.mem_singleton] at hd
        subst hd
        exact hv5 _ (List.getElem_mem _)
      obtain ⟨d,hd⟩ : ∃ d,d = hs5[r]:=⟨_,rfl⟩
      obtain ⟨H5,hH5⟩ : ∃ H5,H5 = hs5.map fun d=>[d]:=⟨_,rfl⟩
      rw [← hd,← hH5] at hat
      rw [← hd] at hvr
      rw [← hH5] at m5
      obtain ⟨d1,d2,d3⟩:=hvr.one
      refine wwp_cutN 1 W (fun σ=>HvP (hs ++ [d]) σ.m∧((k = 0∧σ.s 194 = .nil) ∨ (0 < k∧∃ y,σ.s 194 = .sl [206,y] 1 0 k none∧∃ w,σ.m [206,y] = some (.row [206,w] 34 (hs.map fun d=>[d]))))∧σ.s 16 = iv k∧σ.s 203 = d) ?_ ?_
      · simp [h16,hm5,h199,m5,hr5,hat]
        exact ⟨hv.snoc hvr,by simpa using h194⟩
      clear W hv h194 h16 hv5 h199 m5 hat hvr hH5 H5 hd σ
      rintro σ W ⟨hv,h194,h16,h203⟩
      simp only [List.drop_succ_cons,List.drop_zero]
      refine wwp_cutG (fun σ=>WF σ∧HvP (hs ++ [d]) σ.m∧(∃ y,σ.s 15 = .sl [206,y] 1 0 (k + 1) none∧∃ w,σ.m [206,y] = some (.row [206,w] 34 ((hs ++ [d]).map fun d=>[d])))∧σ.s 16 = iv k) ?_ ?_
      · refine wwp_cutN1 3 W (fun σ=>HvP (hs ++ [d]) σ.m∧(∃ y,σ.s 15 = .sl [206,y] 1 0 (k + 1) none∧∃ w,σ.m [206,y] = some (.row [206,w] 34 ((hs ++ [d]).map fun d=>[d])))∧σ.s 16 = iv k) ?_ ?_
        · have hmx : k + 1≤maxMade:=maxMade_le (by omega)
          rcases h194 with ⟨h0,h⟩ | ⟨h0,y,h,w,my⟩
          · have hs0 : hs = []:=List.eq_nil_of_length_eq_zero (by omega)
            subst h0 hs0
            simp [h16,h203,h,d1,d2,one_made]
            exact hv.mono fun a u o h1 h2 h3 h4=>by
              have a1:=W.ne h3 204 (σ.c 204) []
              have n1 : ¬ a = 205:=by omega
              have n2 : ¬ a = 206:=by omega
              simp [n1,n2,h3]
          · have hml : (hs.map fun d=>[d]).length = k:=by simp [hsl]
            have hsf : (∃ c,c ∈ (hs.map fun d=>[d])∧¬ c.length = 1) = False:=by simp
            rw [List.map_append]
            obtain ⟨X,hX⟩ : ∃ X,X = hs.map fun d=>[d]:=⟨_,rfl⟩
            rw [← hX] at my hml ⊢
            have htx : X.take k = X:=List.take_of_length_le (by omega)
            have n3 : ∀ u,¬ [206,y] = [205,u]:=fun u=>by simp
            simp [h16,h203,h,d1,d2,my,hml,htx,hmx,one_made]
            exact hv.mono fun a u o h1 h2 h3 h4=>by
              have n1 : ¬ a = 205:=by omega
              have n2 : ¬ a = 206:=by omega
              have:=struck_grp (g:=[206,w]) (n:=k) (o:=o) (by rw [h4]; intro e; simp at e; omega)
              simp [n1,n2,h3,this]
        rintro σ W ⟨hv,h15,h16⟩
        simp only [List.drop_succ_cons,List.drop_zero,List.drop_nil]
        simp [h16]
        exact ⟨W,hv,by simpa using h15⟩
      clear W hv h194 h16 h203 σ
      rintro σ ⟨W,hv,⟨y,h15,w,my⟩,h16⟩
      obtain ⟨Ls,hLs⟩:=hv.lists
      have hml : ((hs ++ [d]).map fun d=>[d]).length = k + 1:=by simp [hsl]
      have hhl : (hs ++ [d]).length = k + 1:=by simp [hsl]
      obtain ⟨G,hG⟩ : ∃ G,G = hs ++ [d]:=⟨_,rfl⟩
      rw [← hG] at hv my hLs hml hhl
      have hsz : (∃ c,c ∈ (G.map fun d=>[d])∧¬ c.length = 1) = False:=by simp
      have hfa : (∀ c,c ∈ (G.map fun d=>[d])→c.length = 1) = True:=by simp
      obtain ⟨X,hX⟩ : ∃ X,X = G.map fun d=>[d]:=⟨_,rfl⟩
      rw [← hX] at my hLs hml hsz hfa
      have htx : X.take (k + 1) = X:=List.take_of_length_le (by omega)
      refine wwp_cutW W (fun σ=>HvP G σ.m∧σ.s 15 = .sl [206,y] 1 0 (k + 1) none∧σ.m [206,y] = some (.row [206,w] 34 X)∧σ.s 16 = iv k∧σ.s 213 = bv false) ?_ ?_
      · by_cases h61 : 61 < k
        · have hz1 : (61 : Int) < k:=by omega
          refine runK_take 2 (fun σ=>HvP G σ.m∧σ.s 15 = .sl [206,y] 1 0 (k + 1) none∧σ.m [206,y] = some (.row [206,w] 34 X)∧σ.s 16 = iv k∧σ.s 208 = bv true∧∃ z,σ.s 209 = .agg [iv 3,iv 3,iv 3,iv 1,iv 2,.sl [210,z] 5 0 9 none]∧σ.m [210,z] = some (.row [210,z,0] 53 (rowsL E))) ?_ ?_
          · simp [h15,my,h16,hz1,h23]
            exact hv.mono fun a u o h1 h2 h3 h4=>by
              have n1 : ¬ a = 210:=by omega
              simp [n1,h3]
          clear W hv h15 my h16 hLs σ
          rintro σ ⟨hv,h15,my,h16,h208,z,h209,mz⟩
          obtain ⟨Ls,hLs⟩:=hv.lists
          rw [← hX] at hLs
          have e11:=h11 3 3 3 1 2 E Ls
          simp only [List.drop_succ_cons,List.drop_zero]
          simp [h208,h209,mz,h15,my,h16,htE,hE,hfa,hsz,htx,hLs,hml,e11]
          exact hv
        · have hz1 : ¬ (61 : Int) < k:=by omega
          simp [h15,my,h16,hz1]
          exact hv
      clear W hv h15 my h16 hLs σ
      rintro σ W ⟨hv,h15,my,h16,h213⟩
      simp [h15,h16,h213]
      exact ⟨G,hhl,hv,w,by rw [my,hX]⟩
    · clear W hv h15 h16 σ
      rintro σ ⟨⟨hs,hsl,hv,y,h15,w,my⟩,h16⟩
      simp [h16,hw1]
      exact ⟨⟨k + 1,by omega,⟨hs,hsl,hv,.inr ⟨by omega,y,h15,w,my⟩⟩,by simp⟩,by omega⟩
  · refine wwp_off ?_
    have hz : ¬ (k : Int) < 66:=by omega
    simp [h16,hz]
    exact W.of rfl rfl
end Go.Proofs.Ytpmgaaalfdjikaa
namespace Go.Proofs.Ytpmgaaalfdjikaa
open Go.RowKit Go.ChangeShapes Go.WideShapes Go.ChangeAt
set_option linter.unusedSimpArgs false
set_option linter.unusedVariables false
theorem S22_at (T : Nat) (h1 : 2≤T) (h2 : T≤5) : S22 [iv T,iv T] = some (.agg [iv T,iv T,iv T,iv 1,iv 2,.sl [] 5 0 (T * T) none],rowMem 53 (rowsL (mitM T T).rows)):=by
  simp only [S22]
  rw [if_pos (by omega)]
  simp [mitM,Mv.cellsW]
theorem mitL (T : Nat) : (mitM T T).rows.length = T * T:=by simp [mitM,part_len]
theorem c7 : VCp Try.prog 7 [] (bv true):=by
  refine wcontract_p (Γ:=mkEnv [(21,S21),(11,S11),(12,S12)] [(22,S22),(23,S23)] []) (sound_mk (by simp [s21,s11,s12]) (by simp [s22,s23]) (by simp)) mixed is7 (by rw [nt7]; simp) ?_ rfl
  have h21 : ∀ (a b c d e : Int) (rs : List Row) (L : List Int) (n p q : Int),S21 [.agg [iv a,iv b,iv c,iv d,iv e,.list (rowsL rs)],.list (ints L),iv n,iv p,iv q] = some (bv true):=
    fun a b c d e rs L n p q=>S21_at ⟨a,b,c,d,e,rs⟩ L n p q
  have h11 : ∀ (a b c d e : Int) (rs : List Row) (Ls : List (List Int)),S11 [.agg [iv a,iv b,iv c,iv d,iv e,.list (rowsL rs)],.list (lists Ls)] = some (bv true):=
    fun a b c d e rs Ls=>S11_at ⟨a,b,c,d,e,rs⟩ Ls
  simp only [W7]
  refine wwp_cutW (wf_init _) (fun σ=>True) (by simp) fun σ W _=>?_
  exact c7a S21 S11 S22 [(12,S12)] [(23,S23)] (fun T=>(mitM T T).rows) mitL h21 h11 S22_at W fun σ W=>
    c7b S21 S11 S22 S23 [(12,S12)] [] exRows exRows_len h21 h11 rfl W fun σ W=>
      c7c S21 S11 S12 S22 S23 [] [] exRows exRows_len h21 h11 rfl rfl W
theorem small_args (Ds : List D) (h : ArgsTy Try.prog 4 Try.f7.params.toList Ds) : VCp Try.prog 7 Ds (bv true):=by
  obtain rfl:=argsTy_nil h
  exact c7
theorem small_spec {H : Type} (ds : List (DataW H)) (hl : ds.length = Try.f7.params.size) : Rows.turnSmallSpec.fn H ds = { results:=[.lit (.bool true)],args:=ds }:=by
  match ds,hl with
  | [],_=>rfl
theorem small_tys : ∀ t ∈ Try.f7.params.toList,TyOK t:=by
  intro t h
  cases h
set_option maxRecDepth 100000 in
theorem small_lifted (os : Os) (started : os.Started) (H : Type) (enc : TypeId × Value→H) :
    ReturnsInHanded {} Try.checked os 7 .any (Rows.turnSmallSpec.pre6 enc Try.prog Try.f7 Rows.turnSmallRow.domain false) (Rows.turnSmallSpec.post enc Try.prog Try.f7 false true false false):=by
  refine returnsInHanded_of_change (C:=Try.checked) own started (by kernel_rfl) Try.func7
    (ChangeSpec.witness6 (enc:=enc) (C:=Try.checked) false ⟨#[],#[],[]⟩ 8 (by kernel_rfl) (by kernel_rfl) (by kernel_rfl) (by kernel_rfl)) ?_
  intro W base args ds gs before hval hW _ _
  exact law_contract (P:=Try.prog) (fn:=Try.f7) (s:=Rows.turnSmallSpec) (n:=4) (tb:=4) laidOut rfl small_spec (by kernel_rfl) Try.underlying4 small_tys small_args W base args ds gs before hval hW
theorem turnSmall_holds : Rows.TurnSmallSaid:=
  OpenClaim.holds_of_wide 7 Try.f7 rfl rfl rfl rfl rfl rfl rfl ⟨rfl,rfl,rfl,rfl,rfl⟩ rfl rfl rfl rfl rfl (by kernel_rfl) Try.func7 (by kernel_rfl)
    (of_decide_eq_true (by kernel_rfl)) (by unfold Func.isWrapper; first | (rw [if_pos (by decide +kernel)]; kernel_rfl) | (rw [if_neg (by decide +kernel)]; exact ⟨rfl,rfl⟩))
    (fun os started H enc _=>small_lifted os started H enc)
end Go.Proofs.Ytpmgaaalfdjikaa
