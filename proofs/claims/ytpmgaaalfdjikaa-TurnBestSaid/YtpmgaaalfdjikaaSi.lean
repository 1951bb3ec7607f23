/- TurnSums: for every sketch and every number the law returns true, and its arguments read as before. No condition. -/
import Derived.Test.YtpmgaaalfdjikaaRows
import Derived.Test.YtpmgaaalfdjikaaSc
import Derived.Test.YtpmgaaalfdjikaaSg
import Derived.Test.YtpmgaaalfdjikaaSh
namespace Go.Proofs.Ytpmgaaalfdjikaa
open Go.RowKit Go.ChangeShapes Go.WideShapes Go.ChangeAt
set_option linter.unusedSimpArgs false
set_option linter.unusedVariables false
set_option linter.constructorNameAsVariable false

theorem S25_at (m : Mv) (p q : Int) : S25 [.agg m.cells, iv p, iv q] = some (.tup [iv (contestR m p q).1, iv (contestR m p q).2]) := by rw [S25, asMv_of]; rfl
theorem sound10 : Sound Try.prog (mkEnv [(12, S12), (18, S18), (25, S25), (30, S30), (31, S31)] [(13, S13), (14, S14), (17, S17), (26, S26)] []) := sound_mk (by simp [s12, s18, s25, s30, s31]) (by simp [s13, s14, s17, s26]) (by simp)
theorem contestR_at {m : Mv} (hf : fitB m = true) {n : Nat} (hn : great m.rows = n) {p q : Nat} (hp : p < n) (hq : q < n) :
    contestR m ((p : Int) + 1) ((q : Int) + 1) = if p = q then (0, 2) else (conT m ((p + 1) * 50 + (q + 1)), 0) := by
  unfold contestR
  rw [if_pos hf, hn]
  by_cases h : p = q
  · rw [if_pos (by omega), if_pos h]
  · rw [if_neg (by omega), if_neg h]
    have e1 : ((p : Int) + 1).toNat = p + 1 := by omega
    have e2 : ((q : Int) + 1).toNat = q + 1 := by omega
    rw [e1, e2]
theorem tableR_at {m : Mv} (hf : fitB m = true) {n : Nat} (hn : great m.rows = n) : tableR m = if n = 0 then (.tup [.nil, iv 0], noMem) else (.tup [.sl [] 1 0 n none, iv 0], tableMem (tabL m n)) := by
  unfold tableR
  rw [hf, hn, if_pos rfl]
  simp
theorem chosen_all {r : Nat} (hr : r ≤ 15) {v : Int} (h1 : 0 ≤ v) (h2 : v < r) : v ∈ chosenL r 32767 := by
  rw [mem_chosenL]
  refine ⟨v.toNat, by omega, ?_, by omega⟩
  have : (32767 : Nat) = 2 ^ 15 - 1 := by decide
  rw [this, Nat.testBit_two_pow_sub_one]
  simp; omega
theorem c10 (x : Sk) (hx : x.ok) (b : Nat) (hb : b < 65536) : VCp Try.prog 10 [.agg x.cells, .v (.int .u16 b)] (bv true) := by
  have hm := x.madeOK
  have hr2 := hm.r
  have ht2 := hm.t
  obtain ⟨m, hmv⟩ : ∃ m : Mv, m = ⟨x.T, x.R, x.T, 1, 2, x.sl.all.take x.sl.len⟩ := ⟨_, rfl⟩
  have hfit : fitB m = true := by rw [hmv]; exact fitOf
  have hlen : m.rows.length = x.sl.len := by rw [hmv]; simp only; rw [List.length_take]; have := hm.le; omega
  have hl36 : m.rows.length ≤ 36 := by
    have := ((fitB_iff m).1 hfit).1.2.2.2.2
    have h3 : (x.T : Int) * x.R ≤ 6 * 6 := Int.mul_le_mul (by omega) (by omega) (by omega) (by omega)
    rw [hmv] at this ⊢
    simp only at this ⊢
    omega
  have hne : m.rows.isEmpty = false := by
    cases h : m.rows with
    | nil => rw [h] at hlen; have := hm.pos; simp at hlen; omega
    | cons => rfl
  have hR : m.r = x.R := by rw [hmv]
  have hR16 : x.R ≤ 16 := by omega
  have hcells : m.cells = [iv x.T, iv x.R, iv x.T, iv 1, iv 2, .list (rowsL (x.sl.all.take x.sl.len))] := by rw [hmv]; rfl
  have mT : m.t = x.T ∧ m.s = x.T ∧ m.c = 1 ∧ m.w = 2 := by rw [hmv]; exact ⟨rfl, rfl, rfl, rfl⟩
  have hRM : m.rows = x.sl.all.take x.sl.len := by rw [hmv]
  have ok : ∀ b, listOK x.R (-1) (chosenL x.R b) = true ∧ (chosenL x.R b).length ≤ 1000000 := fun b => ⟨chosenL_ok _ _, by have := chosenL_len x.R b; omega⟩
  have tr : ∀ (m' : Mv) (b : Nat), m'.t = x.T → m'.r = x.R → m'.s = x.T → m'.c = 1 → m'.rows.length = x.sl.len → fitB m' = true →
      S17 [.agg [iv x.T, iv x.R, iv x.T, iv 1, iv m'.w, .list (rowsL m'.rows)], .list (ints (chosenL x.R b))] =
      some (.tup [.agg [iv x.T, iv x.R, iv x.T, iv 1, iv (exch m' (chosenL x.R b)).w, .sl [] 5 0 x.sl.len none], iv 0], rowMem 53 (rowsL (exch m' (chosenL x.R b)).rows)) := fun m' b a1 a2 a3 a4 a5 a6 => by
    have e1 := S17_at m' (chosenL x.R b) (ok b).2
    have e2 : m'.rows.isEmpty = false := by
      cases h : m'.rows with
      | nil => rw [h] at a5; have := hm.pos; simp at a5; omega
      | cons => rfl
    rw [turnR_ok a6 (by rw [a2]; exact (ok b).1) e2, a5] at e1
    simp only [Mv.cells, Mv.cellsW, exch, a1, a2, a3, a4] at e1 ⊢
    exact e1
  obtain ⟨A, hA⟩ : ∃ A, A = exch m (chosenL x.R b) := ⟨_, rfl⟩
  have hAf : fitB A = true := by rw [hA]; exact fit_exch hfit
  have hAl : A.rows.length = x.sl.len := by rw [hA, exch_len, hlen]
  have hA60 : A.rows.length ≤ 60 := by omega
  have aT : A.t = x.T ∧ A.r = x.R ∧ A.s = x.T ∧ A.c = 1 := by rw [hA]; exact ⟨mT.1, hR, mT.2.1, mT.2.2.1⟩
  have hAc : A.cells = [iv x.T, iv x.R, iv x.T, iv 1, iv A.w, .list (rowsL A.rows)] := by simp only [Mv.cells, Mv.cellsW, aT.1, aT.2.1, aT.2.2.1, aT.2.2.2]
  obtain ⟨E, hE⟩ : ∃ E, E = exch A (chosenL x.R 32767) := ⟨_, rfl⟩
  have hEf : fitB E = true := by rw [hE]; exact fit_exch hAf
  have hEl : E.rows.length = x.sl.len := by rw [hE, exch_len, hAl]
  have eT : E.t = x.T ∧ E.r = x.R ∧ E.s = x.T ∧ E.c = 1 := by rw [hE]; exact aT
  have hEc : E.cells = [iv x.T, iv x.R, iv x.T, iv 1, iv E.w, .list (rowsL E.rows)] := by simp only [Mv.cells, Mv.cellsW, eT.1, eT.2.1, eT.2.2.1, eT.2.2.2]
  have hEr : E.rows = A.rows.map Row.swap := by
    rw [hE]
    refine turn_all fun y hy => ?_
    have := (((fit_iff A).1 hAf).2.1 y hy).1
    unfold inOK at this
    rw [aT.2.1] at this
    exact chosen_all (by omega) this.1 this.2.1
  have hg := great_bounds (fit_pairs hAf)
  obtain ⟨n, hn⟩ : ∃ n : Nat, great A.rows = n := ⟨(great A.rows).toNat, by omega⟩
  have hnE : great E.rows = n := by rw [hEr, great_swap, hn]
  have hn49 : n ≤ 49 := by omega
  have hC : ∀ i, conT A i = cont A.rows i := fun i => conT_eq hA60 i
  have hCE : ∀ i, conT E i = conT A i := fun i => by rw [conT_eq (by omega), hEr, cont_swap, hC]
  have htab : tabL E n = tabL A n := by unfold tabL; simp only [hCE]
  have ta := tr m b mT.1 hR mT.2.1 mT.2.2.1 hlen hfit
  have te := tr A 32767 aT.1 aT.2.1 aT.2.2.1 aT.2.2.2 hAl hAf
  rw [mT.2.2.2, ← hA] at ta
  rw [← hE] at te
  have h26A := S26_at A
  rw [tableR_at hAf hn, hAc] at h26A
  have h26E := S26_at E
  rw [tableR_at hEf hnE, hEc, htab] at h26E
  have tl : ∀ l ∈ tabL A n, l.length ≤ 1000000 := fun l hl => by
    obtain ⟨p, _, rfl⟩ := List.mem_map.1 hl
    rw [List.length_map, List.length_range]; omega
  refine wcontract_p sound10 mixed is10 (by rw [nt10]; simp) (c10w S12 S18 S25 S30 S31 S13 S14 S17 S26 x x.T x.R x.sl.all x.sl.len x.sl.lim hm b n hn49 (chosenL x.R b) (chosenL x.R 32767) m.rows A.rows E.rows hRM hAl hEl
    A.w E.w (unbV A) (fun p q => conT A ((p + 1) * 50 + (q + 1))) (fun p => playSum A.rows A.rows ((p : Int) + 1)) (fun p => playOnce A.rows A.rows ((p : Int) + 1)) (tabL A n) rfl rfl (S13_at hx) ?_ ?_ ta te
    (fun h => by rw [h26A, if_pos h]) (fun h => by rw [h26A, if_neg (by omega)]) (fun h => by rw [h26E, if_pos h]) (fun h => by rw [h26E, if_neg (by omega)]) ?_ ?_ ?_ ?_ ?_ ?_ ?_ ?_ ?_) rfl
  · rw [hRM, ← hcells]; exact S14_hd m x.R b hR hR16 hb
  · rw [hRM, ← hcells]; exact S14_hd m x.R 32767 hR hR16 (by omega)
  · rw [S30_at _ _ (by rw [tabL_len]; omega) (by rw [tabL_len]; omega) tl tl]; simp
  · intro p q hp hq
    have e := S25_at A ((p : Int) + 1) ((q : Int) + 1)
    rw [contestR_at hAf hn hp hq, hAc] at e
    rw [e]
    by_cases h : p = q
    · subst h
      rw [if_pos rfl, if_pos rfl, hC, cont_diag _ (by omega) (by omega)]
    · rw [if_neg h, if_neg h]
  · intro p hp
    rw [hC, cont_diag _ (by omega) (by omega)]
  · intro p q hp hq
    rw [hC, hC, cont_symm hAf (by omega) (by omega)]
  · intro p q hp hq
    rw [hC]
    exact cont_bound hA60 _
  · intro p hp
    have e := S31_at A ((p : Int) + 1) hA60 (fit_pairs hAf)
    rw [hAc] at e
    exact e
  · intro p hp ho
    have e := plays_law hAf hn (p := p + 1) (by omega) (by omega) (by exact_mod_cast ho)
    simp only [hC]
    rw [e]
    rfl
  · have e := S18_at A
    have e2 : unbR A = (unbV A, 0) := by unfold unbR; rw [if_pos hAf]
    rw [e2, hAc] at e
    exact e
  · have e := unb_law hAf hn
    rw [unbV_eq hA60, e]
    simp only [hC]

theorem params10L : Try.f10.params.toList = [30, 33] := by rw [Try.params10]
set_option maxRecDepth 100000 in
theorem sums_args (Ds : List D) (h : ArgsTy Try.prog 4 Try.f10.params.toList Ds) : VCp Try.prog 10 Ds (bv true) := by
  rw [params10L] at h
  obtain ⟨d0, r0, rfl, h0, h⟩ := argsTy_cons h
  obtain ⟨d1, r1, rfl, h1, h⟩ := argsTy_cons h
  obtain rfl := argsTy_nil h
  obtain ⟨x, hx, rfl⟩ := argSk h0
  obtain ⟨a, ha, rfl⟩ := argU16 h1
  exact c10 x hx a ha
theorem sums_spec {H : Type} (ds : List (DataW H)) (hl : ds.length = Try.f10.params.size) : Rows.turnSumsSpec.fn H ds = { results := [.lit (.bool true)], args := ds } := by
  rw [Try.params10] at hl
  match ds, hl with
  | [a, b], _ => rfl
theorem sums_tys : ∀ t ∈ Try.f10.params.toList, TyOK t := by
  rw [params10L]
  simp [tyOK30, tyOK33]
set_option maxRecDepth 100000 in
theorem sums_lifted (os : Os) (started : os.Started) (H : Type) (enc : TypeId × Value → H) :
    ReturnsInHanded {} Try.checked os 10 .any (Rows.turnSumsSpec.pre6 enc Try.prog Try.f10 Rows.turnSumsRow.domain false) (Rows.turnSumsSpec.post enc Try.prog Try.f10 false true false false) := by
  refine returnsInHanded_of_change (C := Try.checked) own started (by kernel_rfl) Try.func10
    (ChangeSpec.witness6 (enc := enc) (C := Try.checked) false ⟨#[], #[.agg #[.int .u8 0, .int .u8 0, .slice none 0 0], .int .u16 0], []⟩ 8 (by kernel_rfl) (by kernel_rfl) (by kernel_rfl) (by kernel_rfl)) ?_
  intro W base args ds gs before hval hW _ _
  exact law_contract (P := Try.prog) (fn := Try.f10) (s := Rows.turnSumsSpec) (n := 4) (tb := 4) laidOut rfl sums_spec (by kernel_rfl) Try.underlying4 sums_tys sums_args W base args ds gs before hval hW
/-- The statement. -/
theorem turnSums_holds : Rows.TurnSumsSaid :=
  OpenClaim.holds_of_wide 10 Try.f10 rfl rfl rfl rfl rfl rfl rfl ⟨rfl, rfl, rfl, rfl, rfl⟩ rfl rfl rfl rfl rfl (by kernel_rfl) Try.func10 (by kernel_rfl)
    (of_decide_eq_true (by kernel_rfl)) (by unfold Func.isWrapper; first | (rw [if_pos (by decide +kernel)]; kernel_rfl) | (rw [if_neg (by decide +kernel)]; exact ⟨rfl, rfl⟩))
    (fun os started H enc _ => sums_lifted os started H enc)
end Go.Proofs.Ytpmgaaalfdjikaa
