/- TurnRounds: for every sketch and every integer the law returns true, and its arguments read as before. No condition. -/
import Derived.Test.YtpmgaaalfdjikaaRows
import Derived.Test.YtpmgaaalfdjikaaQb
import Derived.Test.YtpmgaaalfdjikaaQc
namespace Go.Proofs.Ytpmgaaalfdjikaa
open Go.RowKit Go.ChangeShapes Go.WideShapes Go.ChangeAt
set_option linter.unusedSimpArgs false
set_option linter.unusedVariables false
set_option linter.constructorNameAsVariable false

theorem sound5 : Sound Try.prog (mkEnv [(12, S12), (19, S19)] [(13, S13), (20, S20), (17, S17)] []) := sound_mk (by simp [s12, s19]) (by simp [s13, s20, s17]) (by simp)
theorem fitOf {x : Sk} : fitB ⟨x.T, x.R, x.T, 1, 2, x.sl.all.take x.sl.len⟩ = true := made_fit x
theorem S20_at (m : Mv) (n : Int) : S20 [.agg m.cells, iv n] = some (lastR m n) := by simp [S20, Mv.cells, Mv.cellsW]
theorem S17_at (m : Mv) (L : List Int) (h : L.length ≤ 1000000) : S17 [.agg m.cells, .list (ints L)] = some (turnR m L) := by
  simp only [S17, Mv.cells, Mv.cellsW, asMv_cells, asInts_ints, Option.bind_some]
  rw [if_pos h]
theorem lastR_ok {m : Mv} (hf : fitB m = true) {K : Nat} (h0 : 0 < K) (hK : (K : Int) ≤ m.r) : lastR m K = (.tup [.sl [] 1 0 K none, iv 0], rowMem 3 (ints (lastL m.r K))) := by
  have h1 : lastE m K = 0 := by
    unfold lastE
    rw [if_pos hf, if_neg (by omega)]
  unfold lastR
  rw [if_pos h1, if_neg (by omega)]
  rfl
theorem lastR_0 {m : Mv} (hf : fitB m = true) (hK : 0 ≤ m.r) : lastR m 0 = (.tup [.nil, iv 0], noMem) := by
  have h1 : lastE m 0 = 0 := by
    unfold lastE
    rw [if_pos hf, if_neg (by omega)]
  unfold lastR
  rw [if_pos h1, if_pos rfl]
theorem lastR_bad {m : Mv} (hf : fitB m = true) {n : Int} (h : n < 0 ∨ m.r < n) : lastR m n = (.tup [.nil, iv 2], noMem) := by
  have h1 : lastE m n = 2 := by
    unfold lastE
    rw [if_pos hf, if_pos h]
  unfold lastR
  rw [h1, if_neg (by decide)]
theorem turnR_ok {m : Mv} {L : List Int} (hf : fitB m = true) (hL : listOK m.r (-1) L = true) (hr : m.rows.isEmpty = false) :
    turnR m L = (.tup [.agg ((exch m L).cellsW (.sl [] 5 0 m.rows.length none)), iv 0], rowMem 53 (rowsL (exch m L).rows)) := by
  have h1 : turnE m L = 0 := by
    unfold turnE
    rw [if_pos hf, if_pos hL]
  unfold turnR
  rw [if_pos h1, hr]
  rfl
theorem c5 (x : Sk) (hx : x.ok) (n : Int) : VCp Try.prog 5 [.agg x.cells, iv n] (bv true) := by
  have hm := x.madeOK
  have hR : (1 : Int) ≤ (x.R : Int) + 1 := by omega
  obtain ⟨b1, b2⟩ := pickI_bounds (x := n) hR
  obtain ⟨K, hK⟩ : ∃ K : Nat, pickI n ((x.R : Int) + 1) = K := ⟨(pickI n ((x.R : Int) + 1)).toNat, by omega⟩
  rw [hK] at b1 b2
  have hlen : (x.sl.all.take x.sl.len).length = x.sl.len := by rw [List.length_take]; have := hm.le; omega
  have hne : (x.sl.all.take x.sl.len).isEmpty = false := by
    cases h : x.sl.all.take x.sl.len with
    | nil => rw [h] at hlen; have := hm.pos; simp at hlen; omega
    | cons => rfl
  have hr2 := hm.r
  have ht2 := hm.t
  have tr : ∀ L : List Int, listOK x.R (-1) L = true → L.length ≤ 1000000 → ∃ (w : Int) (R1 : List Row), S17 [.agg [iv x.T, iv x.R, iv x.T, iv 1, iv 2, .list (rowsL (x.sl.all.take x.sl.len))], .list (ints L)] =
      some (.tup [.agg [iv x.T, iv x.R, iv x.T, iv 1, iv w, .sl [] 5 0 x.sl.len none], iv 0], rowMem 53 (rowsL R1)) := fun L hL hl => by
    have h1 := S17_at ⟨x.T, x.R, x.T, 1, 2, x.sl.all.take x.sl.len⟩ L hl
    rw [turnR_ok fitOf hL hne, hlen] at h1
    exact ⟨_, _, h1⟩
  obtain ⟨w1, R1, e1⟩ := tr [] rfl (by simp)
  obtain ⟨w2, R2, e2⟩ := tr (lastL x.R K) (lastL_ok _ _ (by omega)) (by rw [lastL_len]; omega)
  refine wcontract_p sound5 mixed is5 (by rw [nt5]; simp) (c5w S12 S19 S13 S20 S17 x x.T x.R x.sl.all x.sl.len x.sl.lim hm n K ⟨b1, b2⟩ rfl ?_ (S13_at hx) (fun h => ?_) (fun h => ?_) R1 R2 w1 w2 (fun _ => e1) (fun _ => e2) (fun z hz => ?_) fun z hz => ?_) rfl
  · simp only [S19]
    rw [if_pos (by omega), hK]
  · exact (S20_at ⟨x.T, x.R, x.T, 1, 2, x.sl.all.take x.sl.len⟩ 0).trans (congrArg some (lastR_0 fitOf (by simp only; omega)))
  · exact (S20_at ⟨x.T, x.R, x.T, 1, 2, x.sl.all.take x.sl.len⟩ K).trans (congrArg some (lastR_ok fitOf h (by simp only; omega)))
  · exact (S20_at ⟨x.T, x.R, x.T, 1, 2, x.sl.all.take x.sl.len⟩ z).trans (congrArg some (lastR_bad fitOf (.inl hz)))
  · exact (S20_at ⟨x.T, x.R, x.T, 1, 2, x.sl.all.take x.sl.len⟩ z).trans (congrArg some (lastR_bad fitOf (.inr hz)))

theorem params5L : Try.f5.params.toList = [30, 3] := by rw [Try.params5]
set_option maxRecDepth 100000 in
theorem rounds_args (Ds : List D) (h : ArgsTy Try.prog 4 Try.f5.params.toList Ds) : VCp Try.prog 5 Ds (bv true) := by
  rw [params5L] at h
  obtain ⟨d0, r0, rfl, h0, h⟩ := argsTy_cons h
  obtain ⟨d1, r1, rfl, h1, h⟩ := argsTy_cons h
  obtain rfl := argsTy_nil h
  obtain ⟨x, hx, rfl⟩ := argSk h0
  obtain ⟨z, rfl, _⟩ := argI h1
  exact c5 x hx z
theorem rounds_spec {H : Type} (ds : List (DataW H)) (hl : ds.length = Try.f5.params.size) : Rows.turnRoundsSpec.fn H ds = { results := [.lit (.bool true)], args := ds } := by
  rw [Try.params5] at hl
  match ds, hl with
  | [a, b], _ => rfl
theorem rounds_tys : ∀ t ∈ Try.f5.params.toList, TyOK t := by
  rw [params5L]
  simp [tyOK30, tyOK3]
set_option maxRecDepth 100000 in
theorem rounds_lifted (os : Os) (started : os.Started) (H : Type) (enc : TypeId × Value → H) :
    ReturnsInHanded {} Try.checked os 5 .any (Rows.turnRoundsSpec.pre6 enc Try.prog Try.f5 Rows.turnRoundsRow.domain false) (Rows.turnRoundsSpec.post enc Try.prog Try.f5 false true false false) := by
  refine returnsInHanded_of_change (C := Try.checked) own started (by kernel_rfl) Try.func5
    (ChangeSpec.witness6 (enc := enc) (C := Try.checked) false ⟨#[], #[.agg #[.int .u8 0, .int .u8 0, .slice none 0 0], .int .i64 0], []⟩ 8 (by kernel_rfl) (by kernel_rfl) (by kernel_rfl) (by kernel_rfl)) ?_
  intro W base args ds gs before hval hW _ _
  exact law_contract (P := Try.prog) (fn := Try.f5) (s := Rows.turnRoundsSpec) (n := 4) (tb := 4) laidOut rfl rounds_spec (by kernel_rfl) Try.underlying4 rounds_tys rounds_args W base args ds gs before hval hW
/-- The statement. -/
theorem turnRounds_holds : Rows.TurnRoundsSaid :=
  OpenClaim.holds_of_wide 5 Try.f5 rfl rfl rfl rfl rfl rfl rfl ⟨rfl, rfl, rfl, rfl, rfl⟩ rfl rfl rfl rfl rfl (by kernel_rfl) Try.func5 (by kernel_rfl)
    (of_decide_eq_true (by kernel_rfl)) (by unfold Func.isWrapper; first | (rw [if_pos (by decide +kernel)]; kernel_rfl) | (rw [if_neg (by decide +kernel)]; exact ⟨rfl, rfl⟩))
    (fun os started H enc _ => rounds_lifted os started H enc)
end Go.Proofs.Ytpmgaaalfdjikaa
