/- TurnWrong: for every sketch, integer and way the law returns true, and its arguments read as before. No condition. -/
import Derived.Test.YtpmgaaalfdjikaaRows
import Derived.Test.YtpmgaaalfdjikaaUb
import Derived.Test.YtpmgaaalfdjikaaSc
import Derived.Test.YtpmgaaalfdjikaaSi
namespace Go.Proofs.Ytpmgaaalfdjikaa
open Go.RowKit Go.ChangeShapes Go.WideShapes Go.ChangeAt
set_option linter.unusedSimpArgs false
set_option linter.unusedVariables false
set_option linter.constructorNameAsVariable false

def lastOK (T R : Nat) : Bool := match (mitM T R).rows[R * T - 1]?, (mitM T R).rows[R * T - 2]? with
  | some x1, some x2 => decide (x2.r = x1.r ∧ 0 < x2.ew ∧ 0 < x1.ns)
  | _, _ => false
theorem mit_last : ∀ T, T < 7 → ∀ R, R < 7 → 2 ≤ T → 1 ≤ R → lastOK T R = true := by decide +kernel
theorem mit_great : ∀ T, T < 7 → ∀ R, R < 7 → 2 ≤ T → 1 ≤ R → great (mitM T R).rows ≤ 2 * T := by decide +kernel
theorem S24_at (l : List Row) (hne : l ≠ []) (h : l.length ≤ 1000000) : S24 [.list (rowsL l)] = some (.sl [] 5 0 l.length none, rowMem 53 (rowsL l)) := by
  have e : l.isEmpty = false := by cases l with | nil => exact absurd rfl hne | cons => rfl
  rw [S24, asRows_rowsL, Option.bind_some, if_pos h, e]
  rfl
theorem turnR_e {m : Mv} {L : List Int} {e : Int} (h : turnE m L = e) (h0 : e ≠ 0) : turnR m L = (.tup [.agg noMv, iv e], noMem) := by
  unfold turnR
  rw [h, if_neg h0]
theorem bestR_e {m : Mv} {Ls : List (List Int)} {e : Int} (h : bestE m Ls = e) (h0 : e ≠ 0) : bestR m Ls = (0, e) := by
  unfold bestR
  rw [h, if_neg h0]
theorem no_list1 {r a : Int} (h : a < 0 ∨ r ≤ a) : listOK r (-1) [a] = false := by
  simp only [listOK, Bool.and_true]
  rcases h with h | h
  · rw [decide_eq_false (by omega)]; rfl
  · rw [decide_eq_false (p := a < r) (by omega), Bool.and_false]
theorem no_list2 {r : Int} : listOK r (-1) [0, 0] = false := by
  simp [listOK]
theorem no_list3 {r : Int} (h : 0 < r) : listOK r (-1) [r - 1, -1] = false := by
  simp [listOK]; omega
theorem sound8 : Sound Try.prog (mkEnv [(12, S12), (15, S15), (18, S18), (25, S25), (27, S27)] [(13, S13), (17, S17), (20, S20), (24, S24), (26, S26)] []) := sound_mk (by simp [s12, s15, s18, s25, s27]) (by simp [s13, s17, s20, s24, s26]) (by simp)
theorem c8 (x : Sk) (hx : x.ok) (n : Int) (way : Nat) (hway : way < 256) : VCp Try.prog 8 [.agg x.cells, iv n, .v (.int .u8 way)] (bv true) := by
  obtain ⟨a1, a2, a3, a4⟩ := x.range
  obtain ⟨y, hy⟩ : ∃ y : Sk, y = ⟨x.t, x.r, []⟩ := ⟨_, rfl⟩
  have hyo : y.ok := by rw [hy]; exact ⟨hx.1, hx.2.1, by simp, by simp⟩
  have yT : y.T = x.T := by rw [hy]; rfl
  have yR : y.R = x.R := by rw [hy]; rfl
  have h13 := S13_at hyo
  have ysl : y.sl = ⟨(mitM x.T x.R).rows, x.R * x.T, none⟩ := by rw [hy]; rfl
  rw [yT, yR, ysl] at h13
  have hT7 : x.T < 7 := by omega
  have hR7 : x.R < 7 := by omega
  have hfit := mit_fit x.T hT7 x.R hR7 (by omega) (by omega) (by omega)
  have hgr := mit_great x.T hT7 x.R hR7 (by omega) (by omega)
  have hla := mit_last x.T hT7 x.R hR7 (by omega) (by omega)
  have hlen : (mitM x.T x.R).rows.length = x.R * x.T := by
    have := part_len (mitRow x.T) x.T x.R 0
    simp only [mitM]; omega
  have hmv : mitM x.T x.R = ⟨x.T, x.R, x.T, 1, 2, (mitM x.T x.R).rows⟩ := rfl
  obtain ⟨RM, hRM⟩ : ∃ RM, RM = (mitM x.T x.R).rows := ⟨_, rfl⟩
  rw [hmv] at hfit
  simp only [lastOK] at hla
  rw [← hRM] at h13 hfit hgr hla hlen
  have hp : 2 ≤ x.R * x.T := by have : 1 * 2 ≤ x.R * x.T := Nat.mul_le_mul (by omega) (by omega); omega
  have h36 : x.R * x.T ≤ 36 := by have : x.R * x.T ≤ 6 * 6 := Nat.mul_le_mul (by omega) (by omega); omega
  split at hla
  · rename_i x1 x2 e1 e2
    obtain ⟨f1, f2, f3⟩ := of_decide_eq_true hla
    have hne : RM ≠ [] := fun h => by rw [h] at hlen; simp at hlen; omega
    rw [← hlen] at h13
    have b17 : ∀ (bt br : Int) (bl : List Row), fitB ⟨bt, br, x.T, 1, 2, bl⟩ = false → turnE ⟨bt, br, x.T, 1, 2, bl⟩ [] = 290 := fun bt br bl h => by unfold turnE; rw [if_neg (by rw [h]; simp)]
    have b20 : ∀ (bt br : Int) (bl : List Row), fitB ⟨bt, br, x.T, 1, 2, bl⟩ = false → lastE ⟨bt, br, x.T, 1, 2, bl⟩ 0 = 290 := fun bt br bl h => by unfold lastE; rw [if_neg (by rw [h]; simp)]
    have g17 : ∀ L, listOK x.R (-1) L = false → L.length ≤ 1000000 → S17 [.agg [iv x.T, iv x.R, iv x.T, iv 1, iv 2, .list (rowsL RM)], .list (ints L)] = some (.tup [.agg noMv, iv 291], noMem) := fun L h hl => by
      have e := S17_at ⟨x.T, x.R, x.T, 1, 2, RM⟩ L hl
      rw [turnR_e (e := 291) (by unfold turnE; rw [if_pos hfit, if_neg (by rw [h]; simp)]) (by decide)] at e
      exact e
    have g15 : ∀ L, listOK x.R (-1) L = false → L.length ≤ 1000000 → S15 [.agg [iv x.T, iv x.R, iv x.T, iv 1, iv 2, .list (rowsL RM)], .list (lists [[], L])] = some (.tup [iv 0, iv 291]) := fun L h hl => by
      have e := S15_at ⟨x.T, x.R, x.T, 1, 2, RM⟩ [[], L] (by simp) (by intro M hM; simp at hM; rcases hM with rfl | rfl; exact Nat.zero_le _; exact hl)
      rw [bestR_e (e := 291) (by unfold bestE; rw [if_pos hfit, if_neg (by simp), if_neg (by simp), if_neg (by simp [h])]) (by decide)] at e
      exact e
    refine wcontract_p sound8 mixed is8 (by rw [nt8]; simp) (c8w S12 S15 S18 S25 S27 S13 S17 S20 S24 S26 x x.T x.R (x.R * x.T - 2) RM n way x1 x2 ⟨by omega, by omega⟩ ⟨by omega, by omega⟩ (by omega) hlen (by omega) (by rw [show x.R * x.T - 2 + 1 = x.R * x.T - 1 by omega]; exact e1) e2 f1 f2 f3
      rfl ?_ (S24_at RM hne (by omega)) ?_ ?_ ?_ ?_ ?_ ?_ ?_ ?_ ?_ ?_ ?_ ?_ ?_ ?_ ?_ ?_) rfl
    · have hc : y.cells = [.v (.int .u8 x.t), .v (.int .u8 x.r), .list []] := by rw [hy]; rfl
      rw [hc] at h13
      exact h13
    · intro bt br bl hl h
      have e := S17_at ⟨bt, br, x.T, 1, 2, bl⟩ [] (by simp)
      rw [turnR_e (b17 bt br bl h) (by decide)] at e
      exact e
    · intro bt br bl hl h
      have e := S20_at ⟨bt, br, x.T, 1, 2, bl⟩ 0
      unfold lastR at e
      rw [b20 bt br bl h, if_neg (by decide)] at e
      exact e
    · intro bt br bl hl h
      have e := S25_at ⟨bt, br, x.T, 1, 2, bl⟩ 1 2
      unfold contestR at e
      rw [if_neg (by rw [h]; simp)] at e
      exact e
    · intro bt br bl hl h
      have e := S26_at ⟨bt, br, x.T, 1, 2, bl⟩
      unfold tableR at e
      rw [if_neg (by rw [h]; simp)] at e
      exact e
    · intro bt br bl hl h
      have e := S18_at ⟨bt, br, x.T, 1, 2, bl⟩
      unfold unbR at e
      rw [if_neg (by rw [h]; simp)] at e
      exact e
    · intro bt br bl hl h
      have e := S15_at ⟨bt, br, x.T, 1, 2, bl⟩ [] (by simp) (by simp)
      rw [bestR_e (e := 290) (by unfold bestE; rw [if_neg (by rw [h]; simp)]) (by decide)] at e
      exact e
    · intro bt br bl hl h
      have e := S27_at ⟨bt, br, x.T, 1, 2, bl⟩
      rw [h] at e
      exact e
    · intro a ha
      exact g17 [a] (no_list1 ha) (by simp)
    · exact g17 [0, 0] no_list2 (by simp)
    · exact g17 [(x.R : Int) - 1, -1] (no_list3 (by omega)) (by simp)
    · intro a ha
      exact g15 [a] (no_list1 ha) (by simp)
    · exact g15 [0, 0] no_list2 (by simp)
    · exact g15 [(x.R : Int) - 1, -1] (no_list3 (by omega)) (by simp)
    · intro p q h
      have e := S25_at ⟨x.T, x.R, x.T, 1, 2, RM⟩ p q
      unfold contestR at e
      rw [if_pos hfit, if_pos (by simp only; omega)] at e
      exact e
    · have e := S15_at ⟨x.T, x.R, x.T, 1, 2, RM⟩ (List.replicate 65 []) (by rw [List.length_replicate]; omega) (by intro M hM; rw [List.eq_of_mem_replicate hM]; simp)
      rw [bestR_e (e := 5) (by unfold bestE; rw [if_pos hfit, List.length_replicate, if_pos (by omega)]) (by decide)] at e
      exact e
    · have e := S27_at ⟨x.T, x.R, x.T, 1, 2, RM⟩
      rw [hfit] at e
      exact e
  · exact absurd hla (by simp)

theorem argU8 {d : D} (h : ArgTy Try.prog 4 5 d) : ∃ n : Nat, n < 256 ∧ d = .v (.int .u8 n) := by
  simp only [ArgTy, HasTy, Try.underlying5] at h
  obtain ⟨z, h1, h2⟩ := h
  simp only [List.cons.injEq, and_true] at h1
  obtain ⟨c1, c2⟩ := wf_u8 h2
  exact ⟨z.toNat, by omega, by rw [h1, Int.toNat_of_nonneg c1]⟩
theorem params8L : Try.f8.params.toList = [30, 3, 5] := by rw [Try.params8]
set_option maxRecDepth 100000 in
theorem wrong_args (Ds : List D) (h : ArgsTy Try.prog 4 Try.f8.params.toList Ds) : VCp Try.prog 8 Ds (bv true) := by
  rw [params8L] at h
  obtain ⟨d0, r0, rfl, h0, h⟩ := argsTy_cons h
  obtain ⟨d1, r1, rfl, h1, h⟩ := argsTy_cons h
  obtain ⟨d2, r2, rfl, h2, h⟩ := argsTy_cons h
  obtain rfl := argsTy_nil h
  obtain ⟨x, hx, rfl⟩ := argSk h0
  obtain ⟨z, rfl, _⟩ := argI h1
  obtain ⟨a, ha, rfl⟩ := argU8 h2
  exact c8 x hx z a ha
theorem wrong_spec {H : Type} (ds : List (DataW H)) (hl : ds.length = Try.f8.params.size) : Rows.turnWrongSpec.fn H ds = { results := [.lit (.bool true)], args := ds } := by
  rw [Try.params8] at hl
  match ds, hl with
  | [a, b, c], _ => rfl
theorem wrong_tys : ∀ t ∈ Try.f8.params.toList, TyOK t := by
  rw [params8L]
  simp [tyOK30, tyOK3, tyOK5]
set_option maxRecDepth 100000 in
theorem wrong_lifted (os : Os) (started : os.Started) (H : Type) (enc : TypeId × Value → H) :
    ReturnsInHanded {} Try.checked os 8 .any (Rows.turnWrongSpec.pre6 enc Try.prog Try.f8 Rows.turnWrongRow.domain false) (Rows.turnWrongSpec.post enc Try.prog Try.f8 false true false false) := by
  refine returnsInHanded_of_change (C := Try.checked) own started (by kernel_rfl) Try.func8
    (ChangeSpec.witness6 (enc := enc) (C := Try.checked) false ⟨#[], #[.agg #[.int .u8 0, .int .u8 0, .slice none 0 0], .int .i64 0, .int .u8 0], []⟩ 8 (by kernel_rfl) (by kernel_rfl) (by kernel_rfl) (by kernel_rfl)) ?_
  intro W base args ds gs before hval hW _ _
  exact law_contract (P := Try.prog) (fn := Try.f8) (s := Rows.turnWrongSpec) (n := 4) (tb := 4) laidOut rfl wrong_spec (by kernel_rfl) Try.underlying4 wrong_tys wrong_args W base args ds gs before hval hW
/-- The statement. -/
theorem turnWrong_holds : Rows.TurnWrongSaid :=
  OpenClaim.holds_of_wide 8 Try.f8 rfl rfl rfl rfl rfl rfl rfl ⟨rfl, rfl, rfl, rfl, rfl⟩ rfl rfl rfl rfl rfl (by kernel_rfl) Try.func8 (by kernel_rfl)
    (of_decide_eq_true (by kernel_rfl)) (by unfold Func.isWrapper; first | (rw [if_pos (by decide +kernel)]; kernel_rfl) | (rw [if_neg (by decide +kernel)]; exact ⟨rfl, rfl⟩))
    (fun os started H enc _ => wrong_lifted os started H enc)
end Go.Proofs.Ytpmgaaalfdjikaa
