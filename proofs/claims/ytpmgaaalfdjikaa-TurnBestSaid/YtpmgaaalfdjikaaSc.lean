/- TurnKeeps: for every sketch and every two numbers the law returns true, and its arguments read as before. No condition. -/
import Derived.Test.YtpmgaaalfdjikaaRows
import Derived.Test.YtpmgaaalfdjikaaSb
import Derived.Test.YtpmgaaalfdjikaaRd
namespace Go.Proofs.Ytpmgaaalfdjikaa
open Go.RowKit Go.ChangeShapes Go.WideShapes Go.ChangeAt
set_option linter.unusedSimpArgs false
set_option linter.unusedVariables false
set_option linter.constructorNameAsVariable false

theorem mem_chosenL (r b : Nat) (v : Int) : v ∈ chosenL r b ↔ ∃ k : Nat, k < r ∧ b.testBit k = true ∧ (k : Int) = v := by
  simp only [chosenL, List.mem_map, List.mem_filter, List.mem_range, and_assoc]
theorem mem_and_not {r b1 b2 : Nat} (hr : r ≤ 16) (h1 : b1 < 65536) (v : Int) : v ∈ chosenL r (b2 &&& (65535 - b1)) ↔ v ∈ chosenL r b2 ∧ v ∉ chosenL r b1 := by
  have e : 65535 - b1 = 2 ^ 16 - (b1 + 1) := by omega
  simp only [mem_chosenL]
  constructor
  · rintro ⟨k, hk, ht, rfl⟩
    rw [Nat.testBit_and, e, Nat.testBit_two_pow_sub_succ (by omega), Bool.and_eq_true, Bool.and_eq_true] at ht
    refine ⟨⟨k, hk, ht.1, rfl⟩, ?_⟩
    rintro ⟨j, _, hj, he⟩
    have : j = k := by omega
    subst this
    rw [hj] at ht
    simp at ht
  · rintro ⟨⟨k, hk, ht, rfl⟩, hn⟩
    refine ⟨k, hk, ?_, rfl⟩
    have : b1.testBit k = false := by
      cases h : b1.testBit k with
      | false => rfl
      | true => exact absurd ⟨k, hk, h, rfl⟩ hn
    rw [Nat.testBit_and, e, Nat.testBit_two_pow_sub_succ (by omega), ht, this]
    simp; omega
theorem mem_or {r b1 b2 : Nat} (v : Int) : v ∈ chosenL r (b1 ||| b2) ↔ v ∈ chosenL r b1 ∨ v ∈ chosenL r b2 := by
  simp only [mem_chosenL, Nat.testBit_or, Bool.or_eq_true]
  constructor
  · rintro ⟨k, hk, h | h, rfl⟩
    · exact .inl ⟨k, hk, h, rfl⟩
    · exact .inr ⟨k, hk, h, rfl⟩
  · rintro (⟨k, hk, h, rfl⟩ | ⟨k, hk, h, rfl⟩)
    · exact ⟨k, hk, .inl h, rfl⟩
    · exact ⟨k, hk, .inr h, rfl⟩
theorem turnRow_r (L : List Int) (x : Row) : (turnRow L x).r = x.r := by unfold turnRow; split <;> rfl
theorem turn_twice (L : List Int) (x : Row) : turnRow L (turnRow L x) = x := by
  unfold turnRow
  split <;> rfl
theorem turn_both {L1 L2 L12 : List Int} (h2 : ∀ v, v ∈ L2 → v ∉ L1) (h12 : ∀ v, v ∈ L12 ↔ v ∈ L1 ∨ v ∈ L2) (x : Row) : turnRow L2 (turnRow L1 x) = turnRow L12 x := by
  have hr := turnRow_r L1 x
  by_cases a1 : x.r ∈ L1
  · have a2 : x.r ∉ L2 := fun h => h2 _ h a1
    have a3 : x.r ∈ L12 := (h12 _).2 (.inl a1)
    have e1 : turnRow L1 x = { x with ns := x.ew, ew := x.ns } := by unfold turnRow; rw [if_pos (by simpa using a1)]
    have e3 : turnRow L12 x = { x with ns := x.ew, ew := x.ns } := by unfold turnRow; rw [if_pos (by simpa using a3)]
    rw [e3, e1]
    have e4 : ∀ y : Row, y.r ∉ L2 → turnRow L2 y = y := fun y hy => by unfold turnRow; rw [if_neg (by simpa using hy)]
    exact e4 _ a2
  · have e1 : turnRow L1 x = x := by unfold turnRow; rw [if_neg (by simpa using a1)]
    rw [e1]
    have : L2.contains x.r = L12.contains x.r := by
      rw [Bool.eq_iff_iff]
      simp only [List.contains_iff_mem, h12]
      exact ⟨.inr, fun h => h.resolve_left a1⟩
    unfold turnRow
    rw [this]
theorem exch_twice (m : Mv) (L : List Int) : (exch (exch m L) L).rows = m.rows := by
  simp only [exch, List.map_map]
  conv => rhs; rw [← List.map_id m.rows]
  exact List.map_congr_left fun x _ => turn_twice L x
theorem sound9 : Sound Try.prog (mkEnv [(12, S12), (27, S27), (28, S28), (29, S29)] [(13, S13), (14, S14), (17, S17)] []) := sound_mk (by simp [s12, s27, s28, s29]) (by simp [s13, s14, s17]) (by simp)
theorem S14_hd (m : Mv) (r b : Nat) (hr : m.r = r) (hr' : r ≤ 16) (hb : b < 65536) : S14 [.agg m.cells, .v (.int .u16 b)] = some (hd [] (chosenL r b), hdMem (chosenL r b)) := by
  rw [S14_at m r b hr hr' hb, chosenR_hd]
  rfl
theorem c9 (x : Sk) (hx : x.ok) (b1 b2 : Nat) (h1 : b1 < 65536) (h2 : b2 < 65536) : VCp Try.prog 9 [.agg x.cells, .v (.int .u16 b1), .v (.int .u16 b2)] (bv true) := by
  have hm := x.madeOK
  have hr2 := hm.r
  have ht2 := hm.t
  obtain ⟨m, hmv⟩ : ∃ m : Mv, m = ⟨x.T, x.R, x.T, 1, 2, x.sl.all.take x.sl.len⟩ := ⟨_, rfl⟩
  have hfit : fitB m = true := by rw [hmv]; exact fitOf
  have hlen : m.rows.length = x.sl.len := by rw [hmv]; simp only; rw [List.length_take]; have := hm.le; omega
  have hne : m.rows.isEmpty = false := by
    cases h : m.rows with
    | nil => rw [h] at hlen; have := hm.pos; simp at hlen; omega
    | cons => rfl
  have hl36 : m.rows.length ≤ 1128 := fit_len hfit
  have hR : m.r = x.R := by rw [hmv]
  have hR16 : x.R ≤ 16 := by omega
  have hcells : m.cells = [iv x.T, iv x.R, iv x.T, iv 1, iv 2, .list (rowsL (x.sl.all.take x.sl.len))] := by rw [hmv]; rfl
  obtain ⟨b21, hb21⟩ : ∃ b21, b21 = b2 &&& (65535 - b1) := ⟨_, rfl⟩
  obtain ⟨b12, hb12⟩ : ∃ b12, b12 = b1 ||| b2 := ⟨_, rfl⟩
  have l21 : b21 < 65536 := by rw [hb21]; exact Nat.lt_of_le_of_lt Nat.and_le_left h2
  have l12 : b12 < 65536 := by rw [hb12]; exact Nat.or_lt_two_pow (n := 16) h1 h2
  have ok : ∀ b, listOK x.R (-1) (chosenL x.R b) = true ∧ (chosenL x.R b).length ≤ 1000000 := fun b => ⟨chosenL_ok _ _, by have := chosenL_len x.R b; omega⟩
  have tr : ∀ (m' : Mv) (b : Nat), m'.t = x.T → m'.r = x.R → m'.s = x.T → m'.c = 1 → m'.rows.length = x.sl.len → fitB m' = true →
      S17 [.agg [iv x.T, iv x.R, iv x.T, iv 1, iv m'.w, .list (rowsL m'.rows)], .list (ints (chosenL x.R b))] =
      some (.tup [.agg [iv x.T, iv x.R, iv x.T, iv 1, iv (exch m' (chosenL x.R b)).w, .sl [] 5 0 x.sl.len none], iv 0], rowMem 53 (rowsL (exch m' (chosenL x.R b)).rows)) := fun m' b a1 a2 a3 a4 a5 a6 => by
    have e1 := S17_at m' (chosenL x.R b) (ok b).2
    have e2 : m'.rows.isEmpty = false := by
      cases h : m'.rows with
      | nil => rw [h] at a5; have := hm.pos; simp at a5; omega
      | cons => rfl
    rw [turnR_ok a6 (by rw [a2]; exact (ok b).1) e2, a5] at e1
    simp only [Mv.cells, Mv.cellsW, exch, a1, a2, a3, a4] at e1 ⊢
    exact e1
  obtain ⟨A, hA⟩ : ∃ A, A = exch m (chosenL x.R b1) := ⟨_, rfl⟩
  have hAf : fitB A = true := by rw [hA]; exact fit_exch hfit
  have hAl : A.rows.length = x.sl.len := by rw [hA, exch_len, hlen]
  have mT : m.t = x.T ∧ m.s = x.T ∧ m.c = 1 ∧ m.w = 2 := by rw [hmv]; exact ⟨rfl, rfl, rfl, rfl⟩
  have hRM : m.rows = x.sl.all.take x.sl.len := by rw [hmv]
  have ta := tr m b1 mT.1 hR mT.2.1 mT.2.2.1 hlen hfit
  have tk := tr A b1 (by rw [hA]; exact mT.1) (by rw [hA]; exact hR) (by rw [hA]; exact mT.2.1) (by rw [hA]; exact mT.2.2.1) hAl hAf
  have tb := tr A b21 (by rw [hA]; exact mT.1) (by rw [hA]; exact hR) (by rw [hA]; exact mT.2.1) (by rw [hA]; exact mT.2.2.1) hAl hAf
  have tc := tr m b12 mT.1 hR mT.2.1 mT.2.2.1 hlen hfit
  have ek : (exch A (chosenL x.R b1)).rows = m.rows := by rw [hA]; exact exch_twice m _
  have eb : (exch m (chosenL x.R b12)).rows = (exch A (chosenL x.R b21)).rows := by
    rw [hA]
    simp only [exch, List.map_map]
    refine List.map_congr_left fun y _ => ?_
    refine (turn_both (fun v hv => ?_) (fun v => ?_) y).symm
    · rw [hb21] at hv; exact ((mem_and_not hR16 h1 v).1 hv).2
    · rw [hb12, hb21, mem_or, mem_and_not hR16 h1]
      by_cases hv : v ∈ chosenL x.R b1 <;> simp [hv]
  rw [ek] at tk
  rw [eb, mT.2.2.2] at tc
  rw [mT.2.2.2] at ta
  rw [← hA] at ta
  refine wcontract_p sound9 mixed is9 (by rw [nt9]; simp) (c9w S12 S27 S28 S29 S13 S14 S17 x x.T x.R x.sl.all x.sl.len x.sl.lim hm b1 b2 b21 b12 ?_ ?_ (chosenL x.R b1) (chosenL x.R b21) (chosenL x.R b12) m.rows A.rows (exch A (chosenL x.R b21)).rows hRM hAl
    (by rw [exch_len, hAl]) A.w (exch A (chosenL x.R b1)).w (exch A (chosenL x.R b21)).w (exch m (chosenL x.R b12)).w rfl (S13_at hx) ?_ ?_ ?_ ta tk tb tc ?_ ?_ ?_ ?_ ?_ ?_) rfl
  · rw [hb21]; exact Go.u16_andNot_nat b2 b1 h2 h1
  · rw [hb12]; exact Go.u16_or_nat b1 b2 h1 h2
  · rw [hRM, ← hcells]; exact S14_hd m x.R b1 hR hR16 h1
  · rw [hRM, ← hcells]; exact S14_hd m x.R b21 hR hR16 l21
  · rw [hRM, ← hcells]; exact S14_hd m x.R b12 hR hR16 l12
  · have e1 : S27 [.agg A.cells] = some (bv (fitB A)) := by rw [S27, asMv_of]; rfl
    rw [hAf] at e1
    have e2 : A.cells = [iv x.T, iv x.R, iv x.T, iv 1, iv A.w, .list (rowsL A.rows)] := by
      rw [hA]
      simp only [Mv.cells, Mv.cellsW, exch, mT.1, mT.2.1, mT.2.2.1, hR]
    rw [e2] at e1
    exact e1
  · rw [S28_at _ _ (by omega) (by omega)]; simp
  · rw [S28_at _ _ (by rw [exch_len]; omega) (by rw [exch_len]; omega)]; simp
  · exact fun v => S29_at _ v (ok b1).2
  · intro i hi
    rw [hA]
    simp [exch, hi]
  · rw [hA]
    simp only [exch, mT.2.2.2]
    by_cases h0 : chosenL x.R b1 = []
    · simp [h0]
    · simp [h0]

set_option maxRecDepth 100000 in
theorem argU16 {d : D} (h : ArgTy Try.prog 4 33 d) : ∃ n : Nat, n < 65536 ∧ d = .v (.int .u16 n) := by
  simp only [ArgTy, HasTy, Try.underlying33] at h
  obtain ⟨z, h1, h2⟩ := h
  simp only [List.cons.injEq, and_true] at h1
  obtain ⟨c1, c2⟩ := wf_u16 h2
  exact ⟨z.toNat, by omega, by rw [h1, Int.toNat_of_nonneg c1]⟩
theorem params9L : Try.f9.params.toList = [30, 33, 33] := by rw [Try.params9]
set_option maxRecDepth 100000 in
theorem keeps_args (Ds : List D) (h : ArgsTy Try.prog 4 Try.f9.params.toList Ds) : VCp Try.prog 9 Ds (bv true) := by
  rw [params9L] at h
  obtain ⟨d0, r0, rfl, h0, h⟩ := argsTy_cons h
  obtain ⟨d1, r1, rfl, h1, h⟩ := argsTy_cons h
  obtain ⟨d2, r2, rfl, h2, h⟩ := argsTy_cons h
  obtain rfl := argsTy_nil h
  obtain ⟨x, hx, rfl⟩ := argSk h0
  obtain ⟨a, ha, rfl⟩ := argU16 h1
  obtain ⟨b, hb, rfl⟩ := argU16 h2
  exact c9 x hx a b ha hb
theorem keeps_spec {H : Type} (ds : List (DataW H)) (hl : ds.length = Try.f9.params.size) : Rows.turnKeepsSpec.fn H ds = { results := [.lit (.bool true)], args := ds } := by
  rw [Try.params9] at hl
  match ds, hl with
  | [a, b, c], _ => rfl
theorem keeps_tys : ∀ t ∈ Try.f9.params.toList, TyOK t := by
  rw [params9L]
  simp [tyOK30, tyOK33]
set_option maxRecDepth 100000 in
theorem keeps_lifted (os : Os) (started : os.Started) (H : Type) (enc : TypeId × Value → H) :
    ReturnsInHanded {} Try.checked os 9 .any (Rows.turnKeepsSpec.pre6 enc Try.prog Try.f9 Rows.turnKeepsRow.domain false) (Rows.turnKeepsSpec.post enc Try.prog Try.f9 false true false false) := by
  refine returnsInHanded_of_change (C := Try.checked) own started (by kernel_rfl) Try.func9
    (ChangeSpec.witness6 (enc := enc) (C := Try.checked) false ⟨#[], #[.agg #[.int .u8 0, .int .u8 0, .slice none 0 0], .int .u16 0, .int .u16 0], []⟩ 8 (by kernel_rfl) (by kernel_rfl) (by kernel_rfl) (by kernel_rfl)) ?_
  intro W base args ds gs before hval hW _ _
  exact law_contract (P := Try.prog) (fn := Try.f9) (s := Rows.turnKeepsSpec) (n := 4) (tb := 4) laidOut rfl keeps_spec (by kernel_rfl) Try.underlying4 keeps_tys keeps_args W base args ds gs before hval hW
/-- The statement. -/
theorem turnKeeps_holds : Rows.TurnKeepsSaid :=
  OpenClaim.holds_of_wide 9 Try.f9 rfl rfl rfl rfl rfl rfl rfl ⟨rfl, rfl, rfl, rfl, rfl⟩ rfl rfl rfl rfl rfl (by kernel_rfl) Try.func9 (by kernel_rfl)
    (of_decide_eq_true (by kernel_rfl)) (by unfold Func.isWrapper; first | (rw [if_pos (by decide +kernel)]; kernel_rfl) | (rw [if_neg (by decide +kernel)]; exact ⟨rfl, rfl⟩))
    (fun os started H enc _ => keeps_lifted os started H enc)
end Go.Proofs.Ytpmgaaalfdjikaa
