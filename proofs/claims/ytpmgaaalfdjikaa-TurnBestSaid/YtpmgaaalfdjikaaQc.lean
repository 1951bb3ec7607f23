/- What the arguments of the chapter's laws are. Lemmas; no condition. -/
import Derived.Test.YtpmgaaalfdjikaaPl
import Derived.Test.YtpmgaaalfdjikaaQa
namespace Go.Proofs.Ytpmgaaalfdjikaa
open Go.RowKit Go.ChangeShapes Go.WideShapes Go.ChangeAt
set_option linter.unusedSimpArgs false
set_option linter.unusedVariables false
set_option linter.constructorNameAsVariable false
set_option maxRecDepth 100000

theorem own : ownKnob Try.prog.godebug = none := by kernel_rfl
theorem laidOut : laidOutB Try.prog = true := by kernel_rfl
theorem cells3 : Try.prog.cellsOf 3 = 1 := by kernel_rfl
theorem cells5 : Try.prog.cellsOf 5 = 1 := by kernel_rfl
theorem cells28 : Try.prog.cellsOf 28 = 1 := by kernel_rfl
theorem cells30 : Try.prog.cellsOf 30 = 3 := by kernel_rfl
theorem list3 {α : Type} {l : List α} (h : l.length = 3) : ∃ a b c, l = [a, b, c] := by
  match l, h with
  | [a, b, c], _ => exact ⟨a, b, c, rfl⟩
theorem list_of {α β : Type} (f : α → β) (Q : α → Prop) : ∀ {l : List β}, (∀ y ∈ l, ∃ x, y = f x ∧ Q x) → ∃ r : List α, l = r.map f ∧ ∀ x ∈ r, Q x
  | [], _ => ⟨[], rfl, by simp⟩
  | y :: l, h => by
    obtain ⟨x, rfl, hx⟩ := h y List.mem_cons_self
    obtain ⟨r, rfl, hr⟩ := list_of f Q fun z hz => h z (List.mem_cons_of_mem _ hz)
    refine ⟨x :: r, rfl, fun z hz => ?_⟩
    rcases List.mem_cons.1 hz with rfl | hz
    · exact hx
    · exact hr z hz
theorem wf_u8 {z : Int} (h : (Lit.int .u8 z).wf = true) : 0 ≤ z ∧ z < 256 := by
  have : 0 ≤ z ∧ z ≤ 255 := by simpa [Lit.wf, IntKind.min, IntKind.max, IntKind.signed, IntKind.bits] using h
  omega
theorem wf_u16 {z : Int} (h : (Lit.int .u16 z).wf = true) : 0 ≤ z ∧ z < 65536 := by
  have : 0 ≤ z ∧ z ≤ 65535 := by simpa [Lit.wf, IntKind.min, IntKind.max, IntKind.signed, IntKind.bits] using h
  omega
theorem wf_i64 {z : Int} (h : (Lit.int .i64 z).wf = true) : -9223372036854775808 ≤ z ∧ z ≤ 9223372036854775807 := by
  simpa [Lit.wf, IntKind.min, IntKind.max, IntKind.signed, IntKind.bits] using h
theorem argI {d : D} (h : ArgTy Try.prog 4 3 d) : ∃ z : Int, d = iv z ∧ -9223372036854775808 ≤ z ∧ z ≤ 9223372036854775807 := by
  simp only [ArgTy, HasTy, Try.underlying3] at h
  obtain ⟨z, h1, h2⟩ := h
  simp only [List.cons.injEq, and_true] at h1
  exact ⟨z, h1, wf_i64 h2⟩
theorem argSk {d : D} (h : ArgTy Try.prog 4 30 d) : ∃ x : Sk, x.ok ∧ d = .agg x.cells := by
  simp only [ArgTy, Try.underlying30] at h
  obtain ⟨ds, rfl, h⟩ := h
  rw [HasTy, Try.underlying30] at h
  simp only [cells30] at h
  obtain ⟨hl, h⟩ := h
  obtain ⟨a, b, c, rfl⟩ := list3 hl
  simp only [List.mem_cons, List.not_mem_nil, or_false, forall_eq_or_imp, forall_eq, HasTy, Try.underlying5, Try.underlying28, cells5, cells28, List.drop_zero, List.drop_succ_cons, List.take_succ_cons, List.take_zero] at h
  obtain ⟨⟨z1, e1, w1⟩, ⟨z2, e2, w2⟩, ⟨es, e3, w3, w4⟩⟩ := h
  simp only [List.cons.injEq, and_true] at e1 e2 e3
  subst e1
  subst e2
  subst e3
  obtain ⟨a1, a2⟩ := wf_u8 w1
  obtain ⟨b1, b2⟩ := wf_u8 w2
  obtain ⟨l, rfl, hlt⟩ := list_of (fun n : Nat => [D.v (.int .u8 n)]) (fun n => n < 256) (l := es) fun y hy => by
    obtain ⟨z, rfl, hz⟩ := w4 y hy
    obtain ⟨c1, c2⟩ := wf_u8 hz
    exact ⟨z.toNat, by rw [Int.toNat_of_nonneg c1], by omega⟩
  refine ⟨⟨z1.toNat, z2.toNat, l⟩, ⟨by simp only; omega, by simp only; omega, hlt, ?_⟩, ?_⟩
  · simp only [List.length_map, maxLen] at w3
    simp only
    omega
  · simp only [Sk.cells, Int.toNat_of_nonneg a1, Int.toNat_of_nonneg b1]
    rfl
theorem argsTy_cons {P : Program} {n t : Nat} {ts : List Nat} {Ds : List D} (h : ArgsTy P n (t :: ts) Ds) : ∃ d ds, Ds = d :: ds ∧ ArgTy P n t d ∧ ArgsTy P n ts ds := by
  cases Ds with
  | nil => exact h.elim
  | cons d ds => exact ⟨d, ds, rfl, h.1, h.2⟩
theorem argsTy_nil {P : Program} {n : Nat} {Ds : List D} (h : ArgsTy P n [] Ds) : Ds = [] := by
  cases Ds with
  | nil => rfl
  | cons d ds => exact h.elim
def TyOK (t : Nat) : Prop := t < Try.prog.types.size ∧ okTy Try.prog 4 t = true ∧ Try.prog.readableRec t = true
theorem tyOK3 : TyOK 3 := ⟨of_decide_eq_true (by kernel_rfl), by kernel_rfl, by kernel_rfl⟩
theorem tyOK5 : TyOK 5 := ⟨of_decide_eq_true (by kernel_rfl), by kernel_rfl, by kernel_rfl⟩
theorem tyOK24 : TyOK 24 := ⟨of_decide_eq_true (by kernel_rfl), by kernel_rfl, by kernel_rfl⟩
theorem tyOK25 : TyOK 25 := ⟨of_decide_eq_true (by kernel_rfl), by kernel_rfl, by kernel_rfl⟩
theorem tyOK30 : TyOK 30 := ⟨of_decide_eq_true (by kernel_rfl), by kernel_rfl, by kernel_rfl⟩
theorem tyOK31 : TyOK 31 := ⟨of_decide_eq_true (by kernel_rfl), by kernel_rfl, by kernel_rfl⟩
theorem tyOK33 : TyOK 33 := ⟨of_decide_eq_true (by kernel_rfl), by kernel_rfl, by kernel_rfl⟩
theorem tyOK34 : TyOK 34 := ⟨of_decide_eq_true (by kernel_rfl), by kernel_rfl, by kernel_rfl⟩
end Go.Proofs.Ytpmgaaalfdjikaa
