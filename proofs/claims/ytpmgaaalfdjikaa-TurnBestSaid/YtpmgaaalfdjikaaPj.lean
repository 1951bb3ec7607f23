/- Contracts: awake. Lemmas; no condition. -/
import Derived.Test.YtpmgaaalfdjikaaPi
namespace Go.Proofs.Ytpmgaaalfdjikaa
open Go.RowKit
set_option linter.unusedSimpArgs false
set_option linter.unusedVariables false


theorem viewRow_vs {f : D → Option D} (hf : ∀ x, f (.v x) = some (.v x)) : ∀ {l : List D}, l.all D.flatC = true → l.mapM f = some l
  | [], _ => rfl
  | a :: l, h => by
    simp only [List.all_cons, Bool.and_eq_true] at h
    have ha : f a = some a := by cases a <;> first | exact hf _ | (simp [D.flatC] at h; done)
    rw [List.mapM_cons, ha, viewRow_vs hf h.2]; rfl
theorem viewRow_mapM {f : D → Option D} (hf : ∀ x, f (.v x) = some (.v x)) (l : List D) : viewRow f l = l.mapM f := by
  unfold viewRow
  split
  · rename_i h; exact (viewRow_vs hf h).symm
  · rfl
theorem viewRows_mapM {f : D → Option D} (hf : ∀ x, f (.v x) = some (.v x)) (l : List (List D)) : viewRows f l = l.mapM (viewRow f) := by
  unfold viewRows
  split
  · rename_i h
    symm
    induction l with
    | nil => rfl
    | cons c l ih =>
      simp only [List.all_cons, Bool.and_eq_true] at h
      rw [List.mapM_cons, viewRow_flat h.1, ih h.2]; rfl
  · rfl
theorem viewRows_cons (f : D → Option D) (c : List D) (l : List (List D)) (hf : ∀ x, f (.v x) = some (.v x)) : viewRows f (c :: l) = (viewRow f c).bind fun c' => (viewRows f l).map fun l' => c' :: l' := by
  rw [viewRows_mapM hf, viewRows_mapM hf, List.mapM_cons]
  simp only [Option.bind_eq_bind, Option.pure_def]
  cases viewRow f c with
  | none => rfl
  | some c' => simp only [Option.bind_some]; cases l.mapM (viewRow f) <;> rfl
@[simp] theorem viewRows_nil (f : D → Option D) : viewRows f [] = some [] := rfl
@[simp] theorem viewRows5 (m : Mem) (c : List D) (l : List (List D)) : viewRows (viewC m 5) (c :: l) = (viewRow (viewC m 5) c).bind fun c' => (viewRows (viewC m 5) l).map fun l' => c' :: l' := viewRows_cons _ _ _ fun _ => rfl
@[simp] theorem viewRows4 (m : Mem) (c : List D) (l : List (List D)) : viewRows (viewC m 4) (c :: l) = (viewRow (viewC m 4) c).bind fun c' => (viewRows (viewC m 4) l).map fun l' => c' :: l' := viewRows_cons _ _ _ fun _ => rfl
theorem ints1 (a : Int) : [[D.v (.int .i64 a)]] = ints [a] := rfl
theorem ints2 (a b : Int) : [[D.v (.int .i64 a)], [D.v (.int .i64 b)]] = ints [a, b] := rfl
theorem lists2 (a b : List Int) : [[D.list (ints a)], [D.list (ints b)]] = lists [a, b] := rfl

def exRows : List Row := part exRow 3 3 0
def exM' : Mv := ⟨3, 3, 3, 1, 2, exRows⟩
def exT : List Row := (exch exM' [2]).rows
theorem exRows_len : exRows.length = 9 := by decide +kernel
theorem exT_len : exT.length = 9 := by decide +kernel
theorem exT_6 : exT[6]? = some ⟨2, 0, 6, 1, 1⟩ := by decide +kernel
def S23 : List D → Option (D × Mem)
  | [] => some (.agg [iv 3, iv 3, iv 3, iv 1, iv 2, .sl [] 5 0 9 none], rowMem 53 (rowsL exRows))
  | _ => none
theorem s23 : OkQ 23 S23 := fun ds d mm h => by
  unfold S23 at h
  split at h
  · cases h
    exact c23
  · cases h
theorem ex_1 : contestR ⟨3, 3, 3, 1, 2, exRows⟩ 1 2 = (3, 0) := by decide +kernel
theorem ex_2 : contestR ⟨3, 3, 3, 1, 2, exRows⟩ 1 4 = (0, 0) := by decide +kernel
theorem ex_3 : unbR ⟨3, 3, 3, 1, 2, exRows⟩ = (54, 0) := by decide +kernel
theorem ex_4 : lastR ⟨3, 3, 3, 1, 2, exRows⟩ 2 = (.tup [.sl [] 1 0 2 none, iv 0], rowMem 3 (ints [1, 2])) := by
  have h1 : lastE ⟨3, 3, 3, 1, 2, exRows⟩ 2 = 0 := by decide +kernel
  simp [lastR, h1]
  rfl
theorem ex_5 : turnR ⟨3, 3, 3, 1, 2, exRows⟩ [2] = (.tup [.agg [iv 3, iv 3, iv 3, iv 1, iv 1, .sl [] 5 0 9 none], iv 0], rowMem 53 (rowsL exT)) := by
  have h1 : turnE ⟨3, 3, 3, 1, 2, exRows⟩ [2] = 0 := by decide +kernel
  have h2 : exRows.isEmpty = false := by decide +kernel
  simp [turnR, h1, h2, exRows_len]
  exact ⟨rfl, rfl⟩
theorem ex_take : (rowsL exRows).take 9 = rowsL exRows := List.take_of_length_le (by simp [exRows_len])
theorem exT_take : (rowsL exT).take 9 = rowsL exT := List.take_of_length_le (by simp [exT_len])
theorem exT_at : (rowsL exT)[6]? = some [iv 2, iv 0, iv 6, iv 1, iv 1] := by
  rw [rowsL_at (by rw [exT_len]; omega)]
  have := exT_6
  rw [List.getElem?_eq_getElem (by rw [exT_len]; omega)] at this
  rw [Option.some.inj this]; rfl
theorem ex_6 : contestR ⟨3, 3, 3, 1, 1, exT⟩ 1 2 = (-1, 0) := by decide +kernel
theorem ex_7 : bestR ⟨3, 3, 3, 1, 2, exRows⟩ [[], [2]] = (0, 0) := by decide +kernel

theorem wwp_cut {Γ : Env} {cs : List CStm} {b : WC} {Q : VE → St → Prop} {s : St} (I : St → Prop) (h1 : runK (cruns Γ cs s) I) (h2 : ∀ s', I s' → wwp Γ b Q s') : wwp Γ (.seq (.reg cs) b) Q s := by
  obtain ⟨s', e, hi⟩ := h1
  exact ⟨s', e, h2 s' hi⟩
end Go.Proofs.Ytpmgaaalfdjikaa
