/- The H semantics: building, cutting and comparing. Lemmas; no condition. -/
import Derived.Test.YtpmgaaalfdjikaaHc
namespace Go.Proofs.Ytpmgaaalfdjikaa
open Go.RowKit
section
variable {P : Program} {w : World} {pr : Prot} {tk : Places} {m : Mem}

theorem dVal_repV {v : Value} {d : D} (h : dVal v = some d) : Rep w pr tk v d ∧ v.oneCell' = true := by
  unfold dVal at h
  split at h <;> cases h <;> exact ⟨by first | exact Rep.nil | exact Rep.v rfl | exact Rep.nilmap, rfl⟩

theorem zero_cells {l : List Value} {z : List D} (h : l.mapM dVal = some z) : RepCs w pr tk l.toArray z := by
  have key : ∀ (l : List Value) (z : List D), l.mapM dVal = some z → l.length = z.length ∧ (∀ (i : Nat) (c : Value), l[i]? = some c → c.oneCell' = true) ∧ ∀ (i : Nat) (c : Value) (x : D), l[i]? = some c → z[i]? = some x → Rep w pr tk c x := by
    intro l
    induction l with
    | nil => intro z h; simp at h; subst h; simp
    | cons v l ih =>
      intro z h
      simp only [List.mapM_cons, Option.bind_eq_bind, Option.bind_eq_some_iff, Option.pure_def, Option.some.injEq] at h
      obtain ⟨d, hd, z', hz', rfl⟩ := h
      obtain ⟨h1, h2, h3⟩ := ih z' hz'
      have hv := dVal_repV (w := w) (pr := pr) (tk := tk) hd
      refine ⟨by simp [h1], fun i c hc => ?_, fun i c x hc hx => ?_⟩
      · match i, hc with
        | 0, hc => simp at hc; subst hc; exact hv.2
        | i + 1, hc => exact h2 i c (by simpa using hc)
      · match i, hc, hx with
        | 0, hc, hx => simp at hc hx; subst hc; subst hx; exact hv.1
        | i + 1, hc, hx => exact h3 i c x (by simpa using hc) (by simpa using hx)
  obtain ⟨h1, h2, h3⟩ := key l z h
  exact ⟨by simpa using h1, fun i c hc => h2 i c (by simpa using hc), fun i c x hc hx => h3 i c x (by simpa using hc) hx⟩

theorem dZero_spec {t : Nat} {z : List D} (h : dZero P t = some z) : ∃ i zv, P.info? t = some i ∧ i.zero = some zv ∧ RepCs w pr tk zv.cells z := by
  unfold dZero at h
  obtain ⟨zv, hzv, hz⟩ := Option.bind_eq_some_iff.1 h
  obtain ⟨i, hi, hzi⟩ := Option.bind_eq_some_iff.1 hzv
  exact ⟨i, zv, hi, hzi, by have := zero_cells (w := w) (pr := pr) (tk := tk) hz; simpa using this⟩

/-- The cells of a value that may stand in cells. -/
theorem cells_of_rep {v : Value} {d : D} (h : Rep w pr tk v d) (hd : d.cells.all D.okC = true) : RepCs w pr tk v.cells d.cells := by
  have one : d.okC = true → d.cells = [d] → RepCs w pr tk v.cells d.cells := fun hk he => by
    have h1 : v.oneCell' = true := h.oneCell hk
    have hv : v.cells = #[v] := by cases v <;> first | rfl | (simp [Value.oneCell'] at h1)
    rw [hv, he]
    refine ⟨rfl, fun i c hc => ?_, fun i c x hc hx => ?_⟩
    · match i, hc with
      | 0, hc => simp at hc; subst hc; exact h1
      | i + 1, hc => simp at hc
    · match i, hc, hx with
      | 0, hc, hx => simp at hc hx; subst hc; subst hx; exact h
      | i + 1, hc, _ => simp at hc
  cases d
  case agg xs =>
    obtain ⟨cs, rfl, h2⟩ := rep_agg.1 h
    exact h2
  case undef => simp [D.cells, D.okC] at hd
  case tup => simp [D.cells, D.okC] at hd
  all_goals exact one rfl rfl

theorem fill_get (off : Nat) : ∀ (l : List Value) (k : Nat) (C : Array Value) (i : Nat), ((l.zipIdx k).foldl (fun cs (p : Value × Nat) => cs.setIfInBounds (off + p.2) p.1) C)[i]? =
    if off + k ≤ i ∧ i < off + k + l.length ∧ i < C.size then l[i - (off + k)]? else C[i]?
  | [], k, C, i => by
    simp only [List.zipIdx_nil, List.foldl_nil, List.length_nil, Nat.add_zero]
    rw [if_neg (by omega)]
  | v :: l, k, C, i => by
    simp only [List.zipIdx_cons, List.foldl_cons, List.length_cons]
    rw [fill_get off l (k + 1)]
    simp only [Array.size_setIfInBounds, Array.getElem?_setIfInBounds]
    by_cases h1 : off + (k + 1) ≤ i ∧ i < off + (k + 1) + l.length ∧ i < C.size
    · rw [if_pos h1, if_pos (by omega)]
      have : i - (off + k) = (i - (off + (k + 1))) + 1 := by omega
      rw [this, List.getElem?_cons_succ]
    · rw [if_neg h1]
      by_cases h2 : off + k = i
      · rw [if_pos h2]
        subst h2
        by_cases h3 : off + k < C.size
        · rw [if_pos h3, if_pos (by omega)]; simp
        · rw [if_neg h3, if_neg (by omega)]
          rw [Array.getElem?_eq_none (by omega)]
      · rw [if_neg h2, if_neg (by omega)]

theorem fill_size (off : Nat) : ∀ (l : List (Value × Nat)) (C : Array Value), (l.foldl (fun cs (p : Value × Nat) => cs.setIfInBounds (off + p.2) p.1) C).size = C.size
  | [], _ => rfl
  | _ :: l, C => by simp only [List.foldl_cons]; rw [fill_size off l]; simp

theorem putAt_get {zs xs : List D} {off i : Nat} (h : off + xs.length ≤ zs.length) : (putAt zs off xs)[i]? = if off ≤ i ∧ i < off + xs.length then xs[i - off]? else zs[i]? := by
  unfold putAt
  by_cases h1 : i < off
  · rw [if_neg (by omega), List.append_assoc, List.getElem?_append_left (by simp; omega), List.getElem?_take_of_lt h1]
  · by_cases h2 : i < off + xs.length
    · rw [if_pos (by omega), List.getElem?_append_left (by simp; omega), List.getElem?_append_right (by simp; omega)]
      congr 1
      simp; omega
    · rw [if_neg (by omega), List.getElem?_append_right (by simp; omega), List.getElem?_drop]
      congr 1
      simp; omega
theorem putAt_length {zs xs : List D} {off : Nat} (h : off + xs.length ≤ zs.length) : (putAt zs off xs).length = zs.length := by
  unfold putAt; simp; omega

theorem put_rep {C : Array Value} {zs : List D} (h : RepCs w pr tk C zs) {V : Array Value} {xs : List D} (hv : RepCs w pr tk V xs) {off : Nat} (ho : off + xs.length ≤ zs.length) :
    RepCs w pr tk (V.zipIdx.foldl (fun cs (p : Value × Nat) => cs.setIfInBounds (off + p.2) p.1) C) (putAt zs off xs) := by
  have e : V.zipIdx.foldl (fun cs (p : Value × Nat) => cs.setIfInBounds (off + p.2) p.1) C = (V.toList.zipIdx 0).foldl (fun cs (p : Value × Nat) => cs.setIfInBounds (off + p.2) p.1) C := by
    rw [← Array.foldl_toList, Array.toList_zipIdx]
  rw [e]
  have hg := fun i => fill_get off V.toList 0 C i
  simp only [Nat.add_zero, Array.length_toList] at hg
  refine ⟨by rw [fill_size, putAt_length ho]; exact h.1, fun i c hc => ?_, fun i c x hc hx => ?_⟩
  · rw [hg] at hc
    split at hc
    · exact hv.2.1 (i - off) c (by simpa using hc)
    · exact h.2.1 i c hc
  · rw [hg] at hc
    rw [putAt_get ho] at hx
    have h1 := hv.1
    have h2 := h.1
    split at hc
    · rw [if_pos (by omega)] at hx
      exact hv.2.2 (i - off) c x (by simpa using hc) hx
    · rename_i hn
      by_cases hin : off ≤ i ∧ i < off + xs.length
      · exfalso
        exact hn ⟨hin.1, by omega, by omega⟩
      · rw [if_neg hin] at hx
        exact h.2.2 i c x hc hx

def Reps (w : World) (pr : Prot) (tk : Places) : List Value → List D → Prop
  | [], [] => True
  | v :: vs, d :: ds => Rep w pr tk v d ∧ Reps w pr tk vs ds
  | _, _ => False

theorem fill_rep {place : Nat → Option (Nat × Nat)} : ∀ (parts : List (Nat × Value)) (ps : List (Nat × Nat)) (ds : List D) (C : Array Value) (zs out : List D), RepCs w pr tk C zs →
    parts.mapM (fun p => place p.1) = some ps → Reps w pr tk (parts.map (·.2)) ds → (ds.all fun d => d.cells.all D.okC) = true → fillV zs ps ds = some out →
    ∃ C', Instr.fill place C parts = some C' ∧ RepCs w pr tk C' out
  | [], ps, ds, C, zs, out, h, hp, hr, hok, hf => by
    simp at hp
    subst hp
    cases ds with
    | nil => cases hf; exact ⟨C, rfl, h⟩
    | cons => cases hf
  | (i, v) :: parts, ps, ds, C, zs, out, h, hp, hr, hok, hf => by
    simp only [List.mapM_cons, Option.bind_eq_bind, Option.bind_eq_some_iff, Option.pure_def, Option.some.injEq] at hp
    obtain ⟨q, hq, ps', hps', rfl⟩ := hp
    obtain ⟨off, n⟩ := q
    cases ds with
    | nil => exact absurd hr (by simp [Reps])
    | cons d ds =>
      simp only [List.all_cons, Bool.and_eq_true] at hok
      simp only [fillV] at hf
      split at hf
      · rename_i hc
        obtain ⟨hn, hoff⟩ := hc
        have hv : RepCs w pr tk v.cells d.cells := cells_of_rep hr.1 hok.1
        have h1 := put_rep h hv (off := off) (by omega)
        obtain ⟨C', g1, g2⟩ := fill_rep parts ps' ds _ _ out h1 hps' hr.2 hok.2 hf
        refine ⟨C', ?_, g2⟩
        have hvs := hv.1
        have hcs := h.1
        simp only [Instr.fill, hq]
        have e1 : v.cells.size = n := by omega
        have e2 : off + v.cells.size ≤ C.size := by omega
        rw [if_neg (by rw [Bool.or_eq_true, decide_eq_true_iff, decide_eq_true_iff]; omega)]
        exact g1
      · cases hf

theorem built_sound {t : Nat} {idx : List Nat} {zs : List D} {ps : List (Nat × Nat)} {parts : List (Nat × Value)} {ds : List D} {d : D} (hd : dBuild P t idx = some (zs, ps)) (hidx : parts.map (·.1) = idx)
    (hr : Reps w pr tk (parts.map (·.2)) ds) (hrun : buildV zs ps ds = some d) : ∃ C, P.built t parts = some C ∧ Rep w pr tk (.agg C) d := by
  unfold buildV at hrun
  split at hrun
  · rename_i hok
    obtain ⟨out, ho, rfl⟩ := Option.map_eq_some_iff.1 hrun
    unfold dBuild at hd
    obtain ⟨z, hz, hd⟩ := Option.bind_eq_some_iff.1 hd
    obtain ⟨i, zv, hi, hzv, hrep⟩ := dZero_spec (w := w) (pr := pr) (tk := tk) hz
    have fin : ∀ (place : Nat → Option (Nat × Nat)), z = zs → idx.mapM place = some ps → (P.built t parts = Instr.fill place zv.cells parts) → ∃ C, P.built t parts = some C ∧ Rep w pr tk (.agg C) (.agg out) := by
      intro place he hp hb
      subst he
      have hp' : parts.mapM (fun p => place p.1) = some ps := by
        rw [← hp, ← hidx, List.mapM_map]
        rfl
      obtain ⟨C, g1, g2⟩ := fill_rep parts ps ds zv.cells z out hrep hp' hr hok ho
      exact ⟨C, hb.trans g1, rep_agg.2 ⟨C, rfl, g2⟩⟩
    split at hd
    · rename_i fs hu
      obtain ⟨pl, hpl, hd⟩ := Option.bind_eq_some_iff.1 hd
      obtain ⟨ps', hps, he⟩ := Option.map_eq_some_iff.1 hd
      cases he
      exact fin _ rfl hps (by simp only [Program.built, hi, hu, hzv, hpl])
    · rename_i m e hu
      obtain ⟨ie, hie, he⟩ := Option.map_eq_some_iff.1 hd
      cases he
      have : ∀ (l : List Nat), l.mapM (fun k => some (k * ie.size, ie.size)) = some (l.map fun k => (k * ie.size, ie.size)) := by
        intro l
        induction l with
        | nil => rfl
        | cons a l ih => simp [List.mapM_cons, ih]
      exact fin _ rfl (this idx) (by simp only [Program.built, hi, hu, hzv, hie])
    · cases hd
  · cases hrun

theorem chop_get : ∀ (size n : Nat) (l : List D) (i : Nat), i < n → (chop size n l)[i]? = some ((l.drop (i * size)).take size)
  | size, 0, l, i, h => by omega
  | size, n + 1, l, 0, _ => by simp [chop]
  | size, n + 1, l, i + 1, h => by
    simp only [chop, List.getElem?_cons_succ]
    rw [chop_get size n _ i (by omega), List.drop_drop]
    congr 3
    rw [Nat.add_mul]; omega
theorem chop_length : ∀ (size n : Nat) (l : List D), (chop size n l).length = n
  | _, 0, _ => rfl
  | size, n + 1, l => by simp [chop, chop_length size n]

/-- Cells as a row's. -/
theorem row_of_cells {e n : Nat} {C : Array Value} {out : List D} (h : RepCs w pr tk C out) (hl : out.length = n * P.cellsOf e) : RepRow P w pr tk C e (chop (P.cellsOf e) n out) := by
  have hlen := chop_length (P.cellsOf e) n out
  refine ⟨fun c hc => ?_, fun i c hc j d hd => ?_⟩
  · obtain ⟨i, hi, rfl⟩ := List.getElem_of_mem hc
    have hi' : i < n := by rw [hlen] at hi; exact hi
    have hg := chop_get (P.cellsOf e) n out i hi'
    rw [List.getElem?_eq_getElem hi] at hg
    rw [Option.some.inj hg]
    have : (i + 1) * P.cellsOf e ≤ n * P.cellsOf e := Nat.mul_le_mul_right _ hi'
    rw [Nat.add_mul] at this
    simp; omega
  · have hi : i < n := by have := (List.getElem?_eq_some_iff.1 hc).1; omega
    rw [chop_get (P.cellsOf e) n out i hi] at hc
    cases hc
    have hj : j < P.cellsOf e := by have := (List.getElem?_eq_some_iff.1 hd).1; simp at this; omega
    rw [List.getElem?_take_of_lt hj, List.getElem?_drop] at hd
    have hlt : i * P.cellsOf e + j < C.size := by rw [h.1]; exact (List.getElem?_eq_some_iff.1 hd).1
    exact ⟨_, Array.getElem?_eq_getElem hlt, h.2.1 _ _ (Array.getElem?_eq_getElem hlt), h.2.2 _ _ d (Array.getElem?_eq_getElem hlt) hd⟩
end
end Go.Proofs.Ytpmgaaalfdjikaa
