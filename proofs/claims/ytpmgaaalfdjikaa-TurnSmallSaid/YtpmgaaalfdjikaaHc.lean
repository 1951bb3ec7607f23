/- The H semantics: reading memory, addresses. Lemmas; no condition. -/
import Derived.Test.YtpmgaaalfdjikaaHb
namespace Go.Proofs.Ytpmgaaalfdjikaa
open Go.RowKit

theorem add_off (b off j : Nat) : (⟨b, off, none⟩ : Addr).add j = ⟨b, off + j, none⟩ := by unfold Addr.add; split <;> simp_all

section
variable {P : Program} {w : World} {pr : Prot} {tk : Places} {m : Mem}

theorem Rep.anyTok {v : Value} {d : D} (h : Rep w pr noTok v d) : Rep w pr tk v d := h.keeps ⟨fun _ _ h => ⟨rfl, h⟩, fun _ _ h => by cases h⟩

theorem run_isAgg {t : Nat} {g : Bool} (h : isAggT P t = some g) : (isAgg t).run P w = .ok g w := by
  unfold isAggT at h
  cases hu : P.underlying t with
  | none => simp [hu] at h
  | some d => cases d <;> simp [hu] at h <;> subst h <;> simp [isAgg, run_underlying hu]

theorem sizeOf_run {e : Nat} (hi : (P.info? e).isSome) : (sizeOf e).run P w = .ok (P.cellsOf e) w := by
  obtain ⟨i, hi⟩ := Option.isSome_iff_exists.1 hi
  simp [sizeOf, typeInfo, hi, Program.cellsOf]

theorem run_loadAt {t : Nat} {g : Bool} {b off : Nat} {us : Nat → Value} (hg : isAggT P t = some g) (hi : (P.info? t).isSome) (h1 : g = true ∨ P.cellsOf t = 1)
    (hc : ∀ j, j < P.cellsOf t → w.cell? ⟨b, off + j, none⟩ = some (us j)) :
    (Instr.loadAt t (.pointer (some ⟨b, off, none⟩))).run P w = .ok (if g then .agg ((List.range (P.cellsOf t)).map us).toArray else us 0) w := by
  have hs := sizeOf_run (P := P) (w := w) hi
  have hl := run_loadCells (P := P) w ⟨b, off, none⟩ (P.cellsOf t) us (fun j hj => by rw [add_off]; exact hc j hj)
  cases g
  · have h1 : P.cellsOf t = 1 := by simpa using h1
    have h0 := hc 0 (by omega)
    simp only [Nat.add_zero] at h0
    simp [Instr.loadAt, Instr.sureAddr, loadVar, run_isAgg hg, h0]
  · simp [Instr.loadAt, Instr.sureAddr, loadVar, run_isAgg hg, hs, hl]

/-- What the cells from an address on stand for. -/
def CellsAt (w : World) (pr : Prot) (tk : Places) (b off : Nat) (xs : List D) : Prop :=
  ∃ us : Nat → Value, (∀ j, j < xs.length → w.cell? ⟨b, off + j, none⟩ = some (us j) ∧ (us j).oneCell' = true) ∧ ∀ j x, xs[j]? = some x → Rep w pr tk (us j) x

theorem CellsAt.drop {b off k : Nat} {xs : List D} (h : CellsAt w pr tk b off xs) : CellsAt w pr tk b (off + k) (xs.drop k) := by
  obtain ⟨us, h1, h2⟩ := h
  refine ⟨fun j => us (k + j), fun j hj => ?_, fun j x hx => h2 (k + j) x (by simpa using hx)⟩
  have := h1 (k + j) (by simp at hj; omega)
  rwa [Nat.add_assoc]

theorem cellsAt_lptr {b off : Nat} {xs : List D} (h : Rep w pr tk (.pointer (some ⟨b, off, none⟩)) (.lptr xs)) : CellsAt w pr tk b off xs := by
  cases h with
  | lptr us hc hr => exact ⟨us, fun j hj => ⟨(hc j hj).1, (hc j hj).2.2⟩, fun j x hx => (hr j x hx).anyTok⟩

theorem load_cells {t : Nat} {g : Bool} {b off : Nat} {xs : List D} {d : D} (hg : isAggT P t = some g) (hi : (P.info? t).isSome) (h1 : g = true ∨ P.cellsOf t = 1)
    (h : CellsAt w pr tk b off xs) (hn : P.cellsOf t ≤ xs.length) (hd : (if g then some (.agg (xs.take (P.cellsOf t))) else xs[0]?) = some d) :
    ∃ v, (Instr.loadAt t (.pointer (some ⟨b, off, none⟩))).run P w = .ok v w ∧ Rep w pr tk v d := by
  obtain ⟨us, hc, hr⟩ := h
  refine ⟨_, run_loadAt hg hi h1 (fun j hj => (hc j (by omega)).1), ?_⟩
  cases g
  · have h1 : P.cellsOf t = 1 := by simpa using h1
    have hx : xs[0]? = some d := by simpa using hd
    exact hr 0 d hx
  · have hx : d = .agg (xs.take (P.cellsOf t)) := by simpa using hd.symm
    subst hx
    refine .agg (by simp; omega) (fun i c hic => ?_) fun i c x hic hx => ?_
    · simp only [List.getElem?_toArray, List.getElem?_map, Option.map_eq_some_iff] at hic
      obtain ⟨j, hj, rfl⟩ := hic
      have hj' := List.mem_of_getElem? hj
      simp at hj'
      exact (hc j (by omega)).2
    · simp only [List.getElem?_toArray, List.getElem?_map, Option.map_eq_some_iff] at hic
      obtain ⟨j, hj, rfl⟩ := hic
      obtain ⟨hlt, rfl⟩ := List.getElem?_eq_some_iff.1 hj
      simp at hlt
      simp only [List.getElem_range]
      refine hr i x ?_
      rw [List.getElem?_take_of_lt hlt] at hx
      exact hx

theorem cellsAt_box (M : MemOK P w pr tk m) {t : Tok} {xs : List D} (hm : m t = some (.box xs)) {b cap : Nat} (ht : tk t = some (b, cap)) (off : Nat) : CellsAt w pr tk b off (xs.drop off) := by
  obtain ⟨b', cap', C, ty, h1, h3, h4, h5, h6⟩ := M.obj t _ hm
  rw [ht] at h1
  cases h1
  refine ⟨fun j => C.getD (off + j) undef, fun j hj => ?_, fun j x hx => ?_⟩
  · have hlt : off + j < C.size := by simp at hj; omega
    rw [cell_of_row w b (off + j) C ty (0, 0) h3]
    simp only [Array.getElem?_eq_getElem hlt, Array.getD, hlt, dif_pos]
    exact ⟨rfl, h5 _ _ (Array.getElem?_eq_getElem hlt)⟩
  · rw [List.getElem?_drop] at hx
    have hlt : off + j < C.size := by
      have := (List.getElem?_eq_some_iff.1 hx).1
      omega
    have := h6 (off + j) C[off + j] x (Array.getElem?_eq_getElem hlt) hx
    simpa [Array.getD, hlt] using this

theorem row_cell (M : MemOK P w pr tk m) {t : Tok} {g : Tok} {e : Nat} {es : List (List D)} (hm : m t = some (.row g e es)) {b cap : Nat} (ht : tk t = some (b, cap)) {i j : Nat} {c : List D} {d : D} (hc : es[i]? = some c) (hd : c[j]? = some d) :
    ∃ u, w.cell? ⟨b, i * P.cellsOf e + j, none⟩ = some u ∧ u.oneCell' = true ∧ Rep w pr tk u d := by
  obtain ⟨b', cap', C, h1, h3, _, _, _, _, h6⟩ := M.obj t _ hm
  rw [ht] at h1
  cases h1
  obtain ⟨u, hu, h7, h8⟩ := h6 i c hc j d hd
  exact ⟨u, by rw [cell_of_row w b _ C e (0, 0) h3, hu], h7, h8⟩

theorem row_size (M : MemOK P w pr tk m) {t : Tok} {g : Tok} {e : Nat} {es : List (List D)} (hm : m t = some (.row g e es)) : ∀ c ∈ es, c.length = P.cellsOf e := by
  obtain ⟨b', cap', C, h1, h3, _, _, _, h5, h6⟩ := M.obj t _ hm
  exact h5

theorem cellsAt_row (M : MemOK P w pr tk m) {t : Tok} {g : Tok} {e : Nat} {es : List (List D)} (hm : m t = some (.row g e es)) {b cap : Nat} (ht : tk t = some (b, cap)) {i : Nat} {c : List D} (hc : es[i]? = some c) (j : Nat) :
    CellsAt w pr tk b (i * c.length + j) (c.drop j) := by
  have hsz := row_size M hm c (List.mem_of_getElem? hc)
  rw [hsz]
  have key : ∀ k, k < (c.drop j).length → ∃ u, w.cell? ⟨b, i * P.cellsOf e + j + k, none⟩ = some u ∧ u.oneCell' = true ∧ ∀ x, (c.drop j)[k]? = some x → Rep w pr tk u x := fun k hk => by
    simp only [List.length_drop] at hk
    have hjk : j + k < c.length := by omega
    obtain ⟨u, h1, h2, h3⟩ := row_cell M hm ht hc (j := j + k) (d := c[j + k]) (List.getElem?_eq_getElem hjk)
    refine ⟨u, by rw [Nat.add_assoc]; exact h1, h2, fun x hx => ?_⟩
    rw [List.getElem?_drop, List.getElem?_eq_getElem hjk] at hx
    cases hx
    exact h3
  refine ⟨fun k => ((w.cell? ⟨b, i * P.cellsOf e + j + k, none⟩).getD undef), fun k hk => ?_, fun k x hx => ?_⟩
  · obtain ⟨u, h1, h2, _⟩ := key k hk
    simp only [h1, Option.getD_some]
    exact ⟨trivial, h2⟩
  · obtain ⟨u, h1, _, h3⟩ := key k (List.getElem?_eq_some_iff.1 hx).1
    simp only [h1, Option.getD_some]
    exact h3 x hx

theorem load_sound (M : MemOK P w pr tk m) {t : Nat} {g : Bool} {v : Value} {x d : D} (hg : isAggT P t = some g) (hi : (P.info? t).isSome) (h1 : g = true ∨ P.cellsOf t = 1)
    (h : Rep w pr tk v x) (hr : loadV m (P.cellsOf t) g [x] = some d) : ∃ u, (Instr.loadAt t v).run P w = .ok u w ∧ Rep w pr tk u d := by
  cases x <;> simp only [loadV] at hr <;> try (cases hr; done)
  case lptr xs =>
    split at hr
    · cases h with
      | lptr us hc hrr => exact load_cells hg hi h1 (cellsAt_lptr (.lptr us hc hrr)) ‹_› hr
    · cases hr
  case ptr τ off =>
    split at hr
    · rename_i xs hm
      split at hr
      · cases h with
        | ptr ht => exact load_cells hg hi h1 (cellsAt_box M hm ht off) (by simp; omega) (by simpa using hr)
      · cases hr
    · cases hr
  case rptr τ size i j =>
    split at hr
    · rename_i gg e es hm
      rw [Option.bind_eq_some_iff] at hr
      obtain ⟨c, hc, hr⟩ := hr
      split at hr
      · rename_i hcond
        obtain ⟨rfl, hlen⟩ := hcond
        cases h with
        | rptr ht => exact load_cells hg hi h1 (cellsAt_row M hm ht hc j) (by simp; omega) (by simpa using hr)
      · cases hr
    · cases hr

theorem fld_sound {t f o n : Nat} {g : Bool} {v : Value} {x d : D} (hf : fieldOff P t f = some (o, n, g)) (h : Rep w pr tk v x) (hr : fldV o [x] = some d) :
    ∃ u, (Instr.fieldAt t v f).run P w = .ok u w ∧ Rep w pr tk u d := by
  unfold fieldOff at hf
  cases hu : P.underlying t with
  | none => simp [hu] at hf
  | some ds =>
    cases ds <;> simp only [hu] at hf <;> try (cases hf; done)
    rename_i fs
    cases hfs : fs[f]? with
    | none => simp [hfs] at hf
    | some fl =>
      simp only [hfs, Option.bind_some] at hf
      cases hg : isAggT P fl.type with
      | none => simp [hg] at hf
      | some gg =>
        simp only [hg, Option.bind_some] at hf
        split at hf
        · cases hf
        · rename_i hsz
          simp only [Option.some.injEq, Prod.mk.injEq] at hf
          obtain ⟨rfl, _, _⟩ := hf
          have hinfo : ∃ i, P.info? fl.type = some i := by
            cases hi : P.info? fl.type with
            | none => simp [Program.cellsOf, hi] at hsz
            | some i => exact ⟨i, rfl⟩
          obtain ⟨i, hi⟩ := hinfo
          have hi0 : i.size ≠ 0 := by simpa [Program.cellsOf, hi] using hsz
          have run : ∀ b off, (Instr.fieldAt t (.pointer (some ⟨b, off, none⟩)) f).run P w = .ok (.pointer (some ⟨b, off + fl.offset, none⟩)) w := fun b off => by
            simp [Instr.fieldAt, run_underlying hu, hfs, Instr.sureAddr, fieldPlace, sizeOf, typeInfo, hi, hi0, add_off]
          cases x <;> simp only [fldV] at hr <;> try (cases hr; done)
          case lptr xs =>
            cases h with
            | lptr us hc hrr =>
              cases hr
              rename_i b off
              refine ⟨_, run b off, .lptr (fun j => us (fl.offset + j)) (fun j hj => ?_) fun j y hy => hrr _ y (by simpa using hy)⟩
              have := hc (fl.offset + j) (by simp at hj; omega)
              rwa [← Nat.add_assoc] at this
          case ptr τ off =>
            cases hr
            cases h with
            | ptr ht => exact ⟨_, run _ off, .ptr ht⟩
          case rptr τ size m j =>
            cases hr
            cases h with
            | rptr ht => exact ⟨_, run _ _, by rw [Nat.add_assoc]; exact .rptr ht⟩

theorem idx_sound {t e : Nat} {v u : Value} {x y d : D} (hu : P.underlying t = some (.slice e)) (hi : (P.info? e).isSome)
    (h : Rep w pr tk v x) (hy : Rep w pr tk u y) (hr : idxV e (P.cellsOf e) [x, y] = some d) : ∃ z, (Instr.indexAt t v u).run P w = .ok z w ∧ Rep w pr tk z d := by
  cases x <;> cases y <;> simp only [idxV] at hr <;> try (cases hr; done)
  case list.v es yv =>
    cases yv <;> simp only [] at hr <;> try (cases hr; done)
    rename_i k n
    cases hy
    split at hr
    · cases hr
    · rename_i hn
      cases hc : es[n.toNat]? with
      | none => simp [hc] at hr
      | some c =>
        simp only [hc, Option.bind_some] at hr
        split at hr
        · rename_i hsz
          cases hr
          have hlt := (List.getElem?_eq_some_iff.1 hc).1
          cases h with
          | nil' => simp at hlt
          | emp => simp at hlt
          | list us hes hcap hcell hrr =>
            rename_i b off cap size
            have hsize : size = P.cellsOf e := by rw [← hes c (List.mem_of_getElem? hc), hsz]
            subst hsize
            refine ⟨.pointer (some ⟨b, off + n.toNat * P.cellsOf e, none⟩), ?_, .lptr (fun j => us (n.toNat * P.cellsOf e + j)) (fun j hj => ?_) fun j z hz => hrr _ c hc j z hz⟩
            · simp [Instr.indexAt, run_underlying hu, asIntOf, sizeOf_run hi, add_off, show 0 ≤ n ∧ n < (es.length : Int) by omega]
            · have hlen : n.toNat * P.cellsOf e + j < es.length * P.cellsOf e := by
                have : (n.toNat + 1) * P.cellsOf e ≤ es.length * P.cellsOf e := Nat.mul_le_mul_right _ hlt
                rw [Nat.add_mul] at this
                omega
              have := hcell _ hlen
              rwa [← Nat.add_assoc] at this
        · cases hr
  case sl.v τ size' off len lim yv =>
    cases yv <;> simp only [] at hr <;> try (cases hr; done)
    rename_i k n
    cases hy
    split at hr
    · cases hr
    · rename_i hn
      split at hr
      · rename_i hcond
        obtain ⟨rfl, hlt⟩ := hcond
        cases hr
        cases h with
        | sl ht hc hl ho =>
          rename_i b cap c o
          have ho : o = off * P.cellsOf e := by
            rcases ho with ho | ho
            · exact ho
            · omega
          subst ho
          refine ⟨.pointer (some ⟨b, (off + n.toNat) * P.cellsOf e + 0, none⟩), ?_, .rptr ht⟩
          simp [Instr.indexAt, run_underlying hu, asIntOf, sizeOf_run hi, add_off, Nat.add_mul, show 0 ≤ n ∧ n < (len : Int) by omega]
      · cases hr

theorem aidx_sound {t e k : Nat} {v u : Value} {x y d : D} (hu : P.underlying t = some (.array k e)) (hi : (P.info? e).isSome)
    (h : Rep w pr tk v x) (hy : Rep w pr tk u y) (hr : aidxV k (P.cellsOf e) [x, y] = some d) : ∃ z, (Instr.indexAt t v u).run P w = .ok z w ∧ Rep w pr tk z d := by
  have run : ∀ b off (q : IntKind) (n : Int), 0 ≤ n ∧ n < (k : Int) → (Instr.indexAt t (.pointer (some ⟨b, off, none⟩)) (.int q n)).run P w = .ok (.pointer (some ⟨b, off + n.toNat * P.cellsOf e, none⟩)) w := fun b off q n hn => by
    simp [Instr.indexAt, run_underlying hu, asIntOf, Instr.sureAddr, sizeOf_run hi, add_off, hn]
  cases x <;> cases y <;> simp only [aidxV] at hr <;> try (cases hr; done)
  all_goals
    rename_i yv
    cases yv <;> simp only [] at hr <;> try (cases hr; done)
    rename_i q n
    cases hy
    split at hr <;> try (cases hr; done)
    rename_i hn
    cases hr
  case lptr.v.int =>
    cases h with
    | lptr us hc hrr =>
      rename_i b off
      refine ⟨_, run b off q n hn, .lptr (fun j => us (n.toNat * P.cellsOf e + j)) (fun j hj => ?_) fun j y hy => hrr _ y (by simpa using hy)⟩
      have := hc (n.toNat * P.cellsOf e + j) (by simp at hj; omega)
      rwa [← Nat.add_assoc] at this
  case ptr.v.int =>
    cases h with
    | ptr ht => exact ⟨_, run _ _ q n hn, .ptr ht⟩
  case rptr.v.int =>
    cases h with
    | rptr ht => exact ⟨_, run _ _ q n hn, by rw [Nat.add_assoc]; exact .rptr ht⟩
end
end Go.Proofs.Ytpmgaaalfdjikaa
