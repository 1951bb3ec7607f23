/- The H semantics: views, contracts, the relation of states to worlds, and the steps that compute or call. Lemmas; no condition. -/
import Derived.Test.YtpmgaaalfdjikaaHd
namespace Go.Proofs.Ytpmgaaalfdjikaa
open Go.RowKit

abbrev noPr : Prot := fun _ _ => False
abbrev allPr (w : World) : Prot := fun b _ => b < w.heap.size
abbrev noMem : Mem := fun _ => none

theorem mapM_get {α β : Type} {f : α → Option β} : ∀ {l : List α} {l' : List β}, l.mapM f = some l' → l'.length = l.length ∧ ∀ (i : Nat) (x' : β), l'[i]? = some x' → ∃ x : α, l[i]? = some x ∧ f x = some x'
  | [], l', h => by simp at h; subst h; simp
  | a :: l, l', h => by
    simp only [List.mapM_cons, Option.bind_eq_bind, Option.bind_eq_some_iff, Option.pure_def, Option.some.injEq] at h
    obtain ⟨b, hb, r, hr, rfl⟩ := h
    obtain ⟨h1, h2⟩ := mapM_get hr
    refine ⟨by simp [h1], fun i x' hx => ?_⟩
    match i, hx with
    | 0, hx => simp at hx; subst hx; exact ⟨a, rfl, hb⟩
    | i + 1, hx => exact h2 i x' (by simpa using hx)

section
variable {P : Program} {w : World} {pr : Prot} {tk : Places} {m : Mem}

theorem rep_flatC {w' : World} {pr' : Prot} {tk' : Places} {v : Value} {d : D} (h : Rep w pr tk v d) (hd : d.flatC = true) : Rep w' pr' tk' v d := by
  cases d <;> simp only [D.flatC] at hd <;> try (cases hd; done)
  cases h; exact .v ‹_›
theorem rep_flat {w' : World} {pr' : Prot} {tk' : Places} {v : Value} {d : D} (h : Rep w pr tk v d) (hd : d.flat = true) : Rep w' pr' tk' v d := by
  cases d <;> simp only [D.flat] at hd <;> try (simp [D.flatC] at hd; done)
  · exact rep_flatC h hd
  · simp only [List.all_eq_true] at hd
    cases h with
    | agg h1 h2 h3 => exact .agg h1 h2 fun i c x hc hx => rep_flatC (h3 i c x hc hx) (hd x (List.mem_of_getElem? hx))
  · simp only [List.all_eq_true] at hd
    cases h with
    | tup h1 h3 =>
      refine .tup h1 fun i c x hc hx => ?_
      have hx' := hd x (List.mem_of_getElem? hx)
      have h4 := h3 i c x hc hx
      cases x
      case agg ys =>
        simp only [List.all_eq_true] at hx'
        cases h4 with
        | agg h1 h2 h3 => exact .agg h1 h2 fun i c x hc hx => rep_flatC (h3 i c x hc hx) (hx' x (List.mem_of_getElem? hx))
      all_goals first | exact rep_flatC h4 hx' | (simp [D.flatC] at hx'; done)

theorem rep_noTC {v : Value} {d : D} (h : Rep w pr tk v d) (hd : d.noTC = true) {tk' : Places} : Rep w pr tk' v d := by
  cases h <;> first
    | exact .v ‹_›
    | exact .nil
    | exact .nil'
    | exact .mt
    | exact .emp
    | exact .list _ ‹_› ‹_› ‹_› ‹_›
    | exact .lptr _ ‹_› ‹_›
    | exact .nilmap
    | (simp [D.noTC] at hd; done)
theorem rep_noT {v : Value} {d : D} (h : Rep w pr tk v d) (hd : d.noT = true) {tk' : Places} : Rep w pr tk' v d := by
  cases d
  case agg xs =>
    simp only [D.noT, List.all_eq_true] at hd
    cases h with
    | agg h1 h2 h3 => exact .agg h1 h2 fun i c x hc hx => rep_noTC (h3 i c x hc hx) (hd x (List.mem_of_getElem? hx))
  case clo f xs =>
    simp only [D.noT, List.all_eq_true] at hd
    cases h with
    | clo h1 h3 => exact .clo h1 fun i c x hc hx => rep_noTC (h3 i c x hc hx) (hd x (List.mem_of_getElem? hx))
  case tup xs =>
    simp only [D.noT, List.all_eq_true] at hd
    cases h with
    | tup h1 h3 =>
      refine .tup h1 fun i c x hc hx => ?_
      have hx' := hd x (List.mem_of_getElem? hx)
      have h4 := h3 i c x hc hx
      cases x
      case agg ys =>
        simp only [List.all_eq_true] at hx'
        cases h4 with
        | agg h1 h2 h3 => exact .agg h1 h2 fun i c x hc hx => rep_noTC (h3 i c x hc hx) (hx' x (List.mem_of_getElem? hx))
      all_goals exact rep_noTC h4 hx'
  all_goals exact rep_noTC h (by simpa only [D.noT] using hd)

/-- What is seen of a slice's row. -/
theorem elems_cells (M : MemOK P w pr tk m) {v : Value} {d : D} {es : List (List D)} (h : Rep w pr tk v d) (he : d.elems m = some es) :
    ((v = .slice none 0 0 ∨ ∃ a cap, v = .slice (some a) 0 cap) ∧ es = []) ∨ ∃ (b off cap size : Nat) (us : Nat → Value), v = .slice (some ⟨b, off, none⟩) es.length cap ∧ es.length ≤ cap ∧ (∀ c ∈ es, c.length = size) ∧
      (∀ j, j < es.length * size → w.cell? ⟨b, off + j, none⟩ = some (us j) ∧ (us j).oneCell' = true) ∧
      ∀ (i : Nat) (c : List D), es[i]? = some c → ∀ (j : Nat) (x : D), c[j]? = some x → Rep w pr tk (us (i * size + j)) x := by
  cases d <;> simp only [D.elems] at he <;> try (cases he; done)
  case nil => cases he; cases h; exact .inl ⟨.inl rfl, rfl⟩
  case mt => cases he; cases h; exact .inl ⟨.inr ⟨_, _, rfl⟩, rfl⟩
  case list es' =>
    cases he
    cases h with
    | nil' => exact .inl ⟨.inl rfl, rfl⟩
    | emp => exact .inl ⟨.inr ⟨_, _, rfl⟩, rfl⟩
    | list us hes hcap hcell hrr =>
      exact .inr ⟨_, _, _, _, us, rfl, hcap, hes, fun j hj => ⟨(hcell j hj).1, (hcell j hj).2.2⟩, fun i c hc j x hx => (hrr i c hc j x hx).anyTok⟩
  case sl t size off len lim =>
    split at he
    · rename_i g e es0 hm
      split at he
      · rename_i hc
        obtain ⟨hlen, hall⟩ := hc
        cases he
        have hl : ((es0.drop off).take len).length = len := by simp; omega
        cases h with
        | sl ht hcc hll ho =>
          rename_i b cap c o
          have hsz : ∀ q ∈ es0, q.length = size := fun q hq => by simpa using List.all_eq_true.1 hall q hq
          have hsz' := row_size M hm
          have hse : es0 = [] ∨ size = P.cellsOf e := by
            cases h0 : es0 with
            | nil => exact .inl rfl
            | cons q r => exact .inr (by rw [← hsz q (by rw [h0]; simp), hsz' q (by rw [h0]; simp)])
          right
          refine ⟨b, o, c, size, fun j => (w.cell? ⟨b, o + j, none⟩).getD undef, by rw [hl], by rw [hl]; exact hll, fun q hq => hsz q (List.mem_of_mem_drop (List.mem_of_mem_take hq)), fun j hj => ?_, fun i q hq j x hx => ?_⟩
          · rw [hl] at hj
            have hlen0 : 0 < len := by rcases Nat.eq_zero_or_pos len with h | h; subst h; simp at hj; exact h
            have hsize0 : 0 < size := by rcases Nat.eq_zero_or_pos size with h | h; subst h; simp at hj; exact h
            have ho : o = off * size := by rcases ho with h | h; exact h; omega
            have hse : size = P.cellsOf e := by rcases hse with h | h; subst h; simp at hlen; omega; exact h
            have hdiv : j / size < len := Nat.div_lt_of_lt_mul (by rw [Nat.mul_comm]; exact hj)
            have hmod : j % size < size := Nat.mod_lt _ hsize0
            have hi : off + j / size < es0.length := by omega
            have hcl : es0[off + j / size].length = size := hsz _ (List.getElem_mem hi)
            obtain ⟨u, h1, h2, _⟩ := row_cell M hm ht (i := off + j / size) (j := j % size) (c := es0[off + j / size]) (d := es0[off + j / size][j % size]'(by rw [hcl]; exact hmod)) (List.getElem?_eq_getElem hi) (List.getElem?_eq_getElem _)
            have he1 : (off + j / size) * P.cellsOf e + j % size = o + j := by
              rw [← hse, ho, Nat.add_mul, Nat.add_assoc]
              congr 1
              rw [Nat.mul_comm]; exact Nat.div_add_mod j size
            rw [he1] at h1
            simp only [h1, Option.getD_some]
            exact ⟨trivial, h2⟩
          · have hi : i < len := by have := (List.getElem?_eq_some_iff.1 hq).1; omega
            rw [List.getElem?_take_of_lt hi, List.getElem?_drop] at hq
            have hcl := hsz q (List.mem_of_getElem? hq)
            have hj : j < size := by rw [← hcl]; exact (List.getElem?_eq_some_iff.1 hx).1
            have ho : o = off * size := by rcases ho with h | h; exact h; omega
            have hse : size = P.cellsOf e := by rw [← hcl, hsz' q (List.mem_of_getElem? hq)]
            obtain ⟨u, h1, _, h3⟩ := row_cell M hm ht hq hx
            have he1 : (off + i) * P.cellsOf e + j = o + (i * size + j) := by rw [← hse, ho, Nat.add_mul, Nat.add_assoc]
            rw [he1] at h1
            simp only [h1, Option.getD_some]
            exact h3
      · cases he
    · rename_i xs hm
      split at he
      · rename_i hc
        obtain ⟨rfl, hlen⟩ := hc
        cases he
        have hl : (((xs.drop off).take len).map fun d => [d]).length = len := by simp; omega
        cases h with
        | sl ht hcc hll ho =>
          rename_i b cap c o
          obtain ⟨b', cap', C, ty, g1, g2, g3⟩ := M.obj _ _ hm
          rw [ht] at g1; cases g1
          right
          refine ⟨b, o, c, 1, fun j => (w.cell? ⟨b, o + j, none⟩).getD undef, by rw [hl], by rw [hl]; exact hll, fun q hq => ?_, fun j hj => ?_, fun i q hq j x hx => ?_⟩
          · obtain ⟨_, _, rfl⟩ := List.mem_map.1 hq; rfl
          · rw [hl] at hj
            have ho : o = off := by rcases ho with h | h; omega; omega
            subst ho
            have hjl : o + j < C.size := by rw [g3.1]; omega
            have hcell : w.cell? ⟨b, o + j, none⟩ = some C[o + j] := by rw [cell_of_row w b _ C ty (0, 0) g2]; exact Array.getElem?_eq_getElem hjl
            simp only [hcell, Option.getD_some]
            exact ⟨trivial, g3.2.1 _ _ (Array.getElem?_eq_getElem hjl)⟩
          · have hi : i < len := by have := (List.getElem?_eq_some_iff.1 hq).1; omega
            have ho : o = off := by rcases ho with h | h; omega; omega
            subst ho
            rw [List.getElem?_map, List.getElem?_take_of_lt hi, List.getElem?_drop] at hq
            obtain ⟨d0, hd0, rfl⟩ := Option.map_eq_some_iff.1 hq
            have hj : j = 0 := by have := (List.getElem?_eq_some_iff.1 hx).1; simpa using this
            subst hj
            simp only [List.getElem?_cons_zero, Option.some.injEq] at hx
            subst hx
            have hil : o + i < C.size := by rw [g3.1]; omega
            have hcell : w.cell? ⟨b, o + (i * 1 + 0), none⟩ = some C[o + i] := by rw [Nat.mul_one, Nat.add_zero, cell_of_row w b _ C ty (0, 0) g2]; exact Array.getElem?_eq_getElem hil
            simp only [hcell, Option.getD_some]
            exact g3.2.2 _ _ _ (Array.getElem?_eq_getElem hil) hd0
      · cases he
    · cases he

theorem viewRow_get {f : D → Option D} {c c' : List D} (h : viewRow f c = some c') : c'.length = c.length ∧ ∀ (i : Nat) (x' : D), c'[i]? = some x' → ∃ x : D, c[i]? = some x ∧ (x.flatC = true ∧ x' = x ∨ f x = some x') := by
  unfold viewRow at h
  split at h
  · rename_i hall
    cases h
    exact ⟨rfl, fun i x' hx => ⟨x', hx, .inl ⟨List.all_eq_true.1 hall x' (List.mem_of_getElem? hx), rfl⟩⟩⟩
  · obtain ⟨h1, h2⟩ := mapM_get h
    exact ⟨h1, fun i x' hx => let ⟨x, a, b⟩ := h2 i x' hx; ⟨x, a, .inr b⟩⟩

theorem viewRows_get {f : D → Option D} {es es' : List (List D)} (h : viewRows f es = some es') : es'.length = es.length ∧ ∀ (i : Nat) (c' : List D), es'[i]? = some c' → ∃ c : List D, es[i]? = some c ∧ c'.length = c.length ∧
    ∀ (j : Nat) (x' : D), c'[j]? = some x' → ∃ x : D, c[j]? = some x ∧ (x.flatC = true ∧ x' = x ∨ f x = some x') := by
  unfold viewRows at h
  split at h
  · rename_i hall
    cases h
    exact ⟨rfl, fun i c hc => ⟨c, hc, rfl, fun j x hx => ⟨x, hx, .inl ⟨List.all_eq_true.1 (List.all_eq_true.1 hall c (List.mem_of_getElem? hc)) x (List.mem_of_getElem? hx), rfl⟩⟩⟩⟩
  · obtain ⟨h1, h2⟩ := mapM_get h
    exact ⟨h1, fun i c' hc => let ⟨c, a, b⟩ := h2 i c' hc; ⟨c, a, (viewRow_get b).1, (viewRow_get b).2⟩⟩

theorem viewC_sound (M : MemOK P w pr tk m) (hpr : ∀ b o, pr b o → b < w.heap.size) : ∀ (n : Nat) (v : Value) (d d' : D), viewC m n d = some d' → Rep w pr tk v d → Rep w (allPr w) noTok v d'
  | 0, _, _, _, h, _ => by simp [viewC] at h
  | n + 1, v, d, d', h, hr => by
    have K : Keeps w w pr (allPr w) tk tk := ⟨fun b o h => ⟨rfl, hpr b o h⟩, fun _ _ h => h⟩
    have cellpr : ∀ {b o : Nat} {u : Value}, w.cell? ⟨b, o, none⟩ = some u → b < w.heap.size := fun h => World.block_lt_of_cell? w _ h
    have step : ∀ {v : Value} {x x' : D}, Rep w pr tk v x → (x.flatC = true ∧ x' = x ∨ viewC m n x = some x') → Rep w (allPr w) noTok v x' := fun {v x x'} hv h => by
      rcases h with ⟨h1, rfl⟩ | h1
      · exact rep_flatC hv h1
      · exact viewC_sound M hpr n v x x' h1 hv
    cases d <;> simp only [viewC] at h <;> try (cases h; done)
    case v x => cases h; cases hr; exact .v ‹_›
    case nil => cases h; cases hr; exact .nil'
    case mt => cases h; exact rep_noTC ((mt_list hr).keeps K) rfl
    case list es => cases h; exact rep_noTC (hr.keeps K) rfl
    case lptr xs => cases h; exact rep_noTC (hr.keeps K) rfl
    case nilmap => cases h; exact rep_noTC (hr.keeps K) rfl
    case sl t size off len lim =>
      rw [Option.bind_eq_some_iff] at h
      obtain ⟨es, he, h⟩ := h
      obtain ⟨es', hv, rfl⟩ := Option.map_eq_some_iff.1 h
      obtain ⟨hl, hg⟩ := viewRows_get hv
      rcases elems_cells M hr he with ⟨hv0, rfl⟩ | ⟨b, o, cap, sz, us, rfl, h1, h2, h3, h4⟩
      · have : es' = [] := List.eq_nil_of_length_eq_zero (by simpa using hl)
        subst this
        rcases hv0 with rfl | ⟨a, cap, rfl⟩
        · exact .nil'
        · exact .emp
      · have hcap : es'.length ≤ cap := by omega
        have := Rep.list (w := w) (pr := allPr w) (tk := noTok) (b := b) (off := o) (cap := cap) (es := es') (size := sz) us (fun c' hc' => by
            obtain ⟨i, hi, rfl⟩ := List.getElem_of_mem hc'
            obtain ⟨c, hc, hlc, _⟩ := hg i _ (List.getElem?_eq_getElem hi)
            rw [hlc, h2 c (List.mem_of_getElem? hc)]) hcap (fun j hj => by
              rw [hl] at hj
              exact ⟨(h3 j hj).1, cellpr (h3 j hj).1, (h3 j hj).2⟩) (fun i c' hc' j x' hx' => by
                obtain ⟨c, hc, _, hg2⟩ := hg i c' hc'
                obtain ⟨x, hx, hfx⟩ := hg2 j x' hx'
                exact step (h4 i c hc j x hx) hfx)
        rw [hl] at this
        exact this
    case ptr t off =>
      split at h
      · rename_i xs hm
        split at h
        · obtain ⟨c', hv, rfl⟩ := Option.map_eq_some_iff.1 h
          obtain ⟨hl, hg⟩ := viewRow_get hv
          cases hr with
          | ptr ht =>
            obtain ⟨us, h1, h2⟩ := cellsAt_box M hm ht off
            refine .lptr us (fun j hj => ?_) fun j x' hx' => ?_
            · rw [hl] at hj
              exact ⟨(h1 j hj).1, cellpr (h1 j hj).1, (h1 j hj).2⟩
            · obtain ⟨x, hx, hfx⟩ := hg j x' hx'
              exact step (h2 j x hx) hfx
        · cases h
      · cases h
    case rptr t size i j =>
      split at h
      · rename_i g e es hm
        rw [Option.bind_eq_some_iff] at h
        obtain ⟨c, hc, h⟩ := h
        split at h
        · rename_i hcond
          obtain ⟨rfl, _⟩ := hcond
          obtain ⟨c', hv, rfl⟩ := Option.map_eq_some_iff.1 h
          obtain ⟨hl, hg⟩ := viewRow_get hv
          cases hr with
          | rptr ht =>
            obtain ⟨us, h1, h2⟩ := cellsAt_row M hm ht hc j
            refine .lptr us (fun k hk => ?_) fun k x' hx' => ?_
            · rw [hl] at hk
              exact ⟨(h1 k hk).1, cellpr (h1 k hk).1, (h1 k hk).2⟩
            · obtain ⟨x, hx, hfx⟩ := hg k x' hx'
              exact step (h2 k x hx) hfx
        · cases h
      · cases h
    case clo f xs =>
      obtain ⟨c', hv, rfl⟩ := Option.map_eq_some_iff.1 h
      obtain ⟨hl, hg⟩ := viewRow_get hv
      cases hr with
      | clo h1 h3 =>
        refine .clo (by rw [hl]; exact h1) fun i c x' hc hx' => ?_
        obtain ⟨x, hx, hfx⟩ := hg i x' hx'
        exact step (h3 i c x hc hx) hfx

theorem viewA_sound (M : MemOK P w pr tk m) (hpr : ∀ b o, pr b o → b < w.heap.size) {v : Value} {d d' : D} (h : viewA m d = some d') (hr : Rep w pr tk v d) : Rep w (allPr w) noTok v d' := by
  cases d
  case agg xs =>
    obtain ⟨c', hv, rfl⟩ := Option.map_eq_some_iff.1 h
    obtain ⟨hl, hg⟩ := viewRow_get hv
    cases hr with
    | agg h1 h2 h3 =>
      refine .agg (by rw [hl]; exact h1) h2 fun i c x' hc hx' => ?_
      obtain ⟨x, hx, hfx⟩ := hg i x' hx'
      rcases hfx with ⟨hf, rfl⟩ | hf
      · exact rep_flatC (h3 i c _ hc hx) hf
      · exact viewC_sound M hpr 6 c x x' hf (h3 i c x hc hx)
  all_goals exact viewC_sound M hpr 6 v _ d' (by simpa only [viewA] using h) hr

/-- .. of data without tokens: what it leans on is the same. -/
theorem viewC_noTC {n : Nat} {v : Value} {d d' : D} (h : viewC m n d = some d') (hd : d.noTC = true) (hr : Rep w pr tk v d) : Rep w pr noTok v d' := by
  cases n with
  | zero => simp [viewC] at h
  | succ n =>
    cases d <;> simp only [D.noTC] at hd <;> try (cases hd; done)
    all_goals simp only [viewC, Option.some.injEq] at h; subst h
    case v x => exact rep_noTC hr rfl
    case nil => cases hr; exact .nil'
    case mt => exact rep_noTC (mt_list hr) rfl
    case list => exact rep_noTC hr rfl
    case lptr => exact rep_noTC hr rfl
    case nilmap => exact rep_noTC hr rfl
theorem viewA_noT {v : Value} {d d' : D} (h : viewA m d = some d') (hd : d.noT = true) (hr : Rep w pr tk v d) : Rep w pr noTok v d' := by
  have row : ∀ {xs c' : List D} {n : Nat}, xs.all D.noTC = true → viewRow (viewC m n) xs = some c' → c'.length = xs.length ∧ ∀ (u : Value) (i : Nat) (x' : D), c'[i]? = some x' → ∃ x, xs[i]? = some x ∧ (Rep w pr tk u x → Rep w pr noTok u x') := by
    intro xs c' n hall hv
    obtain ⟨hl, hg⟩ := viewRow_get hv
    refine ⟨hl, fun u i x' hx' => ?_⟩
    obtain ⟨x, hx, hfx⟩ := hg i x' hx'
    refine ⟨x, hx, fun hu => ?_⟩
    rcases hfx with ⟨hf, rfl⟩ | hf
    · exact rep_flatC hu hf
    · exact viewC_noTC hf (List.all_eq_true.1 hall x (List.mem_of_getElem? hx)) hu
  cases d
  case agg xs =>
    obtain ⟨c', hv, rfl⟩ := Option.map_eq_some_iff.1 h
    obtain ⟨hl, hg⟩ := row (by simpa only [D.noT] using hd) hv
    cases hr with
    | agg h1 h2 h3 =>
      refine .agg (by rw [hl]; exact h1) h2 fun i c x' hc hx' => ?_
      obtain ⟨x, hx, hfx⟩ := hg c i x' hx'
      exact hfx (h3 i c x hc hx)
  case clo f xs =>
    obtain ⟨c', hv, rfl⟩ := Option.map_eq_some_iff.1 h
    obtain ⟨hl, hg⟩ := row (by simpa only [D.noT] using hd) hv
    cases hr with
    | clo h1 h3 =>
      refine .clo (by rw [hl]; exact h1) fun i c x' hc hx' => ?_
      obtain ⟨x, hx, hfx⟩ := hg c i x' hx'
      exact hfx (h3 i c x hc hx)
  case tup xs => simp [viewA, viewC] at h
  all_goals exact viewC_noTC (n := 6) (by simpa only [viewA] using h) (by simpa only [D.noT] using hd) hr

theorem reps_view {pr' : Prot} {p : D → Bool} (H : ∀ v d d', viewA m d = some d' → p d = true → Rep w pr tk v d → Rep w pr' noTok v d') : ∀ {vs : List Value} {ds as : List D}, Reps w pr tk vs ds → ds.mapM (viewA m) = some as → ds.all p = true → Reps w pr' noTok vs as
  | [], [], as, _, h, _ => by simp at h; subst h; trivial
  | v :: vs, d :: ds, as, hr, h, hp => by
    simp only [List.mapM_cons, Option.bind_eq_bind, Option.bind_eq_some_iff, Option.pure_def, Option.some.injEq] at h
    obtain ⟨d', hd, r, hr', rfl⟩ := h
    simp only [List.all_cons, Bool.and_eq_true] at hp
    exact ⟨H v d d' hd hp.1 hr.1, reps_view H hr.2 hr' hp.2⟩
  | [], _ :: _, _, h, _, _ => absurd h (by simp [Reps])
  | _ :: _, [], _, h, _, _ => absurd h (by simp [Reps])
end

def HasBody (P : Program) (f : Nat) : Prop := ∃ fn, P.funcs[f]? = some fn ∧ fn.body.isSome = true ∧ (fn.name == "runtime.NumGoroutine") = false

/-- What a function hands back leans on what it was handed, or on nothing. -/
def VCp (P : Program) (f : Nat) (ds : List D) (d : D) : Prop :=
  HasBody P f ∧ ∀ (w : World) (pr : Prot) (cargs : Array Value), (∀ b o, pr b o → b < w.heap.size) → Reps w pr noTok cargs.toList ds →
    Calls P f cargs w fun e w' => ∃ v, e = .returned v ∧ Chg (fun _ => False) w w' ∧ Rep w' pr noTok v d

/-- What a function hands back is new. -/
def VCq (P : Program) (f : Nat) (ds : List D) (d : D) (m' : Mem) : Prop :=
  HasBody P f ∧ ∀ (w : World) (pr : Prot) (cargs : Array Value), (∀ b o, pr b o → b < w.heap.size) → Reps w pr noTok cargs.toList ds →
    Calls P f cargs w fun e w' => ∃ v tk', e = .returned v ∧ Chg (fun _ => False) w w' ∧ MemOK P w' noPr tk' m' ∧ (∀ t o b c, m' t = some o → tk' t = some (b, c) → w.heap.size ≤ b) ∧ Rep w' noPr tk' v d

/-- The tokens of a caller, in a function that is called. -/
def upPl (tk : Places) : Places := fun t => match t with
  | 0 :: r => tk r
  | _ => none

/-- A function that is handed memory: it may change it, and make new one. -/
def VCm (P : Program) (f : Nat) (m : Mem) (ds : List D) (d : D) (m' : Mem) : Prop :=
  HasBody P f ∧ ∀ (w : World) (pr : Prot) (tk : Places) (cargs : Array Value), (∀ b o, pr b o → b < w.heap.size) → (∀ b o, pr b o → ¬ blocksOf tk m b) → MemOK P w pr tk m → Reps w pr tk cargs.toList ds →
    Calls P f cargs w fun e w' => ∃ v tk', e = .returned v ∧ Chg (blocksOf tk m) w w' ∧ (∀ t, tk' (0 :: t) = tk t) ∧ MemOK P w' pr tk' m' ∧ (∀ t o b c, m' t = some o → tk' t = some (b, c) → w.heap.size ≤ b ∨ blocksOf tk m b) ∧ Rep w' pr tk' v d

structure Sound (P : Program) (Γ : Env) : Prop where
  p : ∀ f ds d, Γ.p f ds = some d → VCp P f ds d
  q : ∀ f ds d m', Γ.q f ds = some (d, m') → VCq P f ds d m'
  m : ∀ f m ds d m', Γ.m f m ds = some (d, m') → VCm P f m ds d m'

/-- Blocks that may change, and where the caller's tokens lie. -/
structure Area where
  a : Nat → Prop
  z : Places
def noArea : Area := ⟨fun _ => False, fun _ => none⟩

structure Rel (P : Program) (w0 : World) (pr : Prot) (A : Area) (n : Nat) (w : World) (cs : Array Value) (σ : St) (tk : Places) : Prop where
  size : cs.size = n
  chg : Chg A.a w0 w
  prlt : ∀ b o, pr b o → b < w0.heap.size
  prA : ∀ b o, pr b o → ¬ A.a b
  mem : MemOK P w pr tk σ.m
  live : ∀ t o b c, σ.m t = some o → tk t = some (b, c) → w0.heap.size ≤ b ∨ A.a b
  fresh : ∀ x k r, σ.c x ≤ k → tk ((x + 1) :: k :: r) = none
  zero : ∀ t, tk (0 :: t) = A.z t
  slot : ∀ i, i < n → Rep w pr tk (cs.getD i undef) (σ.s i)

inductive VArg where
  | t (i : Nat)
  | c (d : D)
  deriving Inhabited

def VArg.val (s : Nat → D) : VArg → D
  | .t i => s i
  | .c d => d

def dArg (n : Nat) : Operand → Option VArg
  | .tmp t => if t < n then some (.t t) else none
  | .const v => (dVal v).map .c
  | .func f => some (.c (.clo f []))
  | .global _ => none

section
variable {P : Program} {w0 w : World} {pr : Prot} {A : Area} {n : Nat} {tk : Places} {σ : St} {a : Act}

theorem dArg_rep (R : Rel P w0 pr A n w a.tmps σ tk) {x : Operand} {g : VArg} (h : dArg n x = some g) : Rep w pr tk (a.eval x) (g.val σ.s) := by
  cases x <;> simp only [dArg] at h
  case tmp t =>
    split at h <;> cases h
    exact R.slot t ‹_›
  case const v =>
    obtain ⟨d, hd, rfl⟩ := Option.map_eq_some_iff.1 h
    exact (dVal_repV hd).1
  case func f =>
    cases h
    exact .clo (by simp) (fun i c x hc => by simp at hc)
  case global => cases h

theorem args_rep (R : Rel P w0 pr A n w a.tmps σ tk) : ∀ {xs : List Operand} {gs : List VArg}, xs.mapM (dArg n) = some gs → Reps w pr tk (xs.map a.eval) (gs.map (VArg.val σ.s))
  | [], gs, h => by simp at h; subst h; trivial
  | x :: xs, gs, h => by
    simp only [List.mapM_cons, Option.bind_eq_bind, Option.bind_eq_some_iff, Option.pure_def, Option.some.injEq] at h
    obtain ⟨g, hg, gs', hgs, rfl⟩ := h
    exact ⟨dArg_rep R hg, args_rep R hgs⟩

theorem Rel.prw (R : Rel P w0 pr A n w a.tmps σ tk) : ∀ b o, pr b o → b < w.heap.size := fun b o h => Nat.lt_of_lt_of_le (R.prlt b o h) R.chg.size

/-- A frozen cell is in no block of the memory. -/
theorem Rel.free (R : Rel P w0 pr A n w a.tmps σ tk) {t : Tok} {o : HO} {b c x : Nat} (hm : σ.m t = some o) (ht : tk t = some (b, c)) : ¬ pr b x := fun h => by
  rcases R.live t o b c hm ht with h1 | h1
  · have := R.prlt b x h; omega
  · exact R.prA b x h h1

theorem getD_put {cs : Array Value} {i x : Nat} {v : Value} (hx : x < cs.size) : (cs.setIfInBounds x v).getD i undef = if i = x then v else cs.getD i undef := by
  simp only [Array.getD_eq_getD_getElem?, Array.getElem?_setIfInBounds]
  by_cases h : x = i
  · subst h; simp [hx]
  · simp [h, show i ≠ x from fun e => h e.symm]

/-- Nothing that was there is changed; tokens may be new. -/
theorem Rel.keepsN (R : Rel P w0 pr A n w a.tmps σ tk) {w' : World} {tk' : Places} (hc : Chg (fun _ => False) w w') (htk : ∀ t p, tk t = some p → tk' t = some p) : Keeps w w' pr pr tk tk' :=
  ⟨fun b o h => ⟨hc.cell o (R.prw b o h) id, h⟩, htk⟩

/-- A step that writes one slot and lets the world grow. -/
theorem Rel.put (R : Rel P w0 pr A n w a.tmps σ tk) {w' : World} {x : Nat} {v : Value} {d : D} (hx : x < n) (hc : Chg (fun _ => False) w w') (hv : Rep w' pr tk v d) :
    Rel P w0 pr A n w' (a.put (some x) v).tmps (σ.set x d) tk := by
  have K := R.keepsN hc (fun _ _ h => h)
  refine ⟨by simp [Act.put, R.size], R.chg.trans hc (fun _ _ h => h.elim), R.prlt, R.prA, R.mem.keeps K fun t o b c h ht => ?_, R.live, R.fresh, R.zero, fun i hi => ?_⟩
  · obtain ⟨b', c', h1, h2⟩ := (R.mem.obj t o h).place
    rw [ht] at h1
    cases h1
    exact hc.block b h2 id
  · simp only [Act.put, getD_put (show x < a.tmps.size by rw [R.size]; exact hx), St.set]
    split
    · exact hv
    · exact (R.slot i hi).keeps K

theorem Rel.drop (R : Rel P w0 pr A n w a.tmps σ tk) {x : Nat} (hx : x < n) : Rel P w0 pr A n w (a.put (some x) undef).tmps (σ.set x (.tup [])) tk :=
  R.put hx (Chg.refl _ _) (.tup (cs := #[]) rfl (fun i c x hc => by simp at hc))

/-- Where no call is made. -/
theorem step_pure {fr : Nat → Nat} {Γ : Env} {o : Oper} {k : PK} {xs : List Operand} {gs : List VArg} {d : D} {x : Nat} {next : Act → World → Prop} {Q : Exit → Act → World → Prop}
    (R : Rel P w0 pr A n w a.tmps σ tk) (hd : dPure P fr o.op = some (k, xs)) (hk : k.simple = true) (hgs : xs.mapM (dArg n) = some gs) (hx : o.dst = some x) (hxn : x < n)
    (hrun : k.run Γ σ.m (gs.map (VArg.val σ.s)) = some d) (h : ∀ v w', Rel P w0 pr A n w' (a.put (some x) v).tmps (σ.set x d) tk → next (a.put (some x) v) w') : o.wp P a w next Q := by
  obtain ⟨v, h1, h3⟩ := pure_sound (o := o) R.mem hd hk (args_rep R hgs) hrun
  unfold Oper.wp
  rw [h1, Oper.upon_value, hx]
  exact h v w (R.put hxn (Chg.refl _ _) h3)

/-- A call whose result is no memory of its own. -/
theorem callV_sound {Γ : Env} (hΓ : Sound P Γ) {m : Mem} (M : MemOK P w pr tk m) {f : Nat} {cargs : Array Value} {ds : List D} {d : D} (hrep : Reps w pr tk cargs.toList ds) (hpr : ∀ b o, pr b o → b < w.heap.size)
    (hrun : callV Γ m f ds = some d) : HasBody P f ∧ Calls P f cargs w fun e w' => ∃ v, e = .returned v ∧ Chg (fun _ => False) w w' ∧ Rep w' pr tk v d := by
  unfold callV at hrun
  rw [Option.bind_eq_some_iff] at hrun
  obtain ⟨as, has, hrun⟩ := hrun
  rw [Option.bind_eq_some_iff] at hrun
  obtain ⟨d', h1, h2⟩ := hrun
  split at h2
  · rename_i hc
    cases h2
    obtain ⟨hb, hcon⟩ := hΓ.p f _ _ h1
    refine ⟨hb, ?_⟩
    simp only [Bool.or_eq_true, Bool.and_eq_true] at hc
    rcases hc with hfl | ⟨hall, hno⟩
    · have ha := reps_view (pr' := allPr w) (p := fun _ => true) (fun v d d' h _ hr => viewA_sound M hpr h hr) hrep has (by simp)
      refine (hcon w (allPr w) cargs (fun _ _ h => h) ha).mono ?_
      rintro e w' ⟨v, rfl, h3, h5⟩
      exact ⟨v, rfl, h3, rep_flat h5 hfl⟩
    · have ha := reps_view (pr' := pr) (p := D.noT) (fun v d d' h hp hr => viewA_noT h hp hr) hrep has hall
      refine (hcon w pr cargs hpr ha).mono ?_
      rintro e w' ⟨v, rfl, h3, h5⟩
      exact ⟨v, rfl, h3, rep_noT h5 hno⟩
  · cases h2

theorem run_callFunc {f : Nat} {cargs : Array Value} (h : HasBody P f) : (callFunc f cargs).run P w = .ok (.enter f cargs) w := by
  obtain ⟨fn, h1, h2, h3⟩ := h
  have h3 : fn.name ≠ "runtime.NumGoroutine" := by simpa using h3
  obtain ⟨c, hc⟩ := Option.isSome_iff_exists.1 h2
  simp [callFunc, h1, h3, hc]

theorem reps_append {pr : Prot} : ∀ {l l' : List Value} {m m' : List D}, Reps w pr tk l m → Reps w pr tk l' m' → Reps w pr tk (l ++ l') (m ++ m')
  | [], _, [], _, _, h' => h'
  | _ :: l, _, _ :: m, _, h, h' => ⟨h.1, reps_append h.2 h'⟩
  | [], _, _ :: _, _, h, _ => absurd h (by simp [Reps])
  | _ :: _, _, [], _, h, _ => absurd h (by simp [Reps])
theorem reps_of {pr : Prot} : ∀ {l : List Value} {m : List D}, l.length = m.length → (∀ (i : Nat) (c : Value) (x : D), l[i]? = some c → m[i]? = some x → Rep w pr tk c x) → Reps w pr tk l m
  | [], [], _, _ => trivial
  | y :: l, z :: m, hl, hh => ⟨hh 0 y z rfl rfl, reps_of (by simpa using hl) fun i c x hc hx => hh (i + 1) c x (by simpa using hc) (by simpa using hx)⟩
  | [], _ :: _, hl, _ => by simp at hl
  | _ :: _, [], hl, _ => by simp at hl
end
end Go.Proofs.Ytpmgaaalfdjikaa
