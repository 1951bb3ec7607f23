/- The H semantics: append, make, literals, calls that hand back memory. Lemmas; no condition. -/
import Derived.Test.YtpmgaaalfdjikaaHf
import Derived.Great.BuildSlice
namespace Go.Proofs.Ytpmgaaalfdjikaa
open Go.RowKit
section
variable {P : Program} {w0 w : World} {pr : Prot} {A : Area} {n : Nat} {tk : Places} {σ : St} {a : Act}

theorem Chg.drew_alloc (A : Nat → Prop) (w : World) (o : Obj) : Chg A w (w.drew.alloc o) :=
  ⟨rfl, rfl, rfl, Nat.le_of_lt ((Array.getElem?_eq_some_iff.1 (Go.MapKept.heap_alloc w.drew o).1).1), fun k hk _ => (Go.MapKept.heap_alloc w.drew o).2 k hk⟩

theorem Rel.less (R : Rel P w0 pr A n w a.tmps σ tk) {m' : Mem} (h : ∀ t q, m' t = some q → σ.m t = some q) : Rel P w0 pr A n w a.tmps ⟨σ.s, m', σ.c⟩ tk :=
  ⟨R.size, R.chg, R.prlt, R.prA, ⟨fun t o ho => R.mem.obj t o (h t o ho), fun t t' o o' b c c' h1 h2 => R.mem.inj t t' o o' b c c' (h _ _ h1) (h _ _ h2)⟩, fun t o b c ho => R.live t o b c (h t o ho), R.fresh, R.zero, R.slot⟩

theorem run_append_empty {t ty e : Nat} {i : TypeInfo} (ht : P.underlying t = some (.slice e)) (hi : P.info? e = some i) {b o len c : Nat} (hlc : len ≤ c) {v2 : Value} (h2 : v2 = .slice none 0 0 ∨ ∃ a c2, v2 = .slice (some a) 0 c2) :
    (Builtin.append_ #[t, t] ty #[.slice (some ⟨b, o, none⟩) len c, v2]).run P w = .ok (.slice (some ⟨b, o, none⟩) len c) w := by
  rcases h2 with rfl | ⟨a, c2, rfl⟩
  · simp [Builtin.append_, run_underlying ht, sizeOf, typeInfo, hi, Builtin.lenOf, Builtin.firstCells, hlc, storeCells]
  · simp [Builtin.append_, run_underlying ht, sizeOf, typeInfo, hi, Builtin.lenOf, Builtin.firstCells, hlc, storeCells, loadCells, loadCellsFrom]

/-- What the second operand of an append adds. -/
theorem news_of (M : MemOK P w pr tk σ.m) {v : Value} {d : D} {es : List (List D)} {e : Nat} (h : Rep w pr tk v d) (he : d.elems σ.m = some es) (hsz : ∀ c ∈ es, c.length = P.cellsOf e) (hne : es ≠ []) :
    ∃ (a : Addr) (cap : Nat) (news : List Value), v = .slice (some a) es.length cap ∧ news.length = es.length * P.cellsOf e ∧ (∀ (j : Nat) (u : Value), news[j]? = some u → w.cell? (a.add j) = some u) ∧ (∀ u ∈ news, u.oneCell' = true) ∧
      ∀ C : Array Value, (∀ j, j < es.length * P.cellsOf e → C[j]? = news[j]?) → RepRow P w pr tk C e es := by
  rcases elems_cells M h he with ⟨_, h0⟩ | ⟨b, off, cap, size, us, rfl, h1, h2, h3, h4⟩
  · exact absurd h0 hne
  · have hse : size = P.cellsOf e := by
      cases es with
      | nil => exact absurd rfl hne
      | cons c r => rw [← h2 c (by simp), hsz c (by simp)]
    subst hse
    refine ⟨⟨b, off, none⟩, cap, (List.range (es.length * P.cellsOf e)).map us, rfl, by simp, fun j u hu => ?_, fun u hu => ?_, fun C hC => ?_⟩
    · simp only [List.getElem?_map, Option.map_eq_some_iff] at hu
      obtain ⟨k, hk, rfl⟩ := hu
      obtain ⟨hlt, rfl⟩ := List.getElem?_eq_some_iff.1 hk
      simp only [List.length_range] at hlt
      rw [add_off, List.getElem_range]
      exact (h3 j hlt).1
    · simp only [List.mem_map, List.mem_range] at hu
      obtain ⟨k, hk, rfl⟩ := hu
      exact (h3 k hk).2
    · refine row_of_us hsz (us := us) (fun j hj => ?_) (fun j hj => (h3 j hj).2) h4
      rw [hC j hj]
      simp [List.getElem?_range hj]

theorem rel_app (R : Rel P w0 pr A n w a.tmps σ tk) {t ty e x : Nat} {i : TypeInfo} {z : Value} {av bv' : Value} {d1 d2 : D} {σ' : St} (ht : P.underlying t = some (.slice e)) (hi : P.info? e = some i) (hz : i.zero = some z)
    (hzs : z.cells.size = i.size) (hby : i.bytes ≤ 1024) (hx : x < n)
    (ha : Rep w pr tk av d1) (hb : Rep w pr tk bv' d2) (h : appV x e i.size d1 d2 σ = some σ') :
    ∃ v' w' tk', (Builtin.append_ #[t, t] ty #[av, bv']).run P w = .ok v' w' ∧ Rel P w0 pr A n w' (a.put (some x) v').tmps σ' tk' := by
  have hce : P.cellsOf e = i.size := by simp [Program.cellsOf, hi]
  unfold appV at h
  rw [Option.bind_eq_some_iff] at h
  obtain ⟨es2, he2, h⟩ := h
  split at h
  · cases h
  rename_i hall
  have hs2 : ∀ c ∈ es2, c.length = P.cellsOf e := fun c hc => by
    have hall : es2.all (fun c => c.length == i.size) = true := by simpa only [Bool.not_eq_false] using hall
    rw [hce]; simpa using List.all_eq_true.1 hall c hc
  have hempty : es2 = [] → bv' = .slice none 0 0 ∨ ∃ a c2, bv' = .slice (some a) 0 c2 := fun h0 => by
    subst h0
    rcases elems_cells R.mem hb he2 with ⟨rfl | ⟨a, cap, rfl⟩, _⟩ | ⟨b, off, cap, size, us, rfl, _⟩
    · exact .inl rfl
    · exact .inr ⟨_, _, rfl⟩
    · exact .inr ⟨_, _, rfl⟩
  -- a new block
  have grown : ∀ (σ1 : St) (_ : Rel P w0 pr A n w a.tmps σ1 tk) (C : Array Value) (g : Tok) (es : List (List D)) (old : Nat), es.length ≤ maxLen → C.size = grownCap w es.length old e * P.cellsOf e → RepRow P w pr tk C e es →
      ∃ tk', Rel P w0 pr A n (w.drew.alloc (.cells C e)) (a.put (some x) (.slice (some ⟨w.heap.size, 0, none⟩) es.length (grownCap w es.length old e))).tmps (σ1.new x (.row g e es) (.sl (σ1.tok x) i.size 0 es.length none)) tk' := by
    intro σ1 R C g es old hmax hC hrow
    have hc := Chg.drew_alloc (fun _ => False) w (.cells C e)
    have hge := grownCap_ge w es.length old e
    refine R.alloc hx (cap := grownCap w es.length old e) hc (fun tk' hs he => ?_) fun tk' hs => ?_
    · exact ⟨w.heap.size, _, C, hs, heap_alloc_new w.drew _, hge, grownCap_le_maxLen w _ _ e hmax, hC, hrow.keeps (R.keepsN hc he)⟩
    · exact .sl hs (by simp) hge (.inl (by simp))
  have m63 : ∀ {k : Nat}, k ≤ maxMade → k ≤ maxLen := fun {k} h => by simp only [maxMade] at h; simp only [maxLen]; omega
  have mby : ∀ {k : Nat}, k ≤ maxMade → k * i.bytes ≤ 140737488355328 := fun {k} h => by
    simp only [maxMade] at h
    calc k * i.bytes ≤ 1048576 * 1024 := Nat.mul_le_mul h hby
      _ ≤ _ := by decide
  have zc : ∀ k : Nat, (Builtin.zeroCells z.cells k).size = k * P.cellsOf e := fun k => by rw [size_zeroCells, hzs, hce]
  -- the cells of a new block
  have grownC : ∀ (olds news : List Value) (n1 n2 old : Nat), olds.length = n1 * P.cellsOf e → news.length = n2 * P.cellsOf e →
      (olds.toArray ++ news.toArray ++ Builtin.zeroCells z.cells (grownCap w (n1 + n2) old e - (n1 + n2))).size = grownCap w (n1 + n2) old e * P.cellsOf e := by
    intro olds news n1 n2 old h1 h2
    have hge := grownCap_ge w (n1 + n2) old e
    rw [Array.size_append, zc, Array.size_append, List.size_toArray, List.size_toArray, h1, h2, ← Nat.add_mul, ← Nat.add_mul]
    congr 1
    omega
  cases d1 <;> simp only [] at h <;> try (cases h; done)
  case nil =>
    cases ha
    by_cases h0 : es2 = []
    · subst h0
      simp only [List.isEmpty_nil, if_true, Option.some.injEq] at h
      subst h
      rcases hempty rfl with rfl | ⟨a2, c2, rfl⟩
      · exact ⟨.slice none 0 0, w, tk, by simp [Builtin.append_, run_underlying ht, sizeOf, typeInfo, hi, Builtin.lenOf, Builtin.firstCells], R.put hx (Chg.refl _ _) .nil⟩
      · exact ⟨.slice none 0 0, w, tk, by simp [Builtin.append_, run_underlying ht, sizeOf, typeInfo, hi, Builtin.lenOf, Builtin.firstCells, loadCells, loadCellsFrom], R.put hx (Chg.refl _ _) .nil⟩
    · rw [if_neg (by simpa using h0)] at h
      split at h <;> cases h
      rename_i hmax
      obtain ⟨ad, cap, news, rfl, h1, h2, h3, h4⟩ := news_of R.mem hb he2 hs2 h0
      have hpos : 0 < es2.length := List.length_pos_iff.2 h0
      have hrun := run_append_nil (P := P) w t ty e i z ht hi hz ad es2.length cap news (by rw [← hce]; exact h1) h2 hpos (by have := m63 hmax; simp only [maxLen] at this; omega) (by have := mby hmax; omega)
      obtain ⟨tk', R'⟩ := grown σ R (news.toArray ++ Builtin.zeroCells z.cells (grownCap w es2.length 0 e - es2.length)) (σ.tok x) es2 0 (m63 hmax) (by
          have := grownC [] news 0 es2.length 0 (by simp) h1
          simpa using this) (h4 _ fun j hj => by
            rw [Array.getElem?_append_left (by simp; omega)]; simp)
      exact ⟨_, _, tk', hrun, R'⟩
  case sl τ size' off len lim =>
    cases ha with
    | sl htk hcc hl ho =>
      rename_i b cap c o
      by_cases h0 : es2 = []
      · subst h0
        simp only [List.isEmpty_nil, if_true, Option.some.injEq] at h
        subst h
        exact ⟨_, w, tk, run_append_empty ht hi hl (hempty rfl), R.put hx (Chg.refl _ _) (.sl htk hcc hl ho)⟩
      · rw [if_neg (by simpa using h0)] at h
        obtain ⟨ad, cap2, news, rfl, h1, h2, h3, h4⟩ := news_of R.mem hb he2 hs2 h0
        have hpos : 0 < es2.length := List.length_pos_iff.2 h0
        split at h
        · rename_i g e' es1 hm
          split at h
          · rename_i hcond
            obtain ⟨rfl, rfl, hmax, hle⟩ := hcond
            obtain ⟨b', cap', C, k1, k3, k5, k6, k7, k8⟩ := R.mem.obj τ _ hm
            rw [htk] at k1; cases k1
            -- the base's cells
            have hsub : RepRow P w pr tk C e' es1 := k8
            have holds : ∀ (oo : Nat), (oo = off * P.cellsOf e' ∨ len = 0) → ∃ olds : List Value, olds.length = len * P.cellsOf e' ∧ (∀ (j : Nat) (u : Value), olds[j]? = some u → w.cell? ((⟨b, oo, none⟩ : Addr).add j) = some u) ∧
                ∀ C' : Array Value, (∀ j, j < len * P.cellsOf e' → C'[j]? = olds[j]?) → RepRow P w pr tk C' e' ((es1.drop off).take len) := by
              intro oo hoo
              by_cases hl0 : len = 0
              · subst hl0
                exact ⟨[], by simp, by simp, fun C' _ => ⟨by simp, by simp⟩⟩
              have hoo : oo = off * P.cellsOf e' := hoo.resolve_right hl0
              subst hoo
              have hend : (off + len) * P.cellsOf e' ≤ cap * P.cellsOf e' := Nat.mul_le_mul_right _ (by omega)
              rw [Nat.add_mul] at hend
              have hget : ∀ j, j < len * P.cellsOf e' → (List.take (len * P.cellsOf e') (List.drop (off * P.cellsOf e') C.toList))[j]? = C[off * P.cellsOf e' + j]? := fun j hj => by
                rw [List.getElem?_take_of_lt hj, List.getElem?_drop, Array.getElem?_toList]
              refine ⟨(C.toList.drop (off * P.cellsOf e')).take (len * P.cellsOf e'), by simp; omega, fun j u hu => ?_, fun C' hC' => ?_⟩
              · have hj : j < len * P.cellsOf e' := by have := (List.getElem?_eq_some_iff.1 hu).1; simp at this; omega
                rw [hget j hj] at hu
                rw [add_off, cell_of_row w b _ C e' (0, 0) k3]
                exact hu
              · have : RepRow P w pr tk C' e' ((es1.take (off + len)).drop off) := RepRow.drop (C := C) hsub.take (fun j hj => by
                    have hj' : j < len * P.cellsOf e' := by
                      have e1 : (es1.take (off + len)).length - off = len := by simp; omega
                      rw [e1] at hj; exact hj
                    rw [hC' j hj', hget j hj'])
                rw [List.drop_take] at this
                have e1 : off + len - off = len := by omega
                rwa [e1] at this
            -- where a new block is made
            have grow : ∀ (oo : Nat), (oo = off * P.cellsOf e' ∨ len = 0) → c < len + es2.length → (es1.drop off).length ≥ len → ∀ (g' : Tok) (σ1 : St) (_ : Rel P w0 pr A n w a.tmps σ1 tk), ∃ v' w' tk', (Builtin.append_ #[t, t] ty #[.slice (some ⟨b, oo, none⟩) len c, .slice (some ad) es2.length cap2]).run P w = .ok v' w' ∧
                Rel P w0 pr A n w' (a.put (some x) v').tmps (σ1.new x (.row g' e' ((es1.drop off).take len ++ es2)) (.sl (σ1.tok x) i.size 0 (len + es2.length) none)) tk' := by
              intro oo hoo hlt hlen g' σ1 R1
              obtain ⟨olds, q1, q2, q3⟩ := holds oo hoo
              have hrun := run_append_grow (P := P) w t ty e' i z ht hi hz ⟨b, oo, none⟩ len c olds (by rw [← hce]; exact q1) q2 ad es2.length cap2 news (by rw [← hce]; exact h1) h2 hlt (by have := m63 hmax; simp only [maxLen] at this; omega) (growslice_fits hlt (mby hmax))
              have hl2 : ((es1.drop off).take len ++ es2).length = len + es2.length := by simp at hlen ⊢; omega
              have hrow : RepRow P w pr tk (olds.toArray ++ news.toArray ++ Builtin.zeroCells z.cells (grownCap w (len + es2.length) c e' - (len + es2.length))) e' ((es1.drop off).take len ++ es2) := by
                have e1 : ((es1.drop off).take len).length = len := by simp at hlen ⊢; omega
                refine row_append (C1 := olds.toArray) (C2 := news.toArray) (q3 _ fun j hj => by simp) (h4 _ fun j hj => by simp) (fun j hj => ?_) (fun j hj => ?_)
                · rw [e1] at hj
                  rw [Array.getElem?_append_left (by simp; omega), Array.getElem?_append_left (by simp; omega)]
                · rw [e1]
                  rw [Array.getElem?_append_left (by simp; omega), Array.getElem?_append_right (by simp; omega)]
                  congr 1
                  simp; omega
              obtain ⟨tk', R'⟩ := grown σ1 R1 _ g' ((es1.drop off).take len ++ es2) c (by rw [hl2]; exact m63 hmax) (by rw [hl2]; exact grownC olds news len es2.length c q1 h1) hrow
              rw [hl2] at R'
              exact ⟨_, _, tk', hrun, R'⟩
            split at h
            · split at h <;> cases h
              rename_i hoff
              subst hoff
              have ho0 : o = 0 := by rcases ho with h | h; simpa using h; omega
              subst ho0
              simp only [Option.getD_none, Nat.sub_zero] at hcc
              subst hcc
              have hless : Rel P w0 pr A n w a.tmps (σ.strike g len) tk := R.less fun t q h => (struck_some h).1
              by_cases hroom : len + es2.length ≤ c
              · have hfit : len * i.size + news.length ≤ C.size := by
                  rw [h1, k7, hce, ← Nat.add_mul]
                  exact Nat.mul_le_mul_right _ hroom
                have hrun := run_append_room (P := P) w t ty e' i ht hi b len c C k3 ad es2.length cap2 news (by rw [← hce]; exact h1) h2 h3 hroom hfit
                have hC' : (C.toList.take (len * i.size) ++ news ++ C.toList.drop (len * i.size + news.length)).toArray = putCells C (len * i.size) news.toArray := by simp [putCells]
                rw [hC'] at hrun
                have hns : news.toArray.size = news.length := by simp
                have hget := fun k => putCells_get (C := C) (V := news.toArray) (off := len * i.size) (by simpa using hfit) k
                have hchg := Chg.setRow w b (putCells C (len * i.size) news.toArray)
                have hkeep : ∀ (es' : List (List D)), es'.length ≤ len → RepRow P w pr tk C e' es' → RepRow P w pr tk (putCells C (len * i.size) news.toArray) e' es' := fun es' hl hr => by
                  refine ⟨hr.1, fun k q hq l d hd => ?_⟩
                  rw [hget]
                  have hkl := (List.getElem?_eq_some_iff.1 hq).1
                  have hll : l < P.cellsOf e' := by rw [← hr.1 q (List.mem_of_getElem? hq)]; exact (List.getElem?_eq_some_iff.1 hd).1
                  have : (k + 1) * P.cellsOf e' ≤ len * P.cellsOf e' := Nat.mul_le_mul_right _ (by omega)
                  rw [Nat.add_mul] at this
                  rw [if_neg (by rw [← hce]; omega)]
                  exact hr.2 k q hq l d hd
                have K : Keeps w (w.setRow b (putCells C (len * i.size) news.toArray)) pr pr tk tk := ⟨fun b' x h => ⟨hchg.cell x (R.prw b' x h) (fun e => by subst e; exact R.free hm htk h), h⟩, fun _ _ h => h⟩
                have ingrp : ∀ t' q c', σ.m t' = some q → tk t' = some (b, c') → q.grp = some g := fun t' q c' hq ht' => by
                  rcases R.mem.inj t' τ q _ b c' c hq hm ht' htk with rfl | ⟨_, g2⟩
                  · rw [hm] at hq; cases hq; rfl
                  · rw [g2]; rfl
                have R1 : Rel P w0 pr A n (w.setRow b (putCells C (len * i.size) news.toArray)) a.tmps (σ.strike g len) tk := R.writeG hm htk hchg (m' := (σ.strike g len).m) (fun t' q h => (struck_some h).1) (fun t' q c' h ht' hr => by
                  obtain ⟨hq1, hq2⟩ := struck_some h
                  have hg := ingrp t' q c' hq1 ht'
                  cases q with
                  | box => simp [HO.grp] at hg
                  | map => simp [HO.grp] at hg
                  | iter => simp [HO.grp] at hg
                  | row g' e'' es' =>
                    simp only [HO.grp, Option.some.injEq] at hg
                    subst hg
                    have hshort := hq2 e'' es' rfl
                    obtain ⟨b2, cap2', C2, j1, j3, j5, j6, j7, j8⟩ := hr
                    rw [ht'] at j1; cases j1
                    rw [k3] at j3; cases j3
                    exact ⟨b, c', _, ht', setRow_heap w b C _ e' _ k3, j5, j6, by rw [putCells_size (by simpa using hfit)]; exact j7, (hkeep es' hshort j8).keeps K⟩)
                obtain ⟨tk', R2⟩ := R1.alias hx (g := g) (e := e') (es := es1.take len ++ es2) (d := .sl (σ.tok x) i.size 0 (len + es2.length) none) (v := .slice (some ⟨b, 0, none⟩) (len + es2.length) c) (b := b) (cap := c)
                  (R.live τ _ b c hm htk) (by have := (Array.getElem?_eq_some_iff.1 k3).1; simpa using this) (fun t' q c' h ht' => ingrp t' q c' (struck_some h).1 ht') (fun tk' hs he => by
                    have K2 := R.keepsN (Chg.refl _ w) he
                    have K3 : Keeps w (w.setRow b (putCells C (len * i.size) news.toArray)) pr pr tk tk' := ⟨K.cell, he⟩
                    have hl1 : (es1.take len).length = len := by simp; omega
                    refine ⟨b, c, _, hs, setRow_heap w b C _ e' _ k3, by rw [List.length_append, hl1]; exact hroom, k6, by rw [putCells_size (by simpa using hfit)]; exact k7, ?_⟩
                    refine RepRow.keeps ?_ K3
                    refine row_append (C1 := putCells C (len * i.size) news.toArray) (C2 := news.toArray) (hkeep _ (by omega) k8.take) (h4 _ fun j hj => by simp) (fun j hj => rfl) (fun j hj => ?_)
                    rw [hce] at hj
                    rw [hce] at h1
                    rw [hget, hl1, hce, if_pos (by rw [hns, h1]; omega)]
                    congr 1
                    omega) (fun tk' hs => .sl hs (by simp) hroom (.inl (by simp)))
                exact ⟨_, _, tk', hrun, R2⟩
              · have := grow 0 (.inl (by simp)) (by omega) (by simp; omega) g (σ.strike g len) hless
                simpa [St.tok] using this
            · rename_i cl
              split at h <;> cases h
              rename_i hlt
              simp only [Option.getD_some] at hcc
              subst hcc
              exact grow o (ho.imp (fun h => by rw [hce]; exact h) fun h => by omega) hlt (by simp; omega) _ σ R
          · cases h
        · cases h

/-- Zeros. -/
theorem zero_row {e k l : Nat} {z : Value} {zd : List D} (h : RepCs w pr tk z.cells zd) (hz : z.cells.size = P.cellsOf e) (hl : l ≤ k) : RepRow P w pr tk (madeCells z.cells (k * P.cellsOf e)) e (List.replicate l zd) := by
  have hzl : zd.length = P.cellsOf e := by rw [← h.1, hz]
  refine ⟨fun c hc => by rw [List.eq_of_mem_replicate hc]; exact hzl, fun i c hc j d hd => ?_⟩
  have hi : i < l := by have := (List.getElem?_eq_some_iff.1 hc).1; simpa using this
  have : c = zd := List.eq_of_mem_replicate (List.mem_of_getElem? hc)
  subst this
  have hj : j < P.cellsOf e := by rw [← hzl]; exact (List.getElem?_eq_some_iff.1 hd).1
  have hlt : i * P.cellsOf e + j < k * P.cellsOf e := by
    have : (i + 1) * P.cellsOf e ≤ k * P.cellsOf e := Nat.mul_le_mul_right _ (by omega)
    rw [Nat.add_mul] at this
    omega
  have hjz : j < z.cells.size := by omega
  have hmod : (i * P.cellsOf e + j) % z.cells.size = j := by
    rw [hz, Nat.mul_comm, Nat.mul_add_mod, Nat.mod_eq_of_lt hj]
  refine ⟨z.cells[j], ?_, h.2.1 j _ (Array.getElem?_eq_getElem hjz), h.2.2 j _ d (Array.getElem?_eq_getElem hjz) hd⟩
  simp only [madeCells, Array.getElem?_map, Array.getElem?_range]
  rw [if_pos hlt]
  simp only [Option.map_some, hmod]
  rw [getElem!_pos z.cells j hjz]

theorem rel_mks (R : Rel P w0 pr A n w a.tmps σ tk) {t e x : Nat} {i : TypeInfo} {z : Value} {zd : List D} {av bv' : Value} {d1 d2 : D} {σ' : St} (ht : P.underlying t = some (.slice e)) (hi : P.info? e = some i) (hz : i.zero = some z)
    (hzs : z.cells.size = i.size) (hzd : RepCs w pr tk z.cells zd) (hsz : i.size ≤ 16) (hby : i.bytes ≤ 1024) (hx : x < n) (ha : Rep w pr tk av d1) (hb : Rep w pr tk bv' d2) (h : mksV x e i.size zd d1 d2 σ = some σ') :
    ∃ v' w' tk', (Instr.makeSlice t av bv').run P w = .ok v' w' ∧ Rel P w0 pr A n w' (a.put (some x) v').tmps σ' tk' := by
  have hce : P.cellsOf e = i.size := by simp [Program.cellsOf, hi]
  unfold mksV at h
  split at h
  · rename_i k1 l k2 c
    split at h <;> cases h
    rename_i hc
    obtain ⟨h0, h1, h2⟩ := hc
    obtain ⟨rfl, _⟩ := rep_v.1 ha
    obtain ⟨rfl, _⟩ := rep_v.1 hb
    have hmm : c ≤ 1048576 := h2
    have hrun := run_makeSlice (P := P) w t e i z ht hi hz k1 k2 l c h0 h1 (by
        have : c.toNat * i.size ≤ 1048576 * 16 := Nat.mul_le_mul (by omega) hsz
        omega) (by
        have : i.bytes * c.toNat ≤ 1024 * 1048576 := Nat.mul_le_mul hby (by omega)
        have e1 : ((i.bytes * c.toNat : Nat) : Int) = (i.bytes : Int) * c := by rw [Int.natCast_mul, Int.toNat_of_nonneg (by omega)]
        omega) (by omega)
    have hchg := Chg.alloc (fun _ => False) w (.cells (madeCells z.cells (c.toNat * i.size)) e)
    obtain ⟨tk', R'⟩ := R.alloc hx (cap := c.toNat) hchg (o := .row (σ.tok x) e (List.replicate l.toNat zd)) (d := .sl (σ.tok x) i.size 0 l.toNat none) (v := .slice (some ⟨w.heap.size, 0, none⟩) l.toNat c.toNat) (fun tk' hs he => by
        refine ⟨w.heap.size, c.toNat, _, hs, (Go.MapKept.heap_alloc w _).1, by simp; omega, by simp only [maxLen]; omega, by simp [madeCells, hce], ?_⟩
        have q := zero_row (e := e) (k := c.toNat) (l := l.toNat) hzd (by rw [hce]; exact hzs) (by omega)
        rw [hce] at q
        exact q.keeps (R.keepsN hchg he)) (fun tk' hs => .sl hs (by simp) (by omega) (.inl (by simp)))
    exact ⟨_, _, tk', hrun, R'⟩
  · cases h

theorem run_lit {t e len : Nat} {ie : TypeInfo} {zv : Value} {parts : Array (Nat × Value)} {C : Array Value} (hu : P.underlying t = some (.slice e)) (hie : P.info? e = some ie) (hzv : ie.zero = some zv) (hsm : len * ie.size ≤ 65536) (hpos : 0 < ie.size)
    (g1 : Instr.fill (fun i => some (i * ie.size, ie.size)) ((Array.range (len * ie.size)).map (zv.cells[· % zv.cells.size]!)) parts.toList = some C) :
    (Instr.buildSlice t len parts).run P w = .ok (.slice (some ⟨w.heap.size, 0, none⟩) len len) (w.alloc (.cells C e)) := by
  by_cases h0 : len = 0
  · subst h0
    have e0 : ∀ g : Nat → Value, (Array.range 0).map g = #[] := fun g => Array.eq_empty_of_size_eq_zero (by simp)
    simp only [Nat.zero_mul, e0] at g1
    simp [Instr.buildSlice, run_underlying hu, sizeOf, typeInfo, hie, newRow, e0, g1]
  · exact run_buildSlice w t e len parts C ie zv hu hie hzv (by omega) (by
      intro h
      rcases Nat.mul_eq_zero.1 h with h | h
      · exact h0 h
      · omega) g1

theorem rel_lit (R : Rel P w0 pr A n w a.tmps σ tk) {t e size len x : Nat} {zero : List D} {places : List (Nat × Nat)} {parts : Array (Nat × Operand)} {ρ : Operand → Value} {ds : List D} {σ' : St}
    (hd : dBslice P t len (parts.toList.map (·.1)) = some (e, size, zero, places)) (hx : x < n) (hrep : Reps w pr tk ((parts.toList.map (·.2)).map ρ) ds) (h : litV x e size len zero places ds σ = some σ') :
    ∃ v' w' tk', (Instr.buildSlice t len (parts.map fun (i, x) => (i, ρ x))).run P w = .ok v' w' ∧ Rel P w0 pr A n w' (a.put (some x) v').tmps σ' tk' := by
  unfold dBslice at hd
  split at hd
  · rename_i e' hu
    rw [Option.bind_eq_some_iff] at hd
    obtain ⟨ie, hie, hd⟩ := hd
    split at hd
    · rename_i hsz
      rw [Option.bind_eq_some_iff] at hd
      obtain ⟨z, hz, hd⟩ := hd
      split at hd
      · rename_i hzl
        simp only [Option.some.injEq, Prod.mk.injEq] at hd
        obtain ⟨rfl, rfl, rfl, rfl⟩ := hd
        have hce : P.cellsOf e' = ie.size := by simp [Program.cellsOf, hie]
        unfold litV at h
        split at h
        · rename_i hall
          rw [Option.bind_eq_some_iff] at h
          obtain ⟨out, hout, h⟩ := h
          split at h <;> cases h
          rename_i hlen
          obtain ⟨i', zv, hi', hzv, hzr⟩ := dZero_spec (w := w) (pr := pr) (tk := tk) hz
          obtain rfl : ie = i' := by rw [hie] at hi'; exact Option.some.inj hi'
          have hzs : zv.cells.size = ie.size := by rw [hzr.1, hzl]
          have hzero : RepCs w pr tk ((Array.range (len * ie.size)).map (zv.cells[· % zv.cells.size]!)) ((List.range (len * ie.size)).map fun j => z.getD (j % ie.size) .undef) := by
            have hj : ∀ j, j % ie.size < zv.cells.size := fun j => by rw [hzs]; exact Nat.mod_lt _ hsz.2
            refine ⟨by simp, fun i c hc => ?_, fun i c x hc hx => ?_⟩
            · simp only [Array.getElem?_map, Option.map_eq_some_iff] at hc
              obtain ⟨j, _, rfl⟩ := hc
              refine hzr.2.1 (j % ie.size) _ ?_
              rw [hzs, getElem!_pos zv.cells _ (hj j)]
              exact Array.getElem?_eq_getElem (hj j)
            · simp only [Array.getElem?_map, List.getElem?_map, Option.map_eq_some_iff] at hc hx
              obtain ⟨j, hj1, rfl⟩ := hc
              obtain ⟨j', hj2, rfl⟩ := hx
              have hjj : j = j' := by
                have a1 := (Array.getElem?_eq_some_iff.1 hj1)
                have a2 := (List.getElem?_eq_some_iff.1 hj2)
                obtain ⟨b1, c1⟩ := a1
                obtain ⟨b2, c2⟩ := a2
                simp at c1 c2
                omega
              subst hjj
              refine hzr.2.2 (j % ie.size) _ _ ?_ ?_
              · rw [hzs, getElem!_pos zv.cells _ (hj j)]
                exact Array.getElem?_eq_getElem (hj j)
              · have hl : j % ie.size < z.length := by rw [hzl]; exact Nat.mod_lt _ hsz.2
                rw [List.getElem?_eq_getElem hl]
                simp [List.getD, hl]
          have hpl : (parts.toList.map fun p => (p.1, ρ p.2)).mapM (fun p => (fun i => some (i * ie.size, ie.size)) p.1) = some ((parts.toList.map (·.1)).map fun k => (k * ie.size, ie.size)) := by
            generalize parts.toList = l
            induction l with
            | nil => rfl
            | cons a l ih => simp only [List.map_cons, List.mapM_cons, ih]; rfl
          obtain ⟨C, g1, g2⟩ := fill_rep (w := w) (pr := pr) (tk := tk) (place := fun i => some (i * ie.size, ie.size)) (parts.toList.map fun p => (p.1, ρ p.2)) _ _ _ _ out hzero hpl
            (by simpa [List.map_map, Function.comp_def] using hrep) hall hout
          have hCl : C.size = len * P.cellsOf e' := by rw [g2.1, hlen, hce]
          have hrun := run_lit (w := w) hu hie hzv (by omega) hsz.2 (parts := parts.map fun (i, x) => (i, ρ x)) (len := len) (C := C) (by simpa using g1)
          have hchg := Chg.alloc (fun _ => False) w (.cells C e')
          have hlb : len ≤ 65536 := by
            have : len * 1 ≤ len * ie.size := Nat.mul_le_mul_left _ hsz.2
            omega
          obtain ⟨tk', R'⟩ := R.alloc hx (cap := len) hchg (o := .row (σ.tok x) e' (chop ie.size len out)) (d := .sl (σ.tok x) ie.size 0 len none) (v := .slice (some ⟨w.heap.size, 0, none⟩) len len) (fun tk' hs he => by
              refine ⟨w.heap.size, len, C, hs, (Go.MapKept.heap_alloc w _).1, by rw [chop_length]; exact Nat.le_refl _, by simp only [maxLen]; omega, hCl, ?_⟩
              rw [← hce]
              exact (row_of_cells g2 (by rw [hce]; exact hlen)).keeps (R.keepsN hchg he)) (fun tk' hs => .sl hs (by simp) (Nat.le_refl _) (.inl (by simp)))
          exact ⟨_, _, tk', hrun, R'⟩
        · cases h
      · cases hd
    · cases hd
  · cases hd

/-- Tokens under other names. -/
theorem Rep.renC {w' : World} {pr' : Prot} {tk tk' : Places} {f : Tok → Tok} {v : Value} {d : D} (h : Rep w pr tk v d) (hk : ∀ b o, pr b o → w'.cell? ⟨b, o, none⟩ = w.cell? ⟨b, o, none⟩ ∧ pr' b o) (hf : ∀ t p, tk t = some p → tk' (f t) = some p) : Rep w' pr' tk' v (d.renC f) := by
  have K : Keeps w w' pr pr' tk tk := ⟨hk, fun _ _ h => h⟩
  cases h with
  | undef => exact .undef
  | v h => exact .v h
  | nil => exact .nil
  | nil' => exact .nil'
  | mt => exact .mt
  | emp => exact .emp
  | list us a b c d => exact rep_noTC ((Rep.list (tk := tk) us a b c d).keeps K) rfl
  | agg => exact .undef
  | tup => exact .undef
  | lptr us a b => exact rep_noTC ((Rep.lptr (tk := tk) us a b).keeps K) rfl
  | clo => exact .undef
  | sl h a b c => exact .sl (hf _ _ h) a b c
  | ptr h => exact .ptr (hf _ _ h)
  | rptr h => exact .rptr (hf _ _ h)
  | mp h => exact .mp (hf _ _ h)
  | nilmap => exact .nilmap

theorem RepCs.renC {w' : World} {pr' : Prot} {tk tk' : Places} {f : Tok → Tok} {C : Array Value} {xs : List D} (h : RepCs w pr tk C xs) (hk : ∀ b o, pr b o → w'.cell? ⟨b, o, none⟩ = w.cell? ⟨b, o, none⟩ ∧ pr' b o) (hf : ∀ t p, tk t = some p → tk' (f t) = some p) : RepCs w' pr' tk' C (xs.map (D.renC f)) := by
  refine ⟨by simpa using h.1, h.2.1, fun i c x hc hx => ?_⟩
  simp only [List.getElem?_map, Option.map_eq_some_iff] at hx
  obtain ⟨y, hy, rfl⟩ := hx
  exact (h.2.2 i c y hc hy).renC hk hf

theorem Rep.renA {w' : World} {pr' : Prot} {tk tk' : Places} {f : Tok → Tok} {v : Value} {d : D} (h : Rep w pr tk v d) (hk : ∀ b o, pr b o → w'.cell? ⟨b, o, none⟩ = w.cell? ⟨b, o, none⟩ ∧ pr' b o) (hf : ∀ t p, tk t = some p → tk' (f t) = some p) : Rep w' pr' tk' v (d.renA f) := by
  cases d
  case agg xs =>
    obtain ⟨cs, rfl, hcs⟩ := rep_agg.1 h
    exact rep_agg.2 ⟨cs, rfl, hcs.renC hk hf⟩
  case clo g xs =>
    cases h with
    | clo h1 h3 =>
      refine .clo (by simpa using h1) fun i c x hc hx => ?_
      simp only [List.getElem?_map, Option.map_eq_some_iff] at hx
      obtain ⟨y, hy, rfl⟩ := hx
      exact (h3 i c y hc hy).renC hk hf
  all_goals exact h.renC hk hf

theorem Rep.ren {w' : World} {pr' : Prot} {tk tk' : Places} {f : Tok → Tok} {v : Value} {d : D} (h : Rep w pr tk v d) (hk : ∀ b o, pr b o → w'.cell? ⟨b, o, none⟩ = w.cell? ⟨b, o, none⟩ ∧ pr' b o) (hf : ∀ t p, tk t = some p → tk' (f t) = some p) : Rep w' pr' tk' v (d.ren f) := by
  cases d
  case tup xs =>
    cases h with
    | tup h1 h3 =>
      refine .tup (by simpa using h1) fun i c x hc hx => ?_
      simp only [List.getElem?_map, Option.map_eq_some_iff] at hx
      obtain ⟨y, hy, rfl⟩ := hx
      exact (h3 i c y hc hy).renA hk hf
  all_goals exact h.renA hk hf

theorem RepO.ren {pr' : Prot} {tk tk' : Places} {f : Tok → Tok} {t : Tok} {o : HO} (h : RepO P w pr tk t o) (hk : ∀ b o, pr b o → pr' b o) (hf : ∀ t p, tk t = some p → tk' (f t) = some p) : RepO P w pr' tk' (f t) (o.ren f) := by
  cases o with
  | box xs =>
    obtain ⟨b, cap, C, ty, h1, h2, h3⟩ := h
    exact ⟨b, cap, C, ty, hf _ _ h1, h2, h3.renC (fun b o h => ⟨rfl, hk b o h⟩) hf⟩
  | row g e es =>
    obtain ⟨b, cap, C, h1, h2, h3, h4, h5, h6⟩ := h
    refine ⟨b, cap, C, hf _ _ h1, h2, by simpa using h3, h4, h5, fun c hc => ?_, fun i c hc j d hd => ?_⟩
    · obtain ⟨c0, hc0, rfl⟩ := List.mem_map.1 hc
      simpa using h6.1 c0 hc0
    · simp only [List.getElem?_map, Option.map_eq_some_iff] at hc
      obtain ⟨c0, hc0, rfl⟩ := hc
      simp only [List.getElem?_map, Option.map_eq_some_iff] at hd
      obtain ⟨d0, hd0, rfl⟩ := hd
      obtain ⟨u, k1, k2, k3⟩ := h6.2 i c0 hc0 j d0 hd0
      exact ⟨u, k1, k2, k3.renC (fun b o h => ⟨rfl, hk b o h⟩) hf⟩
  | map es =>
    obtain ⟨b, cap, ents, h1, h2, h3, h4, h5⟩ := h
    refine ⟨b, cap, ents, hf _ _ h1, by simpa using h2, by simpa using h3, by simpa using h4, fun i en p he hp => ?_⟩
    simp only [List.getElem?_map, Option.map_eq_some_iff] at hp
    obtain ⟨p0, hp0, rfl⟩ := hp
    obtain ⟨g1, g2, g3⟩ := h5 i en p0 he hp0
    exact ⟨g1, g2.renA (fun b o h => ⟨rfl, hk b o h⟩) hf, g3.renA (fun b o h => ⟨rfl, hk b o h⟩) hf⟩
  | iter u n seen =>
    obtain ⟨b, cap, b', cap', h1, h2, h3⟩ := h
    exact ⟨b, cap, b', cap', hf _ _ h1, hf _ _ h2, h3⟩

theorem HO.ren_grp (f : Tok → Tok) (o : HO) : (o.ren f).grp = o.grp.map f := by cases o <;> rfl

theorem Rel.adopt (R : Rel P w0 pr A n w a.tmps σ tk) {x : Nat} (hx : x < n) {w' : World} (hc : Chg (fun _ => False) w w') {tkc : Places} {m' : Mem} {d : D} {v : Value} (M : MemOK P w' noPr tkc m')
    (hnew : ∀ t o b c, m' t = some o → tkc t = some (b, c) → w.heap.size ≤ b) (hv : Rep w' noPr tkc v d) : ∃ tk', Rel P w0 pr A n w' (a.put (some x) v).tmps (σ.adopt x d m') tk' := by
  let pre : Tok → Tok := fun t => (x + 1) :: σ.c x :: t
  let tk' : Places := fun t => match t with
    | a :: b :: r => if a = x + 1 ∧ b = σ.c x then tkc r else tk (a :: b :: r)
    | t => tk t
  have hpre : ∀ t p, tkc t = some p → tk' (pre t) = some p := fun t p h => by simp [tk', pre, h]
  have hpre2 : ∀ t, tk' (pre t) = tkc t := fun t => by simp [tk', pre]
  have cases' : ∀ t : Tok, (∃ r, t = pre r) ∨ (tk' t = tk t ∧ ∀ r, t ≠ pre r) := fun t => by
    match t with
    | [] => exact .inr ⟨rfl, fun r h => by simp [pre] at h⟩
    | [q] => exact .inr ⟨rfl, fun r h => by simp [pre] at h⟩
    | q :: b :: r =>
      by_cases h : q = x + 1 ∧ b = σ.c x
      · exact .inl ⟨r, by simp [pre, h.1, h.2]⟩
      · refine .inr ⟨by simp only [tk']; rw [if_neg h], fun r' h' => h ?_⟩
        simp only [pre, List.cons.injEq] at h'
        exact ⟨h'.1, h'.2.1⟩
  have hnone : ∀ r, tk (pre r) = none := fun r => R.fresh x (σ.c x) r (Nat.le_refl _)
  have hext : ∀ t p, tk t = some p → tk' t = some p := fun t p h => by
    rcases cases' t with ⟨r, rfl⟩ | ⟨h1, _⟩
    · rw [hnone] at h; cases h
    · rw [h1]; exact h
  have K := R.keepsN hc hext
  have hm : ∀ t q, (σ.adopt x d m').m t = some q → (∃ r q0, t = pre r ∧ m' r = some q0 ∧ q = q0.ren pre) ∨ (tk' t = tk t ∧ σ.m t = some q) := fun t q h => by
    rcases cases' t with ⟨r, rfl⟩ | ⟨h1, h2⟩
    · have h : (m' r).map (HO.ren pre) = some q := by simpa [St.adopt, pre] using h
      obtain ⟨q0, hq0, rfl⟩ := Option.map_eq_some_iff.1 h
      exact .inl ⟨r, q0, rfl, hq0, rfl⟩
    · right
      refine ⟨h1, ?_⟩
      match t, h, h2 with
      | [], h, _ => exact h
      | [_], h, _ => exact h
      | q1 :: b :: r, h, h2 =>
        simp only [St.adopt] at h
        rw [if_neg (fun hh => h2 r (by simp [pre, hh.1, hh.2]))] at h
        exact h
  have hsz := R.chg.size
  have oldlt : ∀ t q b c, σ.m t = some q → tk t = some (b, c) → b < w.heap.size := fun t q b c h ht => by
    obtain ⟨b1, c1, h1, h2⟩ := (R.mem.obj t q h).place
    rw [ht] at h1; cases h1; exact h2
  refine ⟨tk', by simp [Act.put, R.size], R.chg.trans hc (fun _ _ h => h.elim), R.prlt, R.prA, ⟨fun t q h => ?_, fun t t' q q' b c c' h h' ht ht' => ?_⟩, fun t q b c h ht => ?_, fun y k r hk => ?_, fun t => ?_, fun i hi => ?_⟩
  · rcases hm t q h with ⟨r, q0, rfl, hq0, rfl⟩ | ⟨_, h⟩
    · exact (M.obj r q0 hq0).ren (f := pre) (fun _ _ h => h.elim) hpre
    · exact (R.mem.obj t q h).keeps K fun b c hb => hc.block b (oldlt t q b c h hb) id
  · rcases hm t q h with ⟨r, q0, e1, hq0, e2⟩ | ⟨g1, k1⟩ <;> rcases hm t' q' h' with ⟨r', q0', e3, hq0', e4⟩ | ⟨g2, k2⟩
    · rw [e1, hpre2] at ht
      rw [e3, hpre2] at ht'
      rcases M.inj r r' q0 q0' b c c' hq0 hq0' ht ht' with h | ⟨h1, h2⟩
      · left; rw [e1, e3, h]
      · right
        rw [e2, e4, HO.ren_grp, HO.ren_grp, h2]
        exact ⟨by rw [← h2]; simpa using h1, rfl⟩
    · rw [e1, hpre2] at ht
      rw [g2] at ht'
      have := hnew r q0 b c hq0 ht
      have := oldlt t' q' b c' k2 ht'
      omega
    · rw [e3, hpre2] at ht'
      rw [g1] at ht
      have := hnew r' q0' b c' hq0' ht'
      have := oldlt t q b c k1 ht
      omega
    · rw [g1] at ht
      rw [g2] at ht'
      exact R.mem.inj t t' q q' b c c' k1 k2 ht ht'
  · rcases hm t q h with ⟨r, q0, rfl, hq0, rfl⟩ | ⟨g1, k1⟩
    · rw [hpre2] at ht
      have := hnew r q0 b c hq0 ht
      exact .inl (by omega)
    · rw [g1] at ht
      exact R.live t q b c k1 ht
  · simp only [St.adopt] at hk
    have hne : ¬ (y + 1 = x + 1 ∧ k = σ.c x) := fun e => by
      have : y = x := by omega
      subst this
      rw [if_pos rfl] at hk
      omega
    simp only [tk']
    rw [if_neg hne]
    refine R.fresh y k r ?_
    split at hk <;> omega
  · rcases cases' (0 :: t) with ⟨r, h⟩ | ⟨h, _⟩
    · simp [pre] at h
    · rw [h]; exact R.zero t
  · simp only [Act.put, getD_put (show x < a.tmps.size by rw [R.size]; exact hx), St.adopt]
    split
    · exact hv.ren (f := pre) (fun _ _ h => h.elim) hpre
    · exact (R.slot i hi).keeps K

/-- A call that hands back memory. -/
theorem step_callq {Γ : Env} (hΓ : Sound P Γ) {o : Oper} {c : Call} {f : Nat} {gs : List VArg} {x : Nat} {σ' : St} {next : Act → World → Prop} {Q : Exit → Act → World → Prop}
    (R : Rel P w0 pr A n w a.tmps σ tk) (ho : o.op = .call c) (hc : c.callee = .value (.func f)) (hgs : c.args.toList.mapM (dArg n) = some gs) (hx : o.dst = some x) (hxn : x < n)
    (hrun : callqV Γ x f (gs.map (VArg.val σ.s)) σ = some σ') (h : ∀ v w' tk', Rel P w0 pr A n w' (a.put (some x) v).tmps σ' tk' → next (a.put (some x) v) w') : o.wp P a w next Q := by
  have hrep := args_rep R hgs
  unfold callqV at hrun
  rw [Option.bind_eq_some_iff] at hrun
  obtain ⟨as, has, hrun⟩ := hrun
  obtain ⟨⟨d, m'⟩, hq, rfl⟩ := Option.map_eq_some_iff.1 hrun
  obtain ⟨hb, hcon⟩ := hΓ.q f _ _ _ hq
  have ha := reps_view (pr' := allPr w) (p := fun _ => true) (fun v d d' h _ hr => viewA_sound R.mem R.prw h hr) hrep has (by simp)
  have hcall := hcon w (allPr w) (c.args.map a.eval) (fun _ _ h => h) (by simpa using ha)
  unfold Oper.wp
  rw [show (execOp a.eval o).run P w = .ok (.enter f (c.args.map a.eval)) w by simp [execOp, ho, resolve, hc, Act.eval, Deferred.ofValue, invoke, run_callFunc hb], Oper.upon_enter]
  refine hcall.mono ?_
  rintro e w' ⟨v, tkc, rfl, h1, h2, h3, h4⟩
  rw [hx]
  obtain ⟨tk', R'⟩ := R.adopt hxn h1 h2 h3 h4
  exact h v w' tk' R'

def isCall : Op → Bool
  | .call _ => true
  | _ => false
theorem dBin_simple {op : BinOp} {t : Nat} {k : PK} (h : dBin P op t = some k) : k.simple = true := by
  unfold dBin at h
  (repeat' split at h) <;> (try cases h) <;> rfl
theorem dSnil_simple {op : BinOp} {t : Nat} {k : PK} (h : dSnil P op t = some k) : k.simple = true := by
  unfold dSnil at h
  (repeat' split at h) <;> (try cases h) <;> rfl
theorem dAeq_simple {op : BinOp} {t : Nat} {k : PK} (h : dAeq P op t = some k) : k.simple = true := by
  unfold dAeq at h
  (repeat' split at h) <;> first | (cases h; done) | (obtain ⟨ks, _, rfl⟩ := Option.map_eq_some_iff.1 h; rfl)
theorem dUn_simple {op : UnOp} {k : PK} (h : dUn op = some k) : k.simple = true := by
  unfold dUn at h
  (repeat' split at h) <;> (try cases h) <;> rfl
theorem dConv_simple {s t : Nat} {k : PK} (h : dConv P s t = some k) : k.simple = true := by
  unfold dConv at h
  (repeat' split at h) <;> (try cases h) <;> rfl
theorem dIdx_simple {t : Nat} {k : PK} (h : dIdx P t = some k) : k.simple = true := by
  unfold dIdx at h
  (repeat' split at h) <;> (try cases h) <;> rfl
theorem dLoad_simple {t : Nat} {k : PK} (h : dLoad P t = some k) : k.simple = true := by
  unfold dLoad at h
  obtain ⟨g, _, h⟩ := Option.bind_eq_some_iff.1 h
  (repeat' split at h) <;> (try cases h) <;> rfl
theorem dAix_simple {t : Nat} {k : PK} (h : dAix P t = some k) : k.simple = true := by
  unfold dAix at h
  split at h
  · obtain ⟨g, _, h⟩ := Option.bind_eq_some_iff.1 h
    (repeat' split at h) <;> (try cases h) <;> rfl
  · cases h
theorem dSlc_simple {t : Nat} {x : Operand} {lo hi mx : Option Operand} {k : PK} {xs : List Operand} (h : dSlc P t x lo hi mx = some (k, xs)) : k.simple = true := by
  unfold dSlc at h
  (repeat' split at h) <;> (try cases h) <;> rfl
theorem simple_of {fr : Nat → Nat} {op : Op} {k : PK} {xs : List Operand} (ho : isCall op = false) (h : dPure P fr op = some (k, xs)) : k.simple = true := by
  unfold dPure at h
  split at h
  case h_11 => simp [isCall] at ho
  all_goals first
    | (cases h; rfl)
    | (cases h; done)
    | (obtain ⟨q, hq, he⟩ := Option.map_eq_some_iff.1 h
       cases he
       first
         | rfl
         | exact dLoad_simple hq
         | exact dIdx_simple hq
         | exact dUn_simple hq
         | exact dConv_simple hq
         | exact dAix_simple hq
         | (rcases or3 hq with hq | hq | hq
            · exact dBin_simple hq
            · exact dSnil_simple hq
            · exact dAeq_simple hq))
    | exact dSlc_simple h
    | (split at h <;> cases h <;> rfl)
    | (obtain ⟨q, hq, he⟩ := Option.bind_eq_some_iff.1 h
       first
         | (split at he <;> cases he <;> rfl)
         | (obtain ⟨z, hz, he⟩ := Option.map_eq_some_iff.1 he
            cases he
            rfl))

theorem step_call {fr : Nat → Nat} {Γ : Env} (hΓ : Sound P Γ) {o : Oper} {k : PK} {xs : List Operand} {gs : List VArg} {d : D} {x : Nat} {next : Act → World → Prop} {Q : Exit → Act → World → Prop}
    (R : Rel P w0 pr A n w a.tmps σ tk) (hd : dPure P fr o.op = some (k, xs)) (hk : k.simple = false) (hgs : xs.mapM (dArg n) = some gs) (hx : o.dst = some x) (hxn : x < n)
    (hrun : k.run Γ σ.m (gs.map (VArg.val σ.s)) = some d) (h : ∀ v w', Rel P w0 pr A n w' (a.put (some x) v).tmps (σ.set x d) tk → next (a.put (some x) v) w') : o.wp P a w next Q := by
  have fin : ∀ (f : Nat) (cargs : Array Value), (execOp a.eval o).run P w = .ok (.enter f cargs) w →
      (Calls P f cargs w fun e w' => ∃ v, e = .returned v ∧ Chg (fun _ => False) w w' ∧ Rep w' pr tk v d) → o.wp P a w next Q := fun f cargs he hc => by
    unfold Oper.wp
    rw [he, Oper.upon_enter]
    refine hc.mono ?_
    rintro e w' ⟨v, rfl, h2, h3⟩
    rw [hx]
    exact h v w' (R.put hxn h2 h3)
  have hrep := args_rep R hgs
  generalize ho : o.op = op at hd
  have hd0 := hd
  have ho2 : (∃ c, op = .call c) ∨ isCall op = false := by cases op <;> first | exact .inl ⟨_, rfl⟩ | exact .inr rfl
  rcases ho2 with ⟨c, rfl⟩ | ho2
  case inr => rw [simple_of ho2 hd0] at hk; cases hk
  case inl =>
    simp only [dPure] at hd
    unfold dCall at hd
    split at hd
    · rename_i b hc
      obtain ⟨k', hk', hd⟩ := Option.map_eq_some_iff.1 hd
      cases hd
      unfold dBuiltin at hk'
      split at hk' <;> first
        | (cases hk'; done)
        | (cases hk'; simp [PK.simple] at hk; done)
        | (split at hk' <;> cases hk' <;> simp [PK.simple] at hk)
    · rename_i f hc
      split at hd <;> cases hd
      obtain ⟨hb, hcall⟩ := callV_sound (P := P) (cargs := c.args.map a.eval) hΓ R.mem (by simpa using hrep) R.prw hrun
      exact fin f _ (by simp [execOp, ho, resolve, hc, Act.eval, Deferred.ofValue, invoke, run_callFunc hb]) hcall
    · rename_i t hc
      cases hd
      simp only [List.mapM_cons, Option.bind_eq_bind, Option.bind_eq_some_iff, Option.pure_def, Option.some.injEq] at hgs
      obtain ⟨g, hg, gs', hgs', rfl⟩ := hgs
      simp only [List.map_cons, PK.run] at hrun
      have hfv : Rep w pr tk (a.eval (.tmp t)) (g.val σ.s) := hrep.1
      have hrest : Reps w pr tk (c.args.toList.map a.eval) (gs'.map (VArg.val σ.s)) := hrep.2
      cases hgv : g.val σ.s <;> rw [hgv] at hrun <;> simp only [ccallV] at hrun <;> try (cases hrun; done)
      rename_i f caps
      rw [hgv] at hfv
      generalize hev : a.eval (.tmp t) = fv at hfv
      cases hfv with
      | @clo _ _ cv _ hs hr =>
        have happ : Reps w pr tk ((c.args.map a.eval) ++ cv).toList (gs'.map (VArg.val σ.s) ++ caps) := by
          rw [Array.toList_append]
          exact reps_append (by simpa using hrest) (reps_of (by simpa using hs) fun i c x hc hx => hr i c x (by simpa using hc) hx)
        obtain ⟨hb, hcall⟩ := callV_sound (P := P) hΓ R.mem happ R.prw hrun
        exact fin f _ (by simp [execOp, ho, resolve, hc, hev, Deferred.ofValue, invoke, run_callFunc hb]) hcall
    · cases hd
end
end Go.Proofs.Ytpmgaaalfdjikaa
