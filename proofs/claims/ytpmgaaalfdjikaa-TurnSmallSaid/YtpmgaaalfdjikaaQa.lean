/- From what a call is handed to the data of the H semantics; the row of a law, out of a contract. Lemmas; no condition. -/
import Derived.Test.YtpmgaaalfdjikaaHo
import Derived.ProofKit
import Derived.Deep.DeepHandedRow
import Derived.OpenShut
namespace Go.Proofs.Ytpmgaaalfdjikaa
open Go.ChangeShapes Go.WideShapes Go.ChangeAt Go.RowKit
set_option linter.unusedVariables false

/-- What data of a type look like, cell by cell. -/
def HasTy (P : Program) : Nat → TypeId → List D → Prop
  | 0, _, _ => False
  | n + 1, t, ds => match P.underlying t with
    | some .bool => ∃ b, ds = [bv b]
    | some (.int k) => ∃ z, ds = [.v (.int k z)] ∧ (Lit.int k z).wf = true
    | some .string => ∃ s : ByteArray, ds = [.v (.string s)] ∧ s.size ≤ maxLen
    | some (.slice e) => ∃ es, ds = [.list es] ∧ es.length ≤ maxLen ∧ ∀ c ∈ es, HasTy P n e c
    | some (.struct fs) => ds.length = P.cellsOf t ∧ ∀ f ∈ fs.toList, HasTy P n f.type ((ds.drop f.offset).take (P.cellsOf f.type))
    | some (.array m e) => ds.length = P.cellsOf t ∧ ∀ i, i < m → HasTy P n e ((ds.drop (i * P.cellsOf e)).take (P.cellsOf e))
    | _ => False
/-- .. of those types. -/
def okTy (P : Program) : Nat → TypeId → Bool
  | 0, _ => false
  | n + 1, t => match P.underlying t with
    | some .bool | some (.int _) | some .string => true
    | some (.slice e) => decide (0 < P.cellsOf e) && okTy P n e
    | some (.struct fs) => fs.toList.all fun f => okTy P n f.type
    | some (.array _ e) => okTy P n e
    | _ => false

def RepL (w : World) (cs : List Value) (ds : List D) : Prop := cs.length = ds.length ∧ ∀ (j : Nat) (c : Value) (d : D), cs[j]? = some c → ds[j]? = some d → c.oneCell' = true ∧ Rep w (allPr w) noTok c d
theorem RepL.nil {w : World} : RepL w [] [] := ⟨rfl, fun j c d h => by simp at h⟩
theorem RepL.one {w : World} {c : Value} {d : D} (h1 : c.oneCell' = true) (h2 : Rep w (allPr w) noTok c d) : RepL w [c] [d] :=
  ⟨rfl, fun j c' d' hc hd => by
    cases j with
    | zero => simp only [List.getElem?_cons_zero, Option.some.injEq] at hc hd; subst hc; subst hd; exact ⟨h1, h2⟩
    | succ j => simp at hc⟩
theorem RepL.append {w : World} {a b : List Value} {x y : List D} (h : RepL w a x) (k : RepL w b y) : RepL w (a ++ b) (x ++ y) := by
  refine ⟨by simp [h.1, k.1], fun j c d hc hd => ?_⟩
  by_cases hj : j < a.length
  · rw [List.getElem?_append_left hj] at hc
    rw [List.getElem?_append_left (by rw [← h.1]; exact hj)] at hd
    exact h.2 j c d hc hd
  · rw [List.getElem?_append_right (by omega)] at hc
    rw [List.getElem?_append_right (by rw [← h.1]; omega), ← h.1] at hd
    exact k.2 _ c d hc hd

theorem sum_le (cell : Nat → Nat) : ∀ m k, k ≤ m → ((List.range k).map cell).sum ≤ ((List.range m).map cell).sum
  | 0, k, hk => by have : k = 0 := by omega
                   subst this; exact Nat.le_refl _
  | m + 1, k, hk => by
    by_cases h : k ≤ m
    · have := sum_le cell m k h
      simp only [List.range_succ, List.map_append, List.sum_append, List.map_cons, List.map_nil, List.sum_cons, List.sum_nil]
      omega
    · have : k = m + 1 := by omega
      subst this; exact Nat.le_refl _
theorem sum_take {α : Type} (g : α → Nat) (x0 : α) : ∀ (l : List α) (j : Nat), j ≤ l.length → ((l.take j).map g).sum = ((List.range j).map fun i => g (l.getD i x0)).sum
  | l, 0, _ => by simp
  | l, j + 1, h => by
    rw [List.take_succ_eq_append_getElem (by omega), List.map_append, List.sum_append, sum_take g x0 l j (by omega), List.range_succ, List.map_append, List.sum_append]
    simp [List.getD, show j < l.length by omega]
theorem sum_const (c : Nat) : ∀ m, ((List.range m).map fun _ => c).sum = m * c
  | 0 => by simp
  | m + 1 => by simp [List.range_succ, sum_const c m, Nat.succ_mul]

/-- Parts that lie one behind the other. -/
theorem parts_rep {w : World} (Q : Nat → List D → Prop) (cell off : Nat → Nat) (cs : List Value) : ∀ (m : Nat), (∀ i, i < m → off i = ((List.range i).map cell).sum) → ((List.range m).map cell).sum ≤ cs.length →
    (∀ i, i < m → ∃ ds, Q i ds ∧ RepL w ((cs.drop (off i)).take (cell i)) ds) →
    ∃ ds, RepL w (cs.take ((List.range m).map cell).sum) ds ∧ ∀ i, i < m → Q i ((ds.drop (off i)).take (cell i))
  | 0, _, _, _ => ⟨[], by simpa using RepL.nil, fun i hi => by omega⟩
  | m + 1, hoff, hlen, h => by
    have hs : ((List.range (m + 1)).map cell).sum = ((List.range m).map cell).sum + cell m := by simp [List.range_succ]
    rw [hs] at hlen ⊢
    obtain ⟨ds, h1, h2⟩ := parts_rep Q cell off cs m (fun i hi => hoff i (by omega)) (by omega) fun i hi => h i (by omega)
    obtain ⟨dl, h3, h4⟩ := h m (by omega)
    have ho := hoff m (by omega)
    have hdl := h1.1
    have hl4 := h4.1
    simp only [List.length_take, List.length_drop] at hdl hl4
    refine ⟨ds ++ dl, ?_, fun i hi => ?_⟩
    · have e : cs.take (((List.range m).map cell).sum + cell m) = cs.take ((List.range m).map cell).sum ++ (cs.drop (off m)).take (cell m) := by
        rw [List.take_add, ← ho]
      rw [e]
      exact h1.append h4
    · by_cases hm : i < m
      · have h5 := h2 i hm
        have h6 := sum_le cell m (i + 1) (by omega)
        have e2 : ((List.range (i + 1)).map cell).sum = ((List.range i).map cell).sum + cell i := by simp [List.range_succ]
        have h7 := hoff i (by omega)
        rwa [List.drop_append_of_le_length (by omega), List.take_append_of_le_length (by simp; omega)]
      · obtain rfl : i = m := by omega
        have e1 : off i = ds.length := by omega
        rw [e1, List.drop_left, List.take_of_length_le (by omega)]
        exact h3

theorem list_choice {α : Type} (R : Nat → α → Prop) : ∀ n, (∀ i, i < n → ∃ x, R i x) → ∃ l : List α, l.length = n ∧ ∀ i x, l[i]? = some x → R i x
  | 0, _ => ⟨[], rfl, fun i x h => by simp at h⟩
  | n + 1, h => by
    obtain ⟨l, h1, h2⟩ := list_choice R n fun i hi => h i (by omega)
    obtain ⟨x, hx⟩ := h n (by omega)
    refine ⟨l ++ [x], by simp [h1], fun i y hy => ?_⟩
    by_cases hi : i < l.length
    · rw [List.getElem?_append_left hi] at hy; exact h2 i y hy
    · rw [List.getElem?_append_right (by omega)] at hy
      have hi' : i - l.length = 0 := by
        have := (List.getElem?_eq_some_iff.1 hy).1
        simp at this; omega
      rw [hi'] at hy
      simp only [List.getElem?_cons_zero, Option.some.injEq] at hy
      subst hy
      have : i = n := by omega
      subst this; exact hx

section
variable {H : Type} {enc : TypeId × Value → H} {P : Program} {w : World} {held : Bool}

theorem trod_rep (hl : laidOutB P = true) : ∀ (n : Nat) (t : TypeId) (fuel : Nat) (cs : List Value) (x : DataW H × List MemPlace), t < P.types.size → okTy P n t = true →
    DataW.trod enc P w 0 (fun _ => true) held fuel t cs = some x → ∃ ds, HasTy P n t ds ∧ RepL w cs ds := by
  intro n
  induction n with
  | zero => intro t fuel cs x _ hk; simp [okTy] at hk
  | succ n ih =>
    intro t fuel cs x ht hk h
    simp only [okTy] at hk
    cases hu : P.underlying t with
    | none => rw [hu] at hk; cases hk
    | some ty =>
      rw [hu] at hk
      cases ty <;> simp only [] at hk <;> try (cases hk; done)
      case bool =>
        obtain ⟨b, rfl, _⟩ := DataW.trod_bool hu h
        exact ⟨[bv b], by simp [HasTy, hu], RepL.one rfl (.v rfl)⟩
      case int k =>
        obtain ⟨z, rfl, _, hz⟩ := DataW.trod_int hu h
        exact ⟨[.v (.int k z)], by simp [HasTy, hu, hz], RepL.one rfl (.v rfl)⟩
      case string =>
        obtain ⟨s, rfl, _, hz⟩ := DataW.trod_string hu h
        exact ⟨[.v (.string s)], by simp [HasTy, hu, hz], RepL.one rfl (.v rfl)⟩
      case slice e =>
        simp only [Bool.and_eq_true, decide_eq_true_eq] at hk
        obtain ⟨hpos, hk⟩ := hk
        have he := kid_slice hl ht hu
        rcases DataW.trod_slice hu h with ⟨rfl, rfl⟩ | ⟨a, len, cap, elems, rest, m, rfl, rfl, rfl, _, hlc, hcm, hlen, hel, _, _⟩
        · exact ⟨[.list []], by simp [HasTy, hu], RepL.one rfl .nil'⟩
        · obtain ⟨ll, hll, hR⟩ := list_choice (fun i (q : List Value × List D) => w.cells? 0 (a.add (i * P.cellsOf e)) (P.cellsOf e) = some q.1 ∧ HasTy P n e q.2 ∧ RepL w q.1 q.2) len fun i hi => by
            have h1 := hel i hi
            rw [List.getElem?_eq_getElem (by omega), Option.bind_eq_some_iff] at h1
            obtain ⟨c, hc, h1⟩ := h1
            obtain ⟨ds, h2, h3⟩ := ih e m c _ he hk h1
            exact ⟨(c, ds), hc, h2, h3⟩
          have hes : (ll.map (·.2)).length = len := by simpa using hll
          refine ⟨[.list (ll.map (·.2))], ?_, RepL.one rfl ?_⟩
          · simp only [HasTy, hu]
            refine ⟨_, rfl, by omega, fun c hc => ?_⟩
            obtain ⟨q, hq, rfl⟩ := List.mem_map.1 hc
            obtain ⟨i, hi⟩ := List.mem_iff_getElem?.1 hq
            exact (hR i q hi).2.1
          · by_cases h0 : len = 0
            · subst h0
              have : ll = [] := List.eq_nil_of_length_eq_zero hll
              subst this
              exact .emp
            · have cell : ∀ (i : Nat) (q : List Value × List D), ll[i]? = some q → ∀ k, k < P.cellsOf e → w.cell? ((a.add (i * P.cellsOf e)).add k) = q.1[k]? ∧ q.1.length = P.cellsOf e := fun i q hq k hk' =>
                let ⟨_, h2, h3⟩ := World.cells?_some (hR i q hq).1
                ⟨h3 k hk', h2⟩
              have hspot : a.spot = none := by
                have hq := List.getElem?_eq_getElem (show 0 < ll.length by omega)
                obtain ⟨h2, h3⟩ := cell 0 _ hq 0 hpos
                rw [List.getElem?_eq_getElem (by omega)] at h2
                have := World.cell?_spot h2
                simpa [Addr.add] using this
              obtain ⟨b, off, sp⟩ := a
              simp only at hspot
              subst hspot
              have key : ∀ (i : Nat) (q : List Value × List D), ll[i]? = some q → ∀ k, k < P.cellsOf e → ∃ c, q.1[k]? = some c ∧ w.cell? ⟨b, off + (i * P.cellsOf e + k), none⟩ = some c := fun i q hq k hk' => by
                obtain ⟨h2, h3⟩ := cell i q hq k hk'
                rw [add_off, add_off, List.getElem?_eq_getElem (by omega)] at h2
                exact ⟨_, List.getElem?_eq_getElem (by omega), by rw [← Nat.add_assoc]; exact h2⟩
              have := Rep.list (w := w) (pr := allPr w) (tk := noTok) (b := b) (off := off) (cap := cap) (size := P.cellsOf e) (es := ll.map (·.2)) (fun j => (w.cell? ⟨b, off + j, none⟩).getD undef) (fun c hc => by
                  obtain ⟨q, hq, rfl⟩ := List.mem_map.1 hc
                  obtain ⟨i, hi⟩ := List.mem_iff_getElem?.1 hq
                  rw [← (hR i q hi).2.2.1]
                  exact (cell i q hi 0 hpos).2) (by omega) (fun j hj => by
                  have hi : j / P.cellsOf e < ll.length := by
                    rw [List.length_map] at hj
                    exact Nat.div_lt_of_lt_mul (by rw [Nat.mul_comm]; exact hj)
                  have hk' := Nat.mod_lt j hpos
                  have hq := List.getElem?_eq_getElem hi
                  obtain ⟨c, h1, h2⟩ := key _ _ hq _ hk'
                  have ej : j / P.cellsOf e * P.cellsOf e + j % P.cellsOf e = j := Nat.div_add_mod' j _
                  rw [ej] at h2
                  refine ⟨by rw [h2]; rfl, World.block_lt_of_cell? w _ h2, ?_⟩
                  rw [h2]
                  have hrl := (hR _ _ hq).2.2
                  exact (hrl.2 _ c _ h1 (List.getElem?_eq_getElem (by rw [← hrl.1]; exact (List.getElem?_eq_some_iff.1 h1).1))).1) (fun i c hc j d hd => by
                  rw [List.getElem?_map, Option.map_eq_some_iff] at hc
                  obtain ⟨q, hq, rfl⟩ := hc
                  have hrl := (hR i q hq).2.2
                  have hj : j < P.cellsOf e := by
                    have := (List.getElem?_eq_some_iff.1 hd).1
                    rw [← hrl.1, (cell i q hq 0 hpos).2] at this
                    exact this
                  obtain ⟨c, h1, h2⟩ := key i q hq j hj
                  simp only [h2, Option.getD_some]
                  exact (hrl.2 j c d h1 hd).2)
              rw [hes] at this
              exact this
      case struct fs =>
        obtain ⟨k1, k2, k3⟩ := kid_struct hl ht hu
        obtain ⟨xs, m, rfl, rfl, hlen, hxs, hx⟩ := DataW.trod_struct hu h
        rw [List.all_eq_true] at hk
        have hdef : ∀ i, i < fs.toList.length → fs.toList[i]? = some (fs.toList.getD i default) := fun i hi => by
          have hi' : i < fs.size := by simpa using hi
          simp [List.getD, hi']
        have hsum := sum_take (fun f : Field => P.cellsOf f.type) default fs.toList fs.toList.length (Nat.le_refl _)
        rw [List.take_length] at hsum
        rw [hsum] at k2
        obtain ⟨ds, h1, h2⟩ := parts_rep (w := w) (fun i ds => HasTy P n (fs.toList.getD i default).type ds) (fun i => P.cellsOf (fs.toList.getD i default).type) (fun i => (fs.toList.getD i default).offset) cs fs.toList.length
          (fun i hi => by rw [k3 i _ (hdef i hi), sum_take _ default _ i (by omega)]) (by omega) fun i hi => by
            have hf := hdef i hi
            have hf' : fs[i]? = some (fs.toList.getD i default) := by rw [← hf]; simp
            have h3 := hx i _ hf'
            rw [List.getElem?_eq_getElem (by rw [hxs]; simpa using hi)] at h3
            have hm := List.mem_of_getElem? hf
            exact ih _ m _ _ (k1 _ hm) (hk _ hm) h3
        rw [List.take_of_length_le (by omega)] at h1
        refine ⟨ds, ?_, h1⟩
        simp only [HasTy, hu]
        refine ⟨by rw [← h1.1, hlen], fun f hf => ?_⟩
        obtain ⟨i, hi, rfl⟩ := List.getElem_of_mem hf
        have hi' : i < fs.size := by simpa using hi
        have := h2 i hi
        simpa [List.getD, hi'] using this
      case array m e =>
        obtain ⟨k1, k2⟩ := kid_array hl ht hu
        obtain ⟨xs, q, rfl, rfl, hlen, hxs, hx⟩ := DataW.trod_array hu h
        obtain ⟨ds, h1, h2⟩ := parts_rep (w := w) (fun i ds => HasTy P n e ds) (fun i => P.cellsOf e) (fun i => i * P.cellsOf e) cs m
          (fun i hi => (sum_const _ i).symm) (by rw [sum_const]; omega) fun i hi => by
            have h3 := hx i hi
            rw [List.getElem?_eq_getElem (by omega)] at h3
            exact ih _ q _ _ k1 hk h3
        rw [sum_const, List.take_of_length_le (by omega)] at h1
        refine ⟨ds, ?_, h1⟩
        simp only [HasTy, hu]
        exact ⟨by rw [← h1.1, hlen], h2⟩

def ArgTy (P : Program) (n : Nat) (t : TypeId) (d : D) : Prop := match P.underlying t with
  | some (.struct _) | some (.array _ _) => ∃ ds, d = .agg ds ∧ HasTy P n t ds
  | _ => HasTy P n t [d]
def ArgsTy (P : Program) (n : Nat) : List TypeId → List D → Prop
  | [], [] => True
  | t :: ts, d :: ds => ArgTy P n t d ∧ ArgsTy P n ts ds
  | _, _ => False

theorem trod_arg (hl : laidOutB P = true) {n : Nat} {t : TypeId} {v : Value} {d : DataW H} {p : List MemPlace} {base : Nat} (ht : t < P.types.size) (hk : okTy P n t = true) (hv : Value.okWide P w .any base t v)
    (h : DataW.Trod enc P w 0 (fun _ => true) held t v d p) : ∃ d', ArgTy P n t d' ∧ Rep w (allPr w) noTok v d' := by
  obtain ⟨fuel, h⟩ := h
  obtain ⟨ds, h1, h2⟩ := trod_rep hl n t fuel _ _ ht hk h
  have plain : (∀ cs, v ≠ .agg cs) → ArgTy P n t (ds.getD 0 .undef) = HasTy P n t [ds.getD 0 .undef] → ∃ d', ArgTy P n t d' ∧ Rep w (allPr w) noTok v d' := fun hne e => by
    have hc : v.cells.toList = [v] := by
      cases v <;> first | rfl | exact absurd rfl (hne _)
    rw [hc] at h2
    have hl1 := h2.1
    match ds, hl1 with
    | [d0], _ => exact ⟨d0, by simp only [List.getD_cons_zero] at e; rw [e]; exact h1, (h2.2 0 v d0 rfl rfl).2⟩
  have agg : ∀ cs, v = .agg cs → ArgTy P n t (.agg ds) = (∃ ds', D.agg ds = .agg ds' ∧ HasTy P n t ds') → ∃ d', ArgTy P n t d' ∧ Rep w (allPr w) noTok v d' := fun cs e e2 => by
    subst e
    refine ⟨.agg ds, by rw [e2]; exact ⟨ds, rfl, h1⟩, .agg (by simpa [Value.cells] using h2.1) (fun i c hc => ?_) fun i c x hc hx => (h2.2 i c x (by simpa [Value.cells] using hc) hx).2⟩
    have hi : i < ds.length := by
      have := (Array.getElem?_eq_some_iff.1 hc).1
      have := h2.1
      simp [Value.cells] at this
      omega
    exact (h2.2 i c _ (by simpa [Value.cells] using hc) (List.getElem?_eq_getElem hi)).1
  cases hu : P.underlying t with
  | none => cases n <;> simp [okTy, hu] at hk
  | some ty =>
    cases ty
    case struct fs =>
      simp only [Value.okWide, hu] at hv
      obtain ⟨cs, rfl, _⟩ := hv
      exact agg cs rfl (by simp only [ArgTy, hu])
    case array m e =>
      simp only [Value.okWide, hu] at hv
      obtain ⟨cs, rfl, _⟩ := hv
      exact agg cs rfl (by simp only [ArgTy, hu])
    all_goals
      refine plain (fun cs e => ?_) (by simp only [ArgTy, hu])
      subst e
      simp [Value.okWide, hu, Cell.okWide, Cell.ok] at hv

theorem trod_args (hl : laidOutB P = true) {n : Nat} {base : Nat} : ∀ {ts : List TypeId} {vs : List Value} {ds : List (DataW H)} {p : List MemPlace}, (∀ t ∈ ts, t < P.types.size ∧ okTy P n t = true) →
    (∀ (j : Nat) t v, ts[j]? = some t → vs[j]? = some v → Value.okWide P w .any base t v) → DataW.TrodAll enc P w 0 (fun _ => true) held ts vs ds p → ∃ Ds, ArgsTy P n ts Ds ∧ Reps w (allPr w) noTok vs Ds
  | [], vs, ds, p, _, _, h => by
    obtain ⟨rfl, rfl, rfl⟩ := trodAll_nil h
    exact ⟨[], trivial, trivial⟩
  | t :: ts, vs, ds, p, hk, hv, h => by
    obtain ⟨v, vs1, d, ds1, a, b, rfl, rfl, rfl, h1, h2⟩ := trodAll_cons h
    obtain ⟨d', e1, e2⟩ := trod_arg hl (hk t List.mem_cons_self).1 (hk t List.mem_cons_self).2 (hv 0 t v rfl rfl) h1
    obtain ⟨Ds, e3, e4⟩ := trod_args hl (fun t' ht' => hk t' (List.mem_cons_of_mem _ ht')) (fun j t' v' ht' hv' => hv (j + 1) t' v' ht' hv') h2
    exact ⟨d' :: Ds, ⟨e1, e3⟩, ⟨e2, e4⟩⟩

theorem trod_again (hl : laidOutB P = true) {W W' : World} (hb : Below W.heap.size W W') {sp : Nat → Bool} : ∀ {ts : List TypeId} {vs : List Value} {ds : List (DataW H)} {p : List MemPlace}, (∀ t ∈ ts, t < P.types.size ∧ P.readableRec t = true) →
    (∀ x ∈ p, x.block < W.heap.size ∧ sp x.block = true) → DataW.TrodAll enc P W 0 (fun _ => true) true ts vs ds p → DataW.TrodAll enc P W' 0 sp true ts vs ds p
  | [], vs, ds, p, _, _, h => by
    obtain ⟨rfl, rfl, rfl⟩ := trodAll_nil h
    exact trodAll_mk0
  | t :: ts, vs, ds, p, hk, hp, h => by
    obtain ⟨v, vs1, d, ds1, a, b, rfl, rfl, rfl, h1, h2⟩ := trodAll_cons h
    refine trodAll_cons_mk (WideElems.Trod_stays hl (hk t List.mem_cons_self).2 (hk t List.mem_cons_self).1 h1 (fun x hx => hb.same (hp x (List.mem_append_left _ hx)).1) fun x hx => (hp x (List.mem_append_left _ hx)).2) ?_
    exact trod_again hl hb (fun t' ht' => hk t' (List.mem_cons_of_mem _ ht')) (fun x hx => hp x (List.mem_append_right _ hx)) h2

theorem trodAll_len {W : World} {sp : Nat → Bool} : ∀ {ts : List TypeId} {vs : List Value} {ds : List (DataW H)} {p : List MemPlace}, DataW.TrodAll enc P W 0 sp held ts vs ds p → ds.length = ts.length
  | [], vs, ds, p, h => by
    obtain ⟨rfl, rfl, rfl⟩ := trodAll_nil h
    rfl
  | t :: ts, vs, ds, p, h => by
    obtain ⟨v, vs1, d, ds1, a, b, rfl, rfl, rfl, h1, h2⟩ := trodAll_cons h
    simp [trodAll_len h2]

/-- What a law's contract gives to its row. -/
theorem law_contract (hl : laidOutB P = true) {f : FuncId} {fn : Func} {s : ChangeSpec} {n tb : Nat} (hvars : s.vars = []) (hspec : ∀ ds : List (DataW H), ds.length = fn.params.size → s.fn H ds = { results := [.lit (.bool true)], args := ds })
    (hres : fn.resultTypes = #[tb]) (hb : P.underlying tb = some .bool) (hts : ∀ t ∈ fn.params.toList, t < P.types.size ∧ okTy P n t = true ∧ P.readableRec t = true)
    (hc : ∀ Ds, ArgsTy P n fn.params.toList Ds → VCp P f Ds (bv true))
    (W : World) (base : Nat) (args : Array Value) (ds gs : List (DataW H)) (before : List MemPlace)
    (hval : ∀ (j : Nat) t v, fn.params[j]? = some t → args[j]? = some v → Value.okWide P W .any base t v)
    (hW : DataW.Whole enc P fn.params.toList s.vars false W args.toList ds gs before) :
    Calls P f args W fun e W' => ∃ v, e = .returned v ∧ s.post enc P fn false true false false W args v W' := by
  have hlt : ∀ p ∈ before, p.block < W.heap.size := fun p hp => hW.lt p hp
  have hW' := hW
  obtain ⟨p, q, hA, hV, rfl, hfz, hnd⟩ := hW
  rw [hvars] at hV
  obtain ⟨rfl, rfl⟩ := trodVars_none hV
  rw [List.append_nil] at hlt hW' hfz hnd
  obtain ⟨Ds, h1, h2⟩ := trod_args (held := true) hl (n := n) (base := base) (fun t ht => ⟨(hts t ht).1, (hts t ht).2.1⟩) (fun j t v ht hv => hval j t v (by simpa using ht) (by simpa using hv)) hA
  refine ((hc Ds h1).2 W (allPr W) args (fun b o h => h) h2).mono ?_
  rintro e W' ⟨v, rfl, hch, hr⟩
  obtain ⟨rfl, _⟩ := rep_v.1 hr
  refine ⟨_, rfl, ?_⟩
  have hbel : Below W.heap.size W W' := ⟨hch.os, hch.tape, hch.output, hch.size, fun k hk => hch.block k hk (fun h => h)⟩
  have hlen : ds.length = fn.params.size := by have := trodAll_len hA; simpa using this
  have hsp := hspec ds hlen
  have hA' : ∀ sp : Nat → Bool, (∀ x ∈ p, sp x.block = true) → DataW.TrodAll enc P W' 0 sp true fn.params.toList args.toList ds p := fun sp hs =>
    trod_again hl hbel (fun t ht => ⟨(hts t ht).1, (hts t ht).2.2⟩) (fun x hx => ⟨hlt x hx, hs x hx⟩) hA
  have hR : ∀ (b : Nat) (sp : Nat → Bool) (hd : Bool), DataW.TrodAll enc P W' b sp hd fn.resultTypes.toList ((Value.bool true).resultList fn.resultTypes.size) [.lit (.bool true)] [] := fun b sp hd => by
    rw [hres]
    exact trodAll_mk1 (shut_bool hb true)
  have hap : ds ++ ([] : List (DataW H)) = ds := List.append_nil ds
  refine ⟨ds, [], p, [], p, [], hW', ?_, ?_, ?_, hbel.frame _, fun _ => ?_⟩
  · rw [hap, hsp]; exact hR _ _ _
  · rw [hap, hsp]; exact hA' _ fun x hx => by simpa using hlt x hx
  · rw [hvars, hap, hsp]; exact rfl
  · refine ⟨ok_one hres rfl (okWide_bool_mk hb true), [.lit (.bool true)] ++ ds, [], ([] ++ p) ++ [], ⟨[] ++ p, [], trodAll_append (hA' _ fun _ _ => rfl) (hR _ _ _), by rw [hvars]; exact rfl, rfl, ?_, ?_⟩, ?_⟩
    · intro b off hp
      have hm : MemPlace.cell b off ∈ p := by simpa using hp
      rw [hbel.frozen (p := ⟨b, off, none⟩) (hlt _ hm)]
      exact hfz b off hm
    · intro ha; cases ha
    · intro x hx _
      simpa using hx
end
end Go.Proofs.Ytpmgaaalfdjikaa
