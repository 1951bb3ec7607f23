/- The H semantics: every operation that only computes, on values that stand for data. Lemmas; no condition. -/
import Derived.Test.YtpmgaaalfdjikaaHcb
import Derived.Great.BuildSlice
import Derived.Maps.RangeRun
namespace Go.Proofs.Ytpmgaaalfdjikaa
open Go.RowKit

section
variable {P : Program} {w : World} {pr : Prot} {tk : Places} {m : Mem}

theorem Reps.length : ∀ {vs : List Value} {ds : List D}, Reps w pr tk vs ds → vs.length = ds.length
  | [], [], _ => rfl
  | _ :: _, _ :: _, h => by simp [Reps.length h.2]
  | [], _ :: _, h => absurd h (by simp [Reps])
  | _ :: _, [], h => absurd h (by simp [Reps])

theorem Reps.one {v : Value} {ds : List D} (h : Reps w pr tk [v] ds) : ∃ d, ds = [d] ∧ Rep w pr tk v d := by
  match ds, h with
  | [d], h => exact ⟨d, rfl, h.1⟩
  | _ :: _ :: _, h => exact absurd h.2 (by simp [Reps])
theorem Reps.two {v u : Value} {ds : List D} (h : Reps w pr tk [v, u] ds) : ∃ d e, ds = [d, e] ∧ Rep w pr tk v d ∧ Rep w pr tk u e := by
  match ds, h with
  | [d, e], h => exact ⟨d, e, rfl, h.1, h.2.1⟩
  | [_], h => exact absurd h.2 (by simp [Reps])
  | _ :: _ :: _ :: _, h => exact absurd h.2.2 (by simp [Reps])
theorem Reps.three {v u z : Value} {ds : List D} (h : Reps w pr tk [v, u, z] ds) : ∃ d e f, ds = [d, e, f] ∧ Rep w pr tk v d ∧ Rep w pr tk u e ∧ Rep w pr tk z f := by
  match ds, h with
  | [d, e, f], h => exact ⟨d, e, f, rfl, h.1, h.2.1, h.2.2.1⟩
  | [_], h => exact absurd h.2 (by simp [Reps])
  | [_, _], h => exact absurd h.2.2 (by simp [Reps])
  | _ :: _ :: _ :: _ :: _, h => exact absurd h.2.2.2 (by simp [Reps])

theorem rep_v {v : Value} {x : Value} : Rep w pr tk v (.v x) ↔ v = x ∧ plainV x = true := by
  constructor
  · intro h
    cases h
    exact ⟨rfl, ‹_›⟩
  · rintro ⟨rfl, h⟩
    exact .v h

theorem ibin_sound {t : Nat} {op : BinOp} {k : IntKind} {a b : Int} {d : D} (h : ibinV op k a b = some d) :
    ∃ v, (binOp op t (.int k a) (.int k b)).run P w = .ok v w ∧ Rep w pr tk v d := by
  cases op <;> simp only [ibinV] at h <;> try (cases h; done)
  case quo => split at h <;> cases h; rename_i hb; exact ⟨_, by simp [binOp, Op.intDiv, hb], rep_v.2 ⟨rfl, rfl⟩⟩
  case rem => split at h <;> cases h; rename_i hb; exact ⟨_, by simp [binOp, Op.intDiv, hb], rep_v.2 ⟨rfl, rfl⟩⟩
  case and => cases h; exact ⟨_, by simp [binOp, intBits_and], rep_v.2 ⟨rfl, rfl⟩⟩
  case or => cases h; exact ⟨_, by simp [binOp, intBits_or], rep_v.2 ⟨rfl, rfl⟩⟩
  case xor => cases h; exact ⟨_, by simp [binOp, intBits_xor], rep_v.2 ⟨rfl, rfl⟩⟩
  case andNot => cases h; exact ⟨_, by simp [binOp]; rfl, rep_v.2 ⟨rfl, rfl⟩⟩
  all_goals (cases h; exact ⟨_, by simp [binOp, Op.intArith, Op.intCmp], rep_v.2 ⟨rfl, rfl⟩⟩)

theorem eqGuard_int {op : BinOp} {t : Nat} {x y : Operand} {k k' : IntKind} {a b : Int} : (eqGuard op t x y (.int k a) (.int k' b)).run P w = .ok () w := by
  cases op <;> simp [eqGuard]
theorem eqGuard_bool {op : BinOp} {t : Nat} {x y : Operand} {a b : Bool} : (eqGuard op t x y (.bool a) (.bool b)).run P w = .ok () w := by
  cases op <;> simp [eqGuard]
theorem eqGuard_string {op : BinOp} {t : Nat} {x y : Operand} {a b : ByteArray} : (eqGuard op t x y (.string a) (.string b)).run P w = .ok () w := by
  cases op <;> simp [eqGuard]

theorem shift_sound {op : BinOp} {t : Nat} {x y : Operand} {a b : Value} {p q d : D} (hp : Rep w pr tk a p) (hq : Rep w pr tk b q)
    (hop : op = .shl ∨ op = .shr) (hrun : shiftV op [p, q] = some d) : ∃ v, (do eqGuard op t x y a b; binOp op t a b : Sem Value).run P w = .ok v w ∧ Rep w pr tk v d := by
  cases p <;> cases q <;> simp only [shiftV] at hrun <;> try (cases hrun; done)
  rename_i pv qv
  cases pv <;> cases qv <;> simp only [] at hrun <;> try (cases hrun; done)
  obtain ⟨rfl, _⟩ := rep_v.1 hp
  obtain ⟨rfl, _⟩ := rep_v.1 hq
  simp only [ishiftV] at hrun
  split at hrun
  · cases hrun
  · rename_i hb
    rcases hop with rfl | rfl <;> cases hrun <;> exact ⟨_, by simp [eqGuard_int, binOp, Op.shift, hb], rep_v.2 ⟨rfl, rfl⟩⟩

theorem arith_sound {op : BinOp} {t : Nat} {x y : Operand} {a b : Value} {p q d : D} (hp : Rep w pr tk a p) (hq : Rep w pr tk b q)
    (hrun : binV op [p, q] = some d) : ∃ v, (do eqGuard op t x y a b; binOp op t a b : Sem Value).run P w = .ok v w ∧ Rep w pr tk v d := by
  cases p <;> cases q <;> simp only [binV] at hrun <;> try (cases hrun; done)
  rename_i pv qv
  cases pv <;> cases qv <;> simp only [] at hrun <;> try (cases hrun; done)
  split at hrun <;> try (cases hrun; done)
  rename_i hk
  subst hk
  obtain ⟨rfl, _⟩ := rep_v.1 hp
  obtain ⟨rfl, _⟩ := rep_v.1 hq
  obtain ⟨v, h3, h4⟩ := ibin_sound (P := P) (w := w) (pr := pr) (tk := tk) (t := t) hrun
  exact ⟨v, by simp [eqGuard_int, h3], h4⟩

theorem bin_sound {Γ : Env} {op : BinOp} {t : Nat} {k : PK} {x y : Operand} {a b : Value} {p q d : D} (hd : dBin P op t = some k)
    (hp : Rep w pr tk a p) (hq : Rep w pr tk b q) (hrun : k.run Γ m [p, q] = some d) : ∃ v, (do eqGuard op t x y a b; binOp op t a b : Sem Value).run P w = .ok v w ∧ Rep w pr tk v d := by
  unfold dBin at hd
  cases hu : P.underlying t with
  | none => simp [hu] at hd
  | some dsc =>
    cases dsc <;> simp only [hu] at hd <;> try (cases hd; done)
    case int ik =>
      cases op <;> simp only [] at hd <;> cases hd <;> first | exact arith_sound hp hq hrun | exact shift_sound hp hq (by simp) hrun
    case bool =>
      cases op <;> simp only [] at hd <;> cases hd
      all_goals
        cases p <;> cases q <;> simp only [PK.run, beqV] at hrun <;> try (cases hrun; done)
        rename_i pv qv
        cases pv <;> cases qv <;> simp only [] at hrun <;> try (cases hrun; done)
        cases hrun
        obtain ⟨rfl, _⟩ := rep_v.1 hp
        obtain ⟨rfl, _⟩ := rep_v.1 hq
        refine ⟨_, by simp only [Sem.run_bind, eqGuard_bool, Result.andThen_ok]; first | exact run_eql_bool _ _ _ _ hu | exact run_neq_bool _ _ _ _ hu, rep_v.2 ⟨rfl, rfl⟩⟩
    case string =>
      cases op <;> simp only [] at hd <;> cases hd
      all_goals
        cases p <;> cases q <;> simp only [PK.run, seqV] at hrun <;> try (cases hrun; done)
        rename_i pv qv
        cases pv <;> cases qv <;> simp only [] at hrun <;> try (cases hrun; done)
        cases hrun
        obtain ⟨rfl, _⟩ := rep_v.1 hp
        obtain ⟨rfl, _⟩ := rep_v.1 hq
        refine ⟨_, by simp only [Sem.run_bind, eqGuard_string, Result.andThen_ok]; simp [binOp, Op.stringOp], rep_v.2 ⟨rfl, rfl⟩⟩

theorem ext_sound {v : Value} {x d : D} {i : Nat} (h : Rep w pr tk v x) (hr : extV i [x] = some d) : ∃ u, (Instr.extract v i).run P w = .ok u w ∧ Rep w pr tk u d := by
  cases x <;> simp only [extV] at hr <;> try (cases hr; done)
  rename_i ys
  cases h with
  | tup h2 h3 =>
    rename_i cs
    have hlt : i < cs.size := by have := (List.getElem?_eq_some_iff.1 hr).1; omega
    exact ⟨cs[i], by simp [Instr.extract, Array.getElem?_eq_getElem hlt], h3 i cs[i] d (Array.getElem?_eq_getElem hlt) hr⟩

theorem conv_sound {Γ : Env} {src dst : Nat} {k : PK} {v : Value} {x d : D} (hd : dConv P src dst = some k) (h : Rep w pr tk v x) (hr : k.run Γ m [x] = some d) :
    ∃ u, (convert src dst v).run P w = .ok u w ∧ Rep w pr tk u d := by
  unfold dConv at hd
  split at hd
  · rename_i k1 k2 hs ht
    cases hd
    cases x <;> simp only [PK.run, convV] at hr <;> try (cases hr; done)
    rename_i pv
    cases pv <;> simp only [] at hr <;> try (cases hr; done)
    cases hr
    obtain ⟨rfl, _⟩ := rep_v.1 h
    exact ⟨_, by simp [convert, run_underlying hs, run_underlying ht, Conv.intToInt], rep_v.2 ⟨rfl, rfl⟩⟩
  · cases hd

theorem un_sound {Γ : Env} {op : UnOp} {k : PK} {v : Value} {x d : D} (hd : dUn op = some k) (h : Rep w pr tk v x) (hr : k.run Γ m [x] = some d) :
    ∃ u, (Op.unary op v).run P w = .ok u w ∧ Rep w pr tk u d := by
  cases op <;> simp only [dUn] at hd <;> cases hd
  all_goals
    cases x <;> simp only [PK.run, notV, negV] at hr <;> try (cases hr; done)
    rename_i pv
    cases pv <;> simp only [] at hr <;> try (cases hr; done)
    cases hr
    obtain ⟨rfl, _⟩ := rep_v.1 h
    exact ⟨_, by simp [Op.unary, Op.intArith], rep_v.2 ⟨rfl, rfl⟩⟩

theorem len_of_rep {v : Value} {x : D} {n : Nat} (h : Rep w pr tk v x) (he : x.lenD = some n) : ∃ a c, v = .slice a n c := by
  cases x <;> simp only [D.lenD] at he <;> cases he
  case nil => cases h; exact ⟨_, _, rfl⟩
  case mt => cases h; exact ⟨_, _, rfl⟩
  case list => cases h <;> exact ⟨_, _, rfl⟩
  case sl => cases h; exact ⟨_, _, rfl⟩

theorem mx3_sound {mx : Bool} {a b c : Value} {x y z d : D} {ts : Array Nat} {ty : Nat} {cn : Array Bool} (hx : Rep w pr tk a x) (hy : Rep w pr tk b y) (hz : Rep w pr tk c z) (hr : mx3V mx [x, y, z] = some d) :
    ∃ u, (builtin (if mx then .max else .min) ts ty cn #[a, b, c]).run P w = .ok (.value u) w ∧ Rep w pr tk u d := by
  cases x <;> cases y <;> cases z <;> simp only [mx3V] at hr <;> try (cases hr; done)
  rename_i pv qv rv
  cases pv <;> cases qv <;> cases rv <;> simp only [] at hr <;> try (cases hr; done)
  cases hr
  obtain ⟨rfl, _⟩ := rep_v.1 hx
  obtain ⟨rfl, _⟩ := rep_v.1 hy
  obtain ⟨rfl, _⟩ := rep_v.1 hz
  cases mx
  · exact ⟨_, by simp [builtin, Builtin.min_, Builtin.min2], rep_v.2 ⟨rfl, rfl⟩⟩
  · exact ⟨_, by simp [builtin, Builtin.max_, Builtin.max2], rep_v.2 ⟨rfl, rfl⟩⟩

theorem arr3 {α : Type} {vs : Array α} (h : vs.size = 3) : ∃ v u z, vs = #[v, u, z] := by
  obtain ⟨l⟩ := vs
  match l, h with
  | [v, u, z], _ => exact ⟨v, u, z, rfl⟩
theorem arr1 {α : Type} {vs : Array α} (h : vs.size = 1) : ∃ v, vs = #[v] := by
  obtain ⟨l⟩ := vs
  match l, h with
  | [v], _ => exact ⟨v, rfl⟩
theorem arr2 {α : Type} {vs : Array α} (h : vs.size = 2) : ∃ v u, vs = #[v, u] := by
  obtain ⟨l⟩ := vs
  match l, h with
  | [v, u], _ => exact ⟨v, u, rfl⟩

theorem builtin_sound {Γ : Env} {b : Builtin} {ts : Array Nat} {k : PK} {ty : Nat} {cn : Array Bool} {vs : Array Value} {ds : List D} {d : D} (hd : dBuiltin P b ts.toList vs.size = some k)
    (h : Reps w pr tk vs.toList ds) (hr : k.run Γ m ds = some d) : ∃ u, (builtin b ts ty cn vs).run P w = .ok (.value u) w ∧ Rep w pr tk u d := by
  obtain ⟨ts⟩ := ts
  unfold dBuiltin at hd
  split at hd
  · rename_i t hts hn
    simp only [] at hts
    subst hts
    obtain ⟨v, rfl⟩ := arr1 hn
    clear hn
    obtain ⟨x, rfl, hx⟩ := h.one
    clear h
    split at hd <;> cases hd
    · rename_i e hu
      simp only [PK.run, lenV] at hr
      cases he : x.lenD with
      | none => simp [he] at hr
      | some n =>
        simp only [he, Option.bind_some, Option.some.injEq] at hr
        subst hr
        obtain ⟨a, c, rfl⟩ := len_of_rep hx he
        exact ⟨_, by simp [builtin, Builtin.len_, run_underlying hu, goInt], rep_v.2 ⟨rfl, rfl⟩⟩
    · rename_i hu
      cases x <;> simp only [PK.run, slenV] at hr <;> try (cases hr; done)
      rename_i pv
      cases pv <;> simp only [] at hr <;> try (cases hr; done)
      cases hr
      obtain ⟨rfl, _⟩ := rep_v.1 hx
      exact ⟨_, by simp [builtin, Builtin.len_, run_underlying hu, goInt], rep_v.2 ⟨rfl, rfl⟩⟩
  · rename_i hn
    cases hd
    obtain ⟨v, u, rfl⟩ := arr2 hn
    clear hn
    obtain ⟨x, y, rfl, hx, hy⟩ := h.two
    clear h
    cases x <;> cases y <;> simp only [PK.run, mx2V] at hr <;> try (cases hr; done)
    rename_i pv qv
    cases pv <;> cases qv <;> simp only [] at hr <;> try (cases hr; done)
    cases hr
    obtain ⟨rfl, _⟩ := rep_v.1 hx
    obtain ⟨rfl, _⟩ := rep_v.1 hy
    exact ⟨_, by simp [builtin, Builtin.max_, Builtin.max2], rep_v.2 ⟨rfl, rfl⟩⟩
  · rename_i hn
    cases hd
    obtain ⟨v, u, rfl⟩ := arr2 hn
    clear hn
    obtain ⟨x, y, rfl, hx, hy⟩ := h.two
    clear h
    cases x <;> cases y <;> simp only [PK.run, mx2V] at hr <;> try (cases hr; done)
    rename_i pv qv
    cases pv <;> cases qv <;> simp only [] at hr <;> try (cases hr; done)
    cases hr
    obtain ⟨rfl, _⟩ := rep_v.1 hx
    obtain ⟨rfl, _⟩ := rep_v.1 hy
    exact ⟨_, by simp [builtin, Builtin.min_, Builtin.min2], rep_v.2 ⟨rfl, rfl⟩⟩
  · rename_i hn
    cases hd
    obtain ⟨v, u, z, rfl⟩ := arr3 hn
    clear hn
    obtain ⟨x, y, q, rfl, hx, hy, hq⟩ := h.three
    clear h
    exact mx3_sound (mx := true) hx hy hq hr
  · rename_i hn
    cases hd
    obtain ⟨v, u, z, rfl⟩ := arr3 hn
    clear hn
    obtain ⟨x, y, q, rfl, hx, hy, hq⟩ := h.three
    clear h
    exact mx3_sound (mx := false) hx hy hq hr
  · cases hd

theorem chk_sound {v : Value} {x d : D} (h : Rep w pr tk v x) (hr : chkV [x] = some d) : x = d ∧ ((∃ a, v = .pointer (some a)) ∨ ∃ f cv, v = .func (.func f) #[] cv) := by
  cases x <;> simp only [chkV] at hr <;> try (cases hr; done)
  case lptr xs =>
    cases hr
    cases h
    exact ⟨rfl, .inl ⟨_, rfl⟩⟩
  case clo f cs =>
    cases hr
    cases h
    exact ⟨rfl, .inr ⟨_, _, rfl⟩⟩
  case ptr τ o =>
    cases hr
    cases h
    exact ⟨rfl, .inl ⟨_, rfl⟩⟩
  case rptr τ e i j =>
    cases hr
    cases h
    exact ⟨rfl, .inl ⟨_, rfl⟩⟩

theorem run_part {t : Nat} {g : Bool} (hg : isAggT P t = some g) (hi : (P.info? t).isSome) {cs : Array Value} {off : Nat} (hl : off + P.cellsOf t ≤ cs.size) (h1 : g = true ∨ P.cellsOf t = 1) :
    (part t cs off).run P w = .ok (if g then .agg (cs.extract off (off + P.cellsOf t)) else cs.getD off undef) w := by
  cases g
  · have h1 : P.cellsOf t = 1 := by simpa using h1
    have hlt : off < cs.size := by omega
    simp [part, run_isAgg hg, hlt]
  · simp [part, run_isAgg hg, sizeOf_run hi]

theorem agg_take {cs : Array Value} {xs : List D} (h : RepCs w pr tk cs xs) (off n : Nat) : RepCs w pr tk (cs.extract off (off + n)) ((xs.drop off).take n) := by
  refine ⟨by simp [h.1]; omega, fun i c hc => ?_, fun i c x hc hx => ?_⟩
  · simp only [Array.getElem?_extract] at hc
    split at hc
    · exact h.2.1 _ c hc
    · cases hc
  · simp only [Array.getElem?_extract] at hc
    split at hc
    · rename_i hlt
      rw [List.getElem?_take_of_lt (by omega), List.getElem?_drop] at hx
      exact h.2.2 _ c x hc hx
    · cases hc

theorem aix_sound {Γ : Env} {t : Nat} {k : PK} {v u : Value} {x y d : D} (hd : dAix P t = some k) (hx : Rep w pr tk v x) (hy : Rep w pr tk u y) (hr : k.run Γ m [x, y] = some d) :
    ∃ z, (Instr.index t v u).run P w = .ok z w ∧ Rep w pr tk z d := by
  unfold dAix at hd
  split at hd
  · rename_i n e hu
    obtain ⟨g, hg, hd⟩ := Option.bind_eq_some_iff.1 hd
    split at hd <;> cases hd
    rename_i hc
    cases x <;> cases y <;> simp only [PK.run, aixV] at hr <;> try (cases hr; done)
    rename_i xs yv
    cases yv <;> simp only [] at hr <;> try (cases hr; done)
    rename_i ik q
    obtain ⟨rfl, _⟩ := rep_v.1 hy
    split at hr
    · rename_i hb
      obtain ⟨h0, hn, hl⟩ := hb
      obtain ⟨cs, rfl, hcs⟩ := rep_agg.1 hx
      have hlc : q.toNat * P.cellsOf e + P.cellsOf e ≤ cs.size := by rw [hcs.1]; exact hl
      refine ⟨_, by simp only [Instr.index, asIntOf, Sem.run_bind, Sem.run_pure, Result.andThen_ok, run_underlying hu]; simp only [h0, hn, and_self, if_true, Sem.run_bind, sizeOf_run hc.1, Result.andThen_ok]; exact run_part hg hc.1 hlc hc.2, ?_⟩
      cases g
      · have h1 : P.cellsOf e = 1 := by simpa using hc.2
        have hlt : q.toNat * P.cellsOf e < cs.size := by omega
        simp only [Bool.false_eq_true, if_false] at hr ⊢
        have := hcs.2.2 _ _ d (Array.getElem?_eq_getElem hlt) hr
        have hgd : cs.getD (q.toNat * P.cellsOf e) undef = cs[q.toNat * P.cellsOf e] := by simp [Array.getD, hlt]
        rw [hgd]
        exact this
      · simp only [if_true, Option.some.injEq] at hr ⊢
        subst hr
        exact rep_agg.2 ⟨_, rfl, agg_take hcs _ _⟩
    · cases hr
  · cases hd

theorem kind_at {n : Nat} {t : Nat} {x y : D} {a b : Value} {r : Bool} (hk : kindOf1 P t = some n) (hx : Rep w pr tk a x) (hy : Rep w pr tk b y) (hr : eqCells [n] [x] [y] = some r) (dd : Nat) :
    (Op.equalIn (dd + 1) t a b).run P w = .ok r w := by
  unfold kindOf1 at hk
  unfold eqCells at hr
  split at hr
  · rename_i hh _ _; cases hh
  · rename_i n' ks k u xs k' v ys hh1 hh2 hh3
    cases hh1
    cases hh2
    cases hh3
    split at hr
    · rename_i hc
      obtain ⟨c1, c2⟩ := hc
      simp only [eqCells, Option.map_some, Bool.and_true, Option.some.injEq] at hr
      subst hr
      cases hx
      cases hy
      have inj : ∀ p q : IntKind, kindNo p = kindNo q → p = q := by intro p q; cases p <;> cases q <;> simp [kindNo]
      have hkk : k = k' := inj _ _ (c1.symm.trans c2)
      subst hkk
      have lt8 : ∀ p : IntKind, kindNo p < 8 := by intro p; cases p <;> simp [kindNo]
      split at hk
      · rename_i k0 hu
        exact run_equalIn_int w dd t k k0 u v hu
      · have := lt8 k; simp at hk; omega
      · have := lt8 k; simp at hk; omega
      · cases hk
    · cases hr
  · rename_i ks u xs v ys hh1 hh2 hh3
    cases hh1
    cases hh2
    cases hh3
    simp only [eqCells, Option.map_some, Bool.and_true, Option.some.injEq] at hr
    subst hr
    cases hx
    cases hy
    have lt8 : ∀ p : IntKind, kindNo p < 8 := by intro p; cases p <;> simp [kindNo]
    split at hk
    · rename_i k0 hu
      have := lt8 k0; simp at hk; omega
    · rename_i hu
      exact run_equalIn_bool' w dd t u v hu
    · simp at hk
    · cases hk
  · rename_i ks u xs v ys hh1 hh2 hh3
    cases hh1
    cases hh2
    cases hh3
    simp only [eqCells, Option.map_some, Bool.and_true, Option.some.injEq] at hr
    subst hr
    cases hx
    cases hy
    have lt8 : ∀ p : IntKind, kindNo p < 8 := by intro p; cases p <;> simp [kindNo]
    split at hk
    · rename_i k0 hu
      have := lt8 k0; simp at hk; omega
    · simp at hk
    · rename_i hu
      exact run_equalIn_string w dd t u v hu
    · cases hk
  · cases hr

theorem eqCells_cons {n : Nat} {ks : List Nat} {xs ys : List D} {r : Bool} (h : eqCells (n :: ks) xs ys = some r) : ∃ x xs' y ys' r1 r2, xs = x :: xs' ∧ ys = y :: ys' ∧ eqCells [n] [x] [y] = some r1 ∧ eqCells ks xs' ys' = some r2 ∧ r = (r1 && r2) := by
  unfold eqCells at h
  split at h
  · rename_i h1; cases h1
  · rename_i n' ks' k a xs' k' b ys' hh1
    cases hh1
    split at h
    · rename_i hc
      obtain ⟨r', hr', rfl⟩ := Option.map_eq_some_iff.1 h
      exact ⟨_, _, _, _, a == b, r', rfl, rfl, by unfold eqCells; rw [if_pos hc]; simp [eqCells], hr', rfl⟩
    · cases h
  · rename_i ks' a xs' b ys' hh1
    cases hh1
    obtain ⟨r', hr', rfl⟩ := Option.map_eq_some_iff.1 h
    exact ⟨_, _, _, _, a == b, r', rfl, rfl, by simp [eqCells], hr', rfl⟩
  · rename_i ks' a xs' b ys' hh1
    cases hh1
    obtain ⟨r', hr', rfl⟩ := Option.map_eq_some_iff.1 h
    exact ⟨_, _, _, _, a.toList == b.toList, r', rfl, rfl, by simp [eqCells], hr', rfl⟩
  · cases h

theorem kindOf1_part {t n : Nat} (hk : kindOf1 P t = some n) {xs : Array Value} {off : Nat} {v : Value} (hx : xs[off]? = some v) : (part t xs off).run P w = .ok v w := by
  unfold kindOf1 at hk
  split at hk
  · rename_i hu; simp [part, isAgg, run_underlying hu, hx]
  · rename_i hu; simp [part, isAgg, run_underlying hu, hx]
  · rename_i hu; simp [part, isAgg, run_underlying hu, hx]
  · cases hk

theorem eqFields_sound {A B : Array Value} {xs ys : List D} (hA : RepCs w pr tk A xs) (hB : RepCs w pr tk B ys) (dd : Nat) : ∀ (fs : List Field) (i : Nat) (ks : List Nat) (r : Bool), kindsOfFs P i fs = some ks →
    eqCells ks (xs.drop i) (ys.drop i) = some r → (Op.eqFields (dd + 1) A B fs).run P w = .ok r w
  | [], i, ks, r, hk, hr => by
    simp only [kindsOfFs, Option.some.injEq] at hk
    subst hk
    unfold eqCells at hr
    split at hr <;> first | (cases hr; simp [Op.eqFields]; done) | (rename_i h _ _; cases h; done) | (cases hr; done)
  | f :: fs, i, ks, r, hk, hr => by
    simp only [kindsOfFs] at hk
    split at hk
    · rename_i hc
      obtain ⟨hn, ho⟩ := hc
      obtain ⟨k1, hk1, hk⟩ := Option.bind_eq_some_iff.1 hk
      obtain ⟨ks', hks, rfl⟩ := Option.map_eq_some_iff.1 hk
      obtain ⟨x, xs', y, ys', r1, r2, hx, hy, h1, h2, rfl⟩ := eqCells_cons hr
      have gx : xs[i]? = some x := by rw [← List.head?_drop, hx]; rfl
      have gy : ys[i]? = some y := by rw [← List.head?_drop, hy]; rfl
      have ix : i < A.size := by rw [hA.1]; exact (List.getElem?_eq_some_iff.1 gx).1
      have iy : i < B.size := by rw [hB.1]; exact (List.getElem?_eq_some_iff.1 gy).1
      have ex := Array.getElem?_eq_getElem ix
      have ey := Array.getElem?_eq_getElem iy
      have dx : xs.drop (i + 1) = xs' := by rw [← List.drop_drop, hx]; rfl
      have dy : ys.drop (i + 1) = ys' := by rw [← List.drop_drop, hy]; rfl
      have heq := kind_at hk1 (hA.2.2 i _ x ex gx) (hB.2.2 i _ y ey gy) h1 dd
      have ih := eqFields_sound hA hB dd fs (i + 1) ks' r2 hks (by rw [dx, dy]; exact h2)
      simp only [Op.eqFields, hn, ne_eq, not_false_eq_true, if_true, Sem.run_bind, ho, kindOf1_part hk1 ex, kindOf1_part hk1 ey, heq, Result.andThen_ok]
      cases r1
      · simp
      · simpa using ih
    · cases hk

theorem aeq_sound {Γ : Env} {op : BinOp} {t : Nat} {k : PK} {x y : Operand} {a b : Value} {p q d : D} (hd : dAeq P op t = some k)
    (hp : Rep w pr tk a p) (hq : Rep w pr tk b q) (hrun : k.run Γ m [p, q] = some d) : ∃ v, (do eqGuard op t x y a b; binOp op t a b : Sem Value).run P w = .ok v w ∧ Rep w pr tk v d := by
  unfold dAeq at hd
  split at hd
  · cases hd
  rename_i hguard
  have hguard : P.eqGuardType P.depth t = false := by simpa using hguard
  have key : ∀ neg ks, kindsOf P t = some ks → aeqV neg ks [p, q] = some d → ∃ A B r, a = .agg A ∧ b = .agg B ∧ d = bv (if neg then !r else r) ∧ (Op.equalIn 10000 t (.agg A) (.agg B)).run P w = .ok r w := by
    intro neg ks hk hr
    cases p <;> cases q <;> simp only [aeqV] at hr <;> try (cases hr; done)
    rename_i xs ys
    obtain ⟨r, he, rfl⟩ := Option.map_eq_some_iff.1 hr
    obtain ⟨A, rfl, hA⟩ := rep_agg.1 hp
    obtain ⟨B, rfl, hB⟩ := rep_agg.1 hq
    refine ⟨A, B, r, rfl, rfl, rfl, ?_⟩
    unfold kindsOf at hk
    split at hk
    · rename_i fs hu
      split at hk
      · cases hk
      · rename_i hst
        have hst : P.stoodInHeld t = false := by simpa using hst
        have hf : P.fieldsOf t = fs := by simp [Program.fieldsOf, hu]
        rw [run_equalIn_struct w 9999 t A B (by rw [hf]; exact hu) hst, hf]
        exact eqFields_sound hA hB 9998 fs.toList 0 ks r hk (by simpa using he)
    · cases hk
  split at hd
  · obtain ⟨ks, hks, rfl⟩ := Option.map_eq_some_iff.1 hd
    obtain ⟨A, B, r, rfl, rfl, rfl, he⟩ := key false ks hks hrun
    exact ⟨.bool r, by simp only [Sem.run_bind, run_eqGuard_agg w _ _ _ _ _ _ hguard, Result.andThen_ok, run_eql_struct, he], rep_v.2 ⟨rfl, rfl⟩⟩
  · obtain ⟨ks, hks, rfl⟩ := Option.map_eq_some_iff.1 hd
    obtain ⟨A, B, r, rfl, rfl, rfl, he⟩ := key true ks hks hrun
    exact ⟨.bool (!r), by simp only [Sem.run_bind, run_eqGuard_agg w _ _ _ _ _ _ hguard, Result.andThen_ok, run_neq_struct, he], rep_v.2 ⟨rfl, rfl⟩⟩
  · cases hd

theorem snil_sound {Γ : Env} {op : BinOp} {t : Nat} {k : PK} {x y : Operand} {a b : Value} {p q d : D} (hd : dSnil P op t = some k)
    (hp : Rep w pr tk a p) (hq : Rep w pr tk b q) (hrun : k.run Γ m [p, q] = some d) : ∃ v, (do eqGuard op t x y a b; binOp op t a b : Sem Value).run P w = .ok v w ∧ Rep w pr tk v d := by
  have key : ∀ neg, snilV neg [p, q] = some d → b = .slice none 0 0 ∧ ∃ o n c, a = .slice o n c ∧ d = bv (if neg then !o.isNone else o.isNone) := by
    intro neg hr
    unfold snilV at hr
    split at hr
    · rename_i d0 hh
      simp only [List.cons.injEq, and_true] at hh
      obtain ⟨rfl, rfl⟩ := hh
      cases hq
      refine ⟨rfl, ?_⟩
      split at hr
      · cases hr
        cases hp
        exact ⟨none, 0, 0, rfl, by cases neg <;> rfl⟩
      · cases hr
        cases hp
        exact ⟨_, _, _, rfl, by cases neg <;> rfl⟩
      · cases hr
        cases hp
        exact ⟨_, _, _, rfl, by cases neg <;> rfl⟩
      · cases hr
        cases hp
        exact ⟨_, _, _, rfl, by cases neg <;> rfl⟩
      · cases hr
    · cases hr
  unfold dSnil at hd
  split at hd
  · rename_i e hu
    cases hd
    obtain ⟨rfl, o, n, c, rfl, rfl⟩ := key false hrun
    exact ⟨.bool o.isNone, by simp only [Sem.run_bind]; simp [eqGuard, Lib.run_eql_slice_nil w t e o n c 0 0 hu], rep_v.2 ⟨rfl, rfl⟩⟩
  · rename_i e hu
    cases hd
    obtain ⟨rfl, o, n, c, rfl, rfl⟩ := key true hrun
    exact ⟨.bool (!o.isNone), by simp only [Sem.run_bind]; simp [eqGuard, run_neq_slice_nil_any w t e o n c 0 0 hu], rep_v.2 ⟨rfl, rfl⟩⟩
  · cases hd

theorem mt_list {v : Value} (h : Rep w pr tk v .mt) : Rep w pr tk v (.list []) := by
  cases h
  exact .emp

theorem cut_rep {e b off cap l h k : Nat} {es : List (List D)} (hr : Rep w pr tk (.slice (some ⟨b, off, none⟩) es.length cap) (.list es)) (hsz : ∀ c ∈ es, c.length = P.cellsOf e) (h1 : l ≤ h) (h2 : h ≤ es.length) (h3 : h ≤ k) :
    Rep w pr tk (.slice (some (if k = l then ⟨b, off, none⟩ else (⟨b, off, none⟩ : Addr).add (l * P.cellsOf e))) (h - l) (k - l)) (.list ((es.drop l).take (h - l))) := by
  have hlen : ((es.drop l).take (h - l)).length = h - l := by simp; omega
  generalize hq : Value.slice (some ⟨b, off, none⟩) es.length cap = q at hr
  cases hr with
  | nil' => simp at hq
  | emp =>
    have e1 : h = 0 := by simpa using h2
    have e2 : l = 0 := by omega
    subst e1
    subst e2
    exact .emp
  | list us hes hcap hcell hrr =>
    rename_i b' off2 cap' size
    simp only [Value.slice.injEq, Option.some.injEq, Addr.mk.injEq, and_true, true_and] at hq
    obtain ⟨⟨rfl, rfl⟩, rfl⟩ := hq
    have key : ∀ (off' : Nat), (l < h → off' = off + l * size) → Rep w pr tk (.slice (some ⟨b, off', none⟩) (h - l) (k - l)) (.list ((es.drop l).take (h - l))) := by
      intro off' ho
      have := Rep.list (w := w) (pr := pr) (tk := tk) (b := b) (off := off') (cap := k - l) (es := (es.drop l).take (h - l)) (size := size) (fun j => us (l * size + j)) (fun c hc => hes c (List.mem_of_mem_drop (List.mem_of_mem_take hc))) (by rw [hlen]; omega) (fun j hj => ?_) (fun i c hc j d hd => ?_)
      · rw [hlen] at this; exact this
      · rw [hlen] at hj
        have hpos : l < h := by
          rcases Nat.lt_or_ge l h with h0 | h0
          · exact h0
          · have : h - l = 0 := by omega
            rw [this] at hj; simp at hj
        rw [ho hpos, Nat.add_assoc]
        refine hcell _ ?_
        have e1 : (h - l) * size + l * size ≤ es.length * size := by rw [← Nat.add_mul]; exact Nat.mul_le_mul_right _ (by omega)
        omega
      · have hi : i < h - l := by have := (List.getElem?_eq_some_iff.1 hc).1; omega
        rw [List.getElem?_take_of_lt hi, List.getElem?_drop] at hc
        have := hrr (l + i) c hc j d hd
        rw [Nat.add_mul] at this
        rw [← Nat.add_assoc]; exact this
    have hsize : l < h → size = P.cellsOf e := fun hlt => by
      have hm : es[l]'(by omega) ∈ es := List.getElem_mem _
      rw [← hes _ hm, hsz _ hm]
    split
    · exact key off (fun hlt => by omega)
    · rw [add_off]
      exact key _ (fun hlt => by rw [hsize hlt])

def IntVals : List Value → List Int → Prop
  | [], [] => True
  | v :: vs, n :: ns => (∃ k, v = .int k n) ∧ IntVals vs ns
  | _, _ => False
theorem IntVals.nil_eq {l : List Int} (h : IntVals [] l) : l = [] := by cases l with | nil => rfl | cons => exact absurd h (by simp [IntVals])
theorem IntVals.cons_eq {v : Value} {vs : List Value} {l : List Int} (h : IntVals (v :: vs) l) : ∃ k n r, v = .int k n ∧ l = n :: r ∧ IntVals vs r := by
  cases l with
  | nil => exact absurd h (by simp [IntVals])
  | cons n r => obtain ⟨⟨k, hk⟩, h2⟩ := h; exact ⟨k, n, r, hk, rfl, h2⟩
theorem intVals_of : ∀ {vs : List Value} {ds : List D} {l : List Int}, Reps w pr tk vs ds → intsV ds = some l → IntVals vs l
  | [], [], l, _, h => by simp only [intsV, Option.some.injEq] at h; subst h; trivial
  | v :: vs, d :: ds, l, hr, h => by
    unfold intsV at h
    split at h
    · rename_i hh; cases hh
    · rename_i k n r hh
      cases hh
      obtain ⟨l', h1, rfl⟩ := Option.map_eq_some_iff.1 h
      exact ⟨⟨_, (rep_v.1 hr.1).1⟩, intVals_of hr.2 h1⟩
    · cases h
  | [], _ :: _, _, h, _ => absurd h (by simp [Reps])
  | _ :: _, [], _, h, _ => absurd h (by simp [Reps])

/-- A cut, run. -/
theorem run_slc {t e : Nat} {x : Operand} {lo hi mx : Option Operand} {ρ : Operand → Value} {a : Option Addr} {n cap : Nat} {is : List Int} {l h : Int} {mo : Option Int} (hu : P.underlying t = some (.slice e)) (hi' : (P.info? e).isSome) (hx : ρ x = .slice a n cap)
    (hI : IntVals ((lo.toList ++ hi.toList ++ mx.toList).map ρ) is) (hb : boundsV n lo.isSome hi.isSome mx.isSome is = some (l, h, mo)) (h0 : 0 ≤ l) (h1 : l ≤ h) (h2 : h ≤ cap) (hcap : n ≤ cap) (hm : ∀ c, mo = some c → h ≤ c ∧ c ≤ n) :
    (Instr.sliceAt t (ρ x) (lo.map ρ) (hi.map ρ) (mx.map ρ)).run P w = .ok (.slice (if (mo.map Int.toNat).getD cap = l.toNat then a else a.map (·.add (l.toNat * P.cellsOf e))) (h.toNat - l.toNat) ((mo.map Int.toNat).getD cap - l.toNat)) w := by
  have bound : ∀ (k : IntKind) (i : Int) (y : Nat) (code : BoundsCode), 0 ≤ i → i ≤ y → (Instr.sliceBound (.int k i) y code).run P w = .ok i.toNat w := fun k i y code h0 h1 => run_sliceBound w k i y code h0 h1
  cases lo <;> cases hi <;> cases mx <;> simp only [boundsV, Option.isSome_none, Option.isSome_some, Option.toList, List.map_nil, List.map_cons, List.nil_append, List.cons_append, List.append_nil] at hb hI
  case none.none.none =>
    obtain rfl := hI.nil_eq
    cases hb
    simp [Instr.sliceAt, Instr.slice, run_underlying hu, Instr.sliceBounds, sizeOf_run hi', hx]
  case some.none.none lo =>
    obtain ⟨kk, a1, _, e1, rfl, hI1⟩ := hI.cons_eq
    obtain rfl := hI1.nil_eq
    cases hb
    simp [Instr.sliceAt, Instr.slice, run_underlying hu, Instr.sliceBounds, e1, bound kk l n .sliceB h0 h1, sizeOf_run hi', hx]
  case none.some.none hi =>
    obtain ⟨kk, a1, _, e1, rfl, hI1⟩ := hI.cons_eq
    obtain rfl := hI1.nil_eq
    cases hb
    simp [Instr.sliceAt, Instr.slice, run_underlying hu, Instr.sliceBounds, e1, bound kk h cap .sliceAcap h1 (by omega), sizeOf_run hi', hx]
  case some.some.none lo hi =>
    obtain ⟨kk, a1, _, e1, rfl, hI1⟩ := hI.cons_eq
    obtain ⟨kk', b1, _, e2, rfl, hI2⟩ := hI1.cons_eq
    obtain rfl := hI2.nil_eq
    cases hb
    simp [Instr.sliceAt, Instr.slice, run_underlying hu, Instr.sliceBounds, e1, e2, bound kk' h cap .sliceAcap (by omega) (by omega), bound kk l h.toNat .sliceB h0 (by omega), sizeOf_run hi', hx]
  case none.some.some hi mx =>
    obtain ⟨kk, a1, _, e1, rfl, hI1⟩ := hI.cons_eq
    obtain ⟨kk', b1, _, e2, rfl, hI2⟩ := hI1.cons_eq
    obtain rfl := hI2.nil_eq
    cases hb
    obtain ⟨g1, g2⟩ := hm _ rfl
    simp [Instr.sliceAt, Instr.slice, run_underlying hu, Instr.sliceBounds, e1, e2, bound kk' b1 cap .slice3Acap (by omega) (by omega), bound kk h b1.toNat .slice3B (by omega) (by omega), sizeOf_run hi', hx]
  case some.some.some lo hi mx =>
    obtain ⟨k1, a1, _, e1, rfl, hI1⟩ := hI.cons_eq
    obtain ⟨k2, b1, _, e2, rfl, hI2⟩ := hI1.cons_eq
    obtain ⟨k3, c1, _, e3, rfl, hI3⟩ := hI2.cons_eq
    obtain rfl := hI3.nil_eq
    cases hb
    obtain ⟨g1, g2⟩ := hm _ rfl
    simp [Instr.sliceAt, Instr.slice, run_underlying hu, Instr.sliceBounds, e1, e2, e3, bound k3 c1 cap .slice3Acap (by omega) (by omega), bound k2 h c1.toNat .slice3B (by omega) (by omega),
      bound k1 l h.toNat .slice3C h0 (by omega), sizeOf_run hi', hx]
  all_goals cases hb

/-- A cut of a variable that is an array, run. -/
theorem run_sla {t e n : Nat} {x : Operand} {lo hi : Option Operand} {ρ : Operand → Value} {a : Addr} {is : List Int} {l h : Int} {mo : Option Int} (hu : P.underlying t = some (.array n e)) (hi' : (P.info? e).isSome) (hx : ρ x = .pointer (some a))
    (hI : IntVals ((lo.toList ++ hi.toList).map ρ) is) (hb : boundsV n lo.isSome hi.isSome false is = some (l, h, mo)) (h0 : 0 ≤ l) (h1 : l ≤ h) (h2 : h ≤ n) :
    (Instr.sliceAt t (ρ x) (lo.map ρ) (hi.map ρ) none).run P w = .ok (.slice (some (if n = l.toNat then a else a.add (l.toNat * P.cellsOf e))) (h.toNat - l.toNat) (n - l.toNat)) w := by
  have bound : ∀ (k : IntKind) (i : Int) (y : Nat) (code : BoundsCode), 0 ≤ i → i ≤ y → (Instr.sliceBound (.int k i) y code).run P w = .ok i.toNat w := fun k i y code h0 h1 => run_sliceBound w k i y code h0 h1
  cases lo <;> cases hi <;> simp only [boundsV, Option.isSome_none, Option.isSome_some, Option.toList, List.map_nil, List.map_cons, List.nil_append, List.cons_append, List.append_nil] at hb hI
  case none.none =>
    obtain rfl := hI.nil_eq
    cases hb
    simp [Instr.sliceAt, run_underlying hu, Instr.sliceBounds, sizeOf_run hi', hx, Instr.sureAddr]
  case some.none lo =>
    obtain ⟨kk, a1, _, e1, rfl, hI1⟩ := hI.cons_eq
    obtain rfl := hI1.nil_eq
    cases hb
    simp [Instr.sliceAt, run_underlying hu, Instr.sliceBounds, e1, bound kk l n .sliceB h0 h1, sizeOf_run hi', hx, Instr.sureAddr]
  case none.some hi =>
    obtain ⟨kk, a1, _, e1, rfl, hI1⟩ := hI.cons_eq
    obtain rfl := hI1.nil_eq
    cases hb
    simp [Instr.sliceAt, run_underlying hu, Instr.sliceBounds, e1, bound kk h n .sliceAlen h1 (by omega), sizeOf_run hi', hx, Instr.sureAddr]
  case some.some lo hi =>
    obtain ⟨kk, a1, _, e1, rfl, hI1⟩ := hI.cons_eq
    obtain ⟨kk', b1, _, e2, rfl, hI2⟩ := hI1.cons_eq
    obtain rfl := hI2.nil_eq
    cases hb
    simp [Instr.sliceAt, run_underlying hu, Instr.sliceBounds, e1, e2, bound kk' h n .sliceAlen (by omega) (by omega), bound kk l h.toNat .sliceB h0 (by omega), sizeOf_run hi', hx, Instr.sureAddr]

theorem slc_sound (M : MemOK P w pr tk m) {t : Nat} {x : Operand} {lo hi mx : Option Operand} {k : PK} {xs : List Operand} {ρ : Operand → Value} {ds : List D} {d : D} {Γ : Env} (hd : dSlc P t x lo hi mx = some (k, xs))
    (hrep : Reps w pr tk (xs.map ρ) ds) (hr : k.run Γ m ds = some d) : ∃ z, (Instr.sliceAt t (ρ x) (lo.map ρ) (hi.map ρ) (mx.map ρ)).run P w = .ok z w ∧ Rep w pr tk z d := by
  unfold dSlc at hd
  split at hd
  · rename_i n e hu
    split at hd <;> cases hd
    rename_i hcnd
    obtain ⟨hi', hone, hmx⟩ := hcnd
    have hmx : mx = none := by cases mx <;> simp_all
    subst hmx
    cases ds with
    | nil => exact absurd hrep (by simp [Reps])
    | cons dx r =>
      simp only [List.map_cons] at hrep
      obtain ⟨hx, hrest⟩ := hrep
      simp only [PK.run] at hr
      unfold slaV at hr
      split at hr
      · rename_i τ off r' hh
        cases hh
        rw [Option.bind_eq_some_iff] at hr
        obtain ⟨is, his, hr⟩ := hr
        rw [Option.bind_eq_some_iff] at hr
        obtain ⟨⟨l, h, mo⟩, hb, hr⟩ := hr
        have hI := intVals_of hrest his
        split at hr <;> cases hr
        rename_i hc
        obtain ⟨h0, h1, h2⟩ := hc
        simp only [] at h0 h1 h2
        generalize hq : ρ x = q at hx
        cases hx with
        | ptr ht =>
          rename_i b cap
          refine ⟨_, by rw [← hq]; exact run_sla hu hi' hq hI hb h0 h1 h2, ?_⟩
          simp only [add_off, hone, Nat.mul_one]
          have : (if n = l.toNat then some (⟨b, off, none⟩ : Addr) else some ⟨b, off + l.toNat, none⟩) = some ⟨b, if n = l.toNat then off else off + l.toNat, none⟩ := by split <;> rfl
          rw [show (some (if n = l.toNat then (⟨b, off, none⟩ : Addr) else ⟨b, off + l.toNat, none⟩)) = some ⟨b, if n = l.toNat then off else off + l.toNat, none⟩ by split <;> rfl]
          refine .sl ht (by simp) (by omega) ?_
          by_cases hcl : n = l.toNat
          · rw [if_pos hcl]
            by_cases hl0 : l.toNat = 0
            · left; rw [hl0]; omega
            · right; omega
          · left; rw [if_neg hcl]; omega
      · cases hr
  · rename_i e hu
    split at hd <;> cases hd
    rename_i hi'
    cases ds with
    | nil => exact absurd hrep (by simp [Reps])
    | cons dx r =>
      simp only [List.map_cons] at hrep
      obtain ⟨hx, hrest⟩ := hrep
      simp only [PK.run] at hr
      unfold slcV at hr
      split at hr
      · rename_i τ size' off len lim r' hh
        cases hh
        rw [Option.bind_eq_some_iff] at hr
        obtain ⟨is, his, hr⟩ := hr
        rw [Option.bind_eq_some_iff] at hr
        obtain ⟨⟨l, h, mo⟩, hb, hr⟩ := hr
        have hI := intVals_of hrest his
        split at hr
        · rename_i hc
          obtain ⟨h0, h1, h2, rfl⟩ := hc
          generalize hq : ρ x = q at hx
          cases hx with
          | sl ht hcc hl ho =>
            rename_i b cap c o
            simp only [] at hr h0 h1 h2
            have h2c : h ≤ c ∧ (off * P.cellsOf e = o ∨ (c = 0 ∧ 0 < off)) := by
              refine ⟨?_, ho.imp Eq.symm id⟩
              rcases h2 with h2 | h2
              · omega
              · unfold roomV at h2
                split at h2
                · rename_i g e' es hm
                  obtain ⟨b2, cap2, C, k1, k3, k5, _⟩ := M.obj _ _ hm
                  rw [ht] at k1; cases k1
                  have h2 : (off : Int) + h ≤ es.length := by simpa using h2
                  simp only [Option.getD_none] at hcc
                  omega
                · cases h2
            split at hr
            · cases hr
              refine ⟨_, by rw [← hq]; exact run_slc hu hi' hq hI hb h0 h1 h2c.1 hl (by simp), ?_⟩
              simp only [Option.map_none, Option.getD_none, Option.map_some, add_off]
              have : (if c = l.toNat then some (⟨b, o, none⟩ : Addr) else some ⟨b, o + l.toNat * P.cellsOf e, none⟩) = some ⟨b, if c = l.toNat then o else o + l.toNat * P.cellsOf e, none⟩ := by split <;> rfl
              rw [this]
              refine .sl ht ?_ (by omega) ?_
              · cases lim <;> simp at hcc ⊢ <;> omega
              · rcases ho with ho | ho
                · by_cases hcl : c = l.toNat
                  · by_cases hl0 : l.toNat = 0
                    · left; rw [if_pos hcl, ho, hl0, Nat.add_zero]
                    · exact .inr (by omega)
                  · left; rw [if_neg hcl, ho, Nat.add_mul]
                · exact .inr (by omega)
            · rename_i c'
              split at hr <;> cases hr
              rename_i hc'
              refine ⟨_, by rw [← hq]; exact run_slc hu hi' hq hI hb h0 h1 h2c.1 hl (by intro q hq; cases hq; exact hc'), ?_⟩
              simp only [Option.map_some, Option.getD_some, add_off]
              have : (if c'.toNat = l.toNat then some (⟨b, o, none⟩ : Addr) else some ⟨b, o + l.toNat * P.cellsOf e, none⟩) = some ⟨b, if c'.toNat = l.toNat then o else o + l.toNat * P.cellsOf e, none⟩ := by split <;> rfl
              rw [this]
              refine .sl ht (by simp) (by omega) ?_
              rcases ho with ho | ho
              · by_cases hcl : c'.toNat = l.toNat
                · by_cases hl0 : l.toNat = 0
                  · left; rw [if_pos hcl, ho, hl0, Nat.add_zero]
                  · exact .inr (by omega)
                · left; rw [if_neg hcl, ho, Nat.add_mul]
              · exact .inr (by omega)
        · cases hr
      · rename_i d0 r' hns hh
        cases hh
        rw [Option.bind_eq_some_iff] at hr
        obtain ⟨es, hes, hr⟩ := hr
        split at hr
        · cases hr
        rename_i hall
        have hsz : ∀ c ∈ es, c.length = P.cellsOf e := fun c hc => by
          have hall : es.all (fun c => c.length == P.cellsOf e) = true := by simpa only [Bool.not_eq_false] using hall
          simpa using List.all_eq_true.1 hall c hc
        rw [Option.bind_eq_some_iff] at hr
        obtain ⟨is, his, hr⟩ := hr
        rw [Option.bind_eq_some_iff] at hr
        obtain ⟨⟨l, h, mo⟩, hb, hr⟩ := hr
        have hI := intVals_of hrest his
        have hcut : (0 ≤ l ∧ l ≤ h ∧ h ≤ es.length ∧ d = .list ((es.drop l.toNat).take (h.toNat - l.toNat))) ∧ ∀ c, mo = some c → h ≤ c ∧ c ≤ es.length := by
          have cut : cutV es l h = some d → 0 ≤ l ∧ l ≤ h ∧ h ≤ es.length ∧ d = .list ((es.drop l.toNat).take (h.toNat - l.toNat)) := by
            intro hc
            unfold cutV at hc
            split at hc
            · rename_i hcc
              exact ⟨hcc.1, hcc.2.1, hcc.2.2, (Option.some.inj hc).symm⟩
            · cases hc
          simp only [] at hr
          split at hr
          · exact ⟨cut hr, by simp⟩
          · split at hr
            · rename_i hcc
              exact ⟨cut hr, by intro q hq; cases hq; exact hcc⟩
            · cases hr
        obtain ⟨⟨h0, h1, h2, hde⟩, hm⟩ := hcut
        generalize hq : ρ x = q at hx
        have hv : ((q = .slice none 0 0 ∧ es = []) ∨ ∃ a cap, q = .slice (some a) 0 cap ∧ es = []) ∨ ∃ b off cap, q = .slice (some ⟨b, off, none⟩) es.length cap ∧ es.length ≤ cap ∧ Rep w pr tk (.slice (some ⟨b, off, none⟩) es.length cap) (.list es) := by
          have fin : Rep w pr tk q (.list es) → ((q = .slice none 0 0 ∧ es = []) ∨ ∃ a cap, q = .slice (some a) 0 cap ∧ es = []) ∨ ∃ b off cap, q = .slice (some ⟨b, off, none⟩) es.length cap ∧ es.length ≤ cap ∧ Rep w pr tk (.slice (some ⟨b, off, none⟩) es.length cap) (.list es) := by
            intro h
            cases h with
            | nil' => exact .inl (.inl ⟨rfl, rfl⟩)
            | emp => exact .inl (.inr ⟨_, _, rfl, rfl⟩)
            | list us a b c dd => exact .inr ⟨_, _, _, rfl, b, .list us a b c dd⟩
          split at hes <;> cases hes
          · exact fin hx
          · exact fin (mt_list hx)
          · cases hx; exact .inl (.inl ⟨rfl, rfl⟩)
        rcases hv with (⟨rfl, rfl⟩ | ⟨a, cap, rfl, rfl⟩) | ⟨b, off, cap, rfl, hcap, hrep⟩
        · refine ⟨_, by rw [← hq]; exact run_slc hu hi' hq hI hb h0 h1 h2 (Nat.le_refl _) hm, ?_⟩
          simp only [List.length_nil] at h2
          have e1 : h.toNat = 0 := by omega
          have e2 : l.toNat = 0 := by omega
          have e3 : (mo.map Int.toNat).getD 0 = 0 := by
            cases mo with
            | none => rfl
            | some c => have := hm c rfl; simp at this ⊢; omega
          rw [hde, e1, e2, e3]
          exact .nil'
        · simp only [List.length_nil] at h2
          have e1 : h.toNat = 0 := by omega
          have e2 : l.toNat = 0 := by omega
          refine ⟨_, by rw [← hq]; exact run_slc hu hi' hq hI hb h0 h1 (by omega) (Nat.zero_le _) hm, ?_⟩
          rw [hde, e1, e2]
          split <;> exact .emp
        · refine ⟨_, by rw [← hq]; exact run_slc hu hi' hq hI hb h0 h1 (by omega) hcap hm, ?_⟩
          have hhm : h.toNat ≤ (mo.map Int.toNat).getD cap := by
            cases mo with
            | none => simp; omega
            | some c => have := hm c rfl; simp; omega
          have := cut_rep (P := P) (e := e) (l := l.toNat) (h := h.toNat) (k := (mo.map Int.toNat).getD cap) hrep hsz (by omega) (by omega) hhm
          rw [hde]
          split
          · rename_i hml; rw [if_pos hml] at this; exact this
          · rename_i hml; rw [if_neg hml] at this; exact this
      · cases hr
  · cases hd

def PK.simple : PK → Bool
  | .call _ | .ccall => false
  | _ => true

theorem or3 {α : Type} {a b c : Option α} {k : α} (h : (a.or b).or c = some k) : a = some k ∨ b = some k ∨ c = some k := by
  cases a <;> cases b <;> simp_all

theorem reps_get : ∀ {vs : List Value} {ds : List D}, Reps w pr tk vs ds → ∀ (i : Nat) (c : Value) (x : D), vs[i]? = some c → ds[i]? = some x → Rep w pr tk c x
  | [], [], _, i, c, x, h, _ => by simp at h
  | v :: vs, d :: ds, h, 0, c, x, hc, hx => by simp at hc hx; subst hc; subst hx; exact h.1
  | v :: vs, d :: ds, h, i + 1, c, x, hc, hx => reps_get h.2 i c x (by simpa using hc) (by simpa using hx)
  | [], _ :: _, h, _, _, _, _, _ => absurd h (by simp [Reps])
  | _ :: _, [], h, _, _, _, _, _ => absurd h (by simp [Reps])

theorem afld_sound {Γ : Env} {t f : Nat} {q : Nat × Nat × Bool} {v : Value} {x d : D} (hf : fieldOff P t f = some q) (hc : q.2.2 = true ∨ q.2.1 = 1) (h : Rep w pr tk v x) (hr : (PK.afld q.1 q.2.1 q.2.2).run Γ m [x] = some d) :
    ∃ u, (Instr.field t v f).run P w = .ok u w ∧ Rep w pr tk u d := by
  unfold fieldOff at hf
  cases hu : P.underlying t with
  | none => simp [hu] at hf
  | some ds =>
    cases ds <;> simp only [hu] at hf <;> try (cases hf; done)
    rename_i fs
    rw [Option.bind_eq_some_iff] at hf
    obtain ⟨fl, hfl, hf⟩ := hf
    rw [Option.bind_eq_some_iff] at hf
    obtain ⟨g, hg, hf⟩ := hf
    split at hf <;> cases hf
    rename_i hsz
    have hinfo : (P.info? fl.type).isSome := by
      cases hi : P.info? fl.type with
      | none => simp [Program.cellsOf, hi] at hsz
      | some i => rfl
    cases x <;> simp only [PK.run, afldV] at hr <;> try (cases hr; done)
    rename_i xs
    split at hr
    · rename_i hl
      obtain ⟨cs, rfl, hcs⟩ := rep_agg.1 h
      have hlc : fl.offset + P.cellsOf fl.type ≤ cs.size := by rw [hcs.1]; exact hl
      refine ⟨_, by simp [Instr.field, run_underlying hu, hfl]; exact run_part hg hinfo hlc hc, ?_⟩
      cases g
      · have h1 : P.cellsOf fl.type = 1 := by simpa using hc
        have hlt : fl.offset < cs.size := by omega
        simp only [Bool.false_eq_true, if_false] at hr ⊢
        have := hcs.2.2 _ _ d (Array.getElem?_eq_getElem hlt) hr
        have hgd : cs.getD fl.offset undef = cs[fl.offset] := by simp [Array.getD, hlt]
        rw [hgd]
        exact this
      · simp only [if_true, Option.some.injEq] at hr ⊢
        subst hr
        exact rep_agg.2 ⟨_, rfl, agg_take hcs _ _⟩
    · cases hr

theorem zeroD_sound {t : Nat} {z : D} (h : dZeroD P t = some z) : ∃ v, (zeroValue t).run P w = .ok v w ∧ Rep w pr tk v z := by
  unfold dZeroD at h
  rw [Option.bind_eq_some_iff] at h
  obtain ⟨v, hv, h⟩ := h
  rw [Option.bind_eq_some_iff] at hv
  obtain ⟨i, hi, hzi⟩ := hv
  refine ⟨v, by simp [zeroValue, typeInfo, hi, hzi], ?_⟩
  split at h
  · rename_i cs
    obtain ⟨xs, hxs, rfl⟩ := Option.map_eq_some_iff.1 h
    exact rep_agg.2 ⟨cs, rfl, by have := zero_cells (w := w) (pr := pr) (tk := tk) hxs; simpa using this⟩
  · exact (dVal_repV h).1

theorem eqKey_one {n : Nat} {x y : D} {r : Bool} (h : eqKey [n] x y = some r) : eqCells [n] [x] [y] = some r ∨ (n = 99 ∧ ∃ xs ys, x = .agg xs ∧ y = .agg ys ∧ eqCells [] xs ys = some r) := by
  by_cases hn : n = 99
  · subst hn
    cases x <;> cases y <;> first | exact .inr ⟨rfl, _, _, rfl, rfl, h⟩ | exact .inl (by simpa only [eqKey] using h)
  · left
    unfold eqKey at h
    split at h
    · rename_i h1
      simp only [List.cons.injEq] at h1
      exact absurd h1.1 hn
    · rename_i hh _
      cases hh
      exact h
    · cases h

theorem kindOf1_lt {k n : Nat} (hk : kindOf1 P k = some n) : n ≠ 99 := fun e => by
  subst e
  unfold kindOf1 at hk
  have lt8 : ∀ p : IntKind, kindNo p < 8 := by intro p; cases p <;> simp [kindNo]
  split at hk
  · rename_i k0 _; have := lt8 k0; simp at hk; omega
  · simp at hk
  · simp at hk
  · cases hk

/-- One key and another one. -/
theorem sameNow_sound {k n : Nat} {kd : TypeDesc} (hu : P.underlying k = some kd) (hk : kindOf1 P k = some n) {a b : Value} {x y : D} {r : Bool} (hx : Rep w pr tk a x) (hy : Rep w pr tk b y) (hr : eqKey [n] x y = some r) : Instr.sameNow kd a b = some r := by
  unfold kindOf1 at hk
  have hn : n ≠ 99 := fun e => by
    subst e
    have lt8 : ∀ p : IntKind, kindNo p < 8 := by intro p; cases p <;> simp [kindNo]
    split at hk
    · rename_i k0 _; have := lt8 k0; simp at hk; omega
    · simp at hk
    · simp at hk
    · cases hk
  rcases eqKey_one hr with hr | ⟨h99, _⟩
  · unfold eqCells at hr
    have inj : ∀ p q : IntKind, kindNo p = kindNo q → p = q := by intro p q; cases p <;> cases q <;> simp [kindNo]
    have lt8 : ∀ p : IntKind, kindNo p < 8 := by intro p; cases p <;> simp [kindNo]
    split at hr
    · rename_i hh _ _; cases hh
    · rename_i n' ks q u xs q' v ys hh1 hh2 hh3
      cases hh1
      cases hh2
      cases hh3
      split at hr
      · rename_i hc
        obtain ⟨c1, c2⟩ := hc
        simp only [eqCells, Option.map_some, Bool.and_true, Option.some.injEq] at hr
        subst hr
        cases hx
        cases hy
        have hkk : q = q' := inj _ _ (c1.symm.trans c2)
        subst hkk
        rw [hu] at hk
        split at hk
        · rename_i k0 e
          cases e
          simp [Instr.sameNow]
        · have := lt8 q; simp at hk; omega
        · have := lt8 q; simp at hk; omega
        · cases hk
      · cases hr
    · rename_i ks u xs v ys hh1 hh2 hh3
      cases hh1
      cases hh2
      cases hh3
      simp only [eqCells, Option.map_some, Bool.and_true, Option.some.injEq] at hr
      subst hr
      cases hx
      cases hy
      rw [hu] at hk
      split at hk
      · rename_i k0 _; have := lt8 k0; simp at hk; omega
      · rename_i e; cases e; simp [Instr.sameNow]
      · simp at hk
      · cases hk
    · rename_i ks u xs v ys hh1 hh2 hh3
      cases hh1
      cases hh2
      cases hh3
      simp only [eqCells, Option.map_some, Bool.and_true, Option.some.injEq] at hr
      subst hr
      cases hx
      cases hy
      rw [hu] at hk
      split at hk
      · rename_i k0 _; have := lt8 k0; simp at hk; omega
      · simp at hk
      · rename_i e; cases e; simp [Instr.sameNow, beq_toListBytes]
      · cases hk
    · cases hr
  · exact absurd h99 hn

theorem sameKey_eq {n : Nat} (hn : n ≠ 99) {a b : Value} {x y : D} (hx : Rep w pr tk a x) (hy : Rep w pr tk b y) (hr : eqKey [n] x y = some true) : a = b ∧ ∀ i, Instr.sameBits i a a = true := by
  have hr' := eqKey_one hr
  clear hr
  rcases hr' with hr | ⟨h99, _⟩
  · unfold eqCells at hr
    split at hr
    · rename_i hh _ _; cases hh
    · rename_i n' ks q u xs q' v ys hh1 hh2 hh3
      cases hh1
      cases hh2
      cases hh3
      split at hr
      · rename_i hc
        obtain ⟨c1, c2⟩ := hc
        have inj : ∀ p q : IntKind, kindNo p = kindNo q → p = q := by intro p q; cases p <;> cases q <;> simp [kindNo]
        have hkk : q = q' := inj _ _ (c1.symm.trans c2)
        subst hkk
        simp only [eqCells, Option.map_some, Bool.and_true, Option.some.injEq, beq_iff_eq] at hr
        subst hr
        cases hx
        cases hy
        exact ⟨rfl, fun i => by cases i <;> simp [Instr.sameBits]⟩
      · cases hr
    · rename_i ks u xs v ys hh1 hh2 hh3
      cases hh1
      cases hh2
      cases hh3
      simp only [eqCells, Option.map_some, Bool.and_true, Option.some.injEq, beq_iff_eq] at hr
      subst hr
      cases hx
      cases hy
      exact ⟨rfl, fun i => by cases i <;> simp [Instr.sameBits]⟩
    · rename_i ks u xs v ys hh1 hh2 hh3
      cases hh1
      cases hh2
      cases hh3
      simp only [eqCells, Option.map_some, Bool.and_true, Option.some.injEq] at hr
      rw [← beq_toListBytes, MapKept.bytes_beq] at hr
      subst hr
      cases hx
      cases hy
      exact ⟨rfl, fun i => by cases i <;> simp [Instr.sameBits, MapKept.bytes_beq]⟩
    · cases hr
  · exact absurd h99 hn

/-- Where a key is found. -/
theorem findNow_sound {k n : Nat} {kd : TypeDesc} (hu : P.underlying k = some kd) (hk : kindOf1 P k = some n) {a : Value} {x : D} (hx : Rep w pr tk a x) : ∀ (l : List MapEntry) (es : List (D × D)) (i : Nat) (r : Option Nat), l.length = es.length →
    (∀ (j : Nat) (en : MapEntry) (p : D × D), l[j]? = some en → es[j]? = some p → Rep w pr tk en.key p.1) → findV [n] x es i = some r →
    match r with
    | none => Instr.findNow kd a l i = some none
    | some q => i ≤ q ∧ ∃ en, l[q - i]? = some en ∧ Instr.findNow kd a l i = some (some (q, en.val)) ∧ a = en.key ∧ ∀ z, Instr.sameBits z a a = true
  | [], [], i, r, _, _, h => by
    simp only [findV, Option.some.injEq] at h
    subst h
    rfl
  | en :: l, p :: es, i, r, hl, hrep, h => by
    simp only [findV] at h
    rw [Option.bind_eq_some_iff] at h
    obtain ⟨b, hb, h⟩ := h
    have h0 := hrep 0 en p (by simp) (by simp)
    have hs := sameNow_sound hu hk hx h0 hb
    cases b
    · simp only [Bool.false_eq_true, if_false] at h
      have ih := findNow_sound hu hk hx l es (i + 1) r (by simpa using hl) (fun j en p he hp => hrep (j + 1) en p (by simpa using he) (by simpa using hp)) h
      cases r with
      | none => simpa [Instr.findNow, hs] using ih
      | some q =>
        obtain ⟨g1, en', g2, g3, g4⟩ := ih
        refine ⟨by omega, en', ?_, by simpa [Instr.findNow, hs] using g3, g4⟩
        rw [show q - i = (q - (i + 1)) + 1 by omega]
        simpa using g2
    · simp only [if_true, Option.some.injEq] at h
      subst h
      exact ⟨Nat.le_refl _, en, by simp, by simp [Instr.findNow, hs], sameKey_eq (kindOf1_lt hk) hx h0 hb⟩
  | [], _ :: _, _, _, h, _, _ => by simp at h
  | _ :: _, [], _, _, h, _, _ => by simp at h

theorem dKey_spec {t e : Nat} {ks : List Nat} (h : dKey P t = some (ks, e)) : ∃ k n kd, P.underlying t = some (.map k e) ∧ kindOf1 P k = some n ∧ ks = [n] ∧ P.underlying k = some kd ∧ ∀ (w : World) (em : Bool) (i : Nat) (v : Value), (Instr.checkKey em (i + 1) k v).run P w = .ok () w := by
  unfold dKey at h
  split at h
  · rename_i k e' hu
    obtain ⟨n, hn, h⟩ := Option.map_eq_some_iff.1 h
    cases h
    have hn' := hn
    unfold kindOf1 at hn'
    split at hn'
    · rename_i q hq
      exact ⟨k, n, _, hu, hn, rfl, hq, fun w em i v => by unfold Instr.checkKey; simp [run_underlying hq]⟩
    · rename_i hq
      exact ⟨k, n, _, hu, hn, rfl, hq, fun w em i v => by unfold Instr.checkKey; simp [run_underlying hq]⟩
    · rename_i hq
      exact ⟨k, n, _, hu, hn, rfl, hq, fun w em i v => by unfold Instr.checkKey; simp [run_underlying hq]⟩
    · cases hn'
  · cases h

/-- What a map's block says. -/
theorem findKey_sound (M : MemOK P w pr tk m) {k n : Nat} {kd : TypeDesc} (hu : P.underlying k = some kd) (hk : kindOf1 P k = some n) {t : Tok} {b cap : Nat} {es : List (D × D)} (hm : m t = some (.map es)) (ht : tk t = some (b, cap)) {a : Value} {x : D} (hx : Rep w pr tk a x) {r : Option Nat} (hf : findV [n] x es 0 = some r) :
    ∃ ents, w.heap[b]? = some (.map ents es.length) ∧ ents.size = es.length ∧ es.length ≤ maxLen ∧ (∀ (i : Nat) (en : MapEntry) (p : D × D), ents[i]? = some en → es[i]? = some p → en.born = i ∧ Rep w pr tk en.key p.1 ∧ Rep w pr tk en.val p.2) ∧
      match r with
      | none => (Instr.findKey k a ents.toList).run P w = .ok none w
      | some q => ∃ en p, ents[q]? = some en ∧ es[q]? = some p ∧ (Instr.findKey k a ents.toList).run P w = .ok (some (q, en.val)) w ∧ a = en.key ∧ ∀ z, Instr.sameBits z a a = true := by
  obtain ⟨b', cap', ents, h1, h2, h3, h4, h5⟩ := M.obj _ _ hm
  rw [ht] at h1; cases h1
  refine ⟨ents, h2, h3, h4, h5, ?_⟩
  have := findNow_sound hu hk hx ents.toList es 0 r (by simpa using h3) (fun j en p he hp => (h5 j en p (by simpa using he) hp).2.1) hf
  cases r with
  | none => exact MapKept.run_findKey hu this
  | some q =>
    obtain ⟨_, en, g1, g2, g3⟩ := this
    simp only [Nat.sub_zero, Array.getElem?_toList] at g1
    have hq : q < es.length := by have := (Array.getElem?_eq_some_iff.1 g1).1; omega
    exact ⟨en, es[q], g1, List.getElem?_eq_getElem hq, MapKept.run_findKey hu g2, g3⟩

theorem lkp_sound (M : MemOK P w pr tk m) {t e : Nat} {ks : List Nat} {z : D} {ok : Bool} {v u : Value} {x y d : D} (hk : dKey P t = some (ks, e)) (hz : dZeroD P e = some z) (hx : Rep w pr tk v x) (hy : Rep w pr tk u y) (hr : lkpV m ks z ok [x, y] = some d) :
    ∃ q, (Instr.lookup t v u ok).run P w = .ok q w ∧ Rep w pr tk q d := by
  obtain ⟨k, n, kd, hu, hn, rfl, hkd, hchk⟩ := dKey_spec hk
  unfold lkpV at hr
  split at hr
  · rename_i t' k' hh
    cases hh
    split at hr
    · rename_i es hm
      split at hr
      rotate_left
      · cases hr
      rw [Option.bind_eq_some_iff] at hr
      obtain ⟨r, hf, hr⟩ := hr
      cases hx with
      | mp ht =>
        rename_i b cap
        obtain ⟨ents, h2, h3, h4, h5, h6⟩ := findKey_sound M hkd hn hm ht hy hf
        obtain ⟨zv, hzr, hzrep⟩ := zeroD_sound (w := w) (pr := pr) (tk := tk) hz
        have tup2 : ∀ {p : Value} {dd : D} {bb : Bool}, Rep w pr tk p dd → Rep w pr tk (.tuple #[p, .bool bb]) (.tup [dd, bv bb]) := fun {p dd bb} h =>
          .tup (by simp) fun i c xx hc hxx => by
            match i, hc, hxx with
            | 0, hc, hxx => simp at hc hxx; subst hc; subst hxx; exact h
            | 1, hc, hxx => simp at hc hxx; subst hc; subst hxx; exact .v rfl
            | _ + 2, hc, hxx => simp at hc
        split at hr
        · cases hr
          refine ⟨if ok then .tuple #[zv, .bool false] else zv, ?_, ?_⟩
          · simp only [] at h6
            simp [Instr.lookup, run_underlying hu, MapKept.run_getObj_map h2, hchk, h6, hzr, Result.andThen]
          · cases ok
            · exact hzrep
            · exact tup2 hzrep
        · rename_i q
          obtain ⟨p, hp, rfl⟩ := Option.map_eq_some_iff.1 hr
          obtain ⟨en, p', g1, g2, g3, _⟩ := h6
          rw [hp] at g2; cases g2
          have hv := (h5 q en p g1 hp).2.2
          refine ⟨if ok then .tuple #[en.val, .bool true] else en.val, ?_, ?_⟩
          · simp [Instr.lookup, run_underlying hu, MapKept.run_getObj_map h2, hchk, g3, Result.andThen]
          · cases ok
            · exact hv
            · exact tup2 hv
    · cases hr
  · cases hr

theorem ent_sound (M : MemOK P w pr tk m) {v : Value} {x d : D} (hx : Rep w pr tk v x) (hr : entV m [x] = some d) : ∃ q, (Instr.entry v).run P w = .ok q w ∧ Rep w pr tk q d := by
  unfold entV at hr
  split at hr
  · rename_i t hh
    cases hh
    split at hr
    · rename_i u n seen hm
      split at hr
      · rename_i es hm2
        split at hr
        · rename_i hn
          rw [Option.bind_eq_some_iff] at hr
          obtain ⟨i, hi, hr⟩ := hr
          obtain ⟨p, hp, rfl⟩ := Option.map_eq_some_iff.1 hr
          cases hx with
          | ptr ht =>
            rename_i b cap
            obtain ⟨b1, c1, b2, c2, g1, g2, g3⟩ := M.obj _ _ hm
            rw [ht] at g1; cases g1
            obtain ⟨b3, c3, ents, h1, h2, h3, h4, h5⟩ := M.obj _ _ hm2
            rw [g2] at h1; cases h1
            have hil : i < es.length := (List.getElem?_eq_some_iff.1 hp).1
            have hen : ents[i]? = some ents[i] := Array.getElem?_eq_getElem (by omega)
            obtain ⟨k1, k2, k3⟩ := h5 i ents[i] p hen hp
            have hback : seen.toArray.back? = some i := by simp [hi]
            have hfind : ents.find? (·.born == i) = some ents[i] := by
              rw [Array.find?_eq_some_iff_getElem]
              refine ⟨by simpa using k1, i, by omega, rfl, fun j hj => ?_⟩
              have hjl : j < ents.size := by omega
              have := (h5 j ents[j] es[j] (Array.getElem?_eq_getElem hjl) (List.getElem?_eq_getElem (by omega))).1
              simp [this]; omega
            refine ⟨.tuple #[ents[i].key, ents[i].val], ?_, ?_⟩
            · simp only [Instr.entry, getObj, Sem.run_bind, Sem.run, g3, h2, Result.andThen, hback, hn, bne_self_eq_false, Bool.false_eq_true, if_false, hfind]
              rfl
            · exact .tup (by simp) fun j c xx hc hxx => by
                match j, hc, hxx with
                | 0, hc, hxx => simp at hc hxx; subst hc; subst hxx; exact k2
                | 1, hc, hxx => simp at hc hxx; subst hc; subst hxx; exact k3
                | _ + 2, hc, hxx => simp at hc
        · cases hr
      · cases hr
    · cases hr
  · cases hr

theorem pure_sound (M : MemOK P w pr tk m) {fr : Nat → Nat} {Γ : Env} {o : Oper} {k : PK} {xs : List Operand} {ρ : Operand → Value} {ds : List D} {d : D}
    (hd : dPure P fr o.op = some (k, xs)) (hk : k.simple = true) (hrep : Reps w pr tk (xs.map ρ) ds) (hrun : k.run Γ m ds = some d) :
    ∃ v, (execOp ρ o).run P w = .ok (.value v) w ∧ Rep w pr tk v d := by
  have one : ∀ (e : Sem Value), (execOp ρ o = do pure (.value (← e))) → (∃ u, e.run P w = .ok u w ∧ Rep w pr tk u d) →
      ∃ v, (execOp ρ o).run P w = .ok (.value v) w ∧ Rep w pr tk v d := fun e he ⟨u, hr, hu⟩ =>
    ⟨u, by rw [he]; simp [hr], hu⟩
  generalize ho : o.op = op at hd
  cases op <;> simp only [dPure] at hd <;> try (cases hd; done)
  case move x =>
    cases hd
    obtain ⟨y, rfl, hy⟩ := hrep.one
    cases hrun
    exact ⟨ρ x, by simp [execOp, ho], hy⟩
  case assign x =>
    cases hd
    obtain ⟨y, rfl, hy⟩ := hrep.one
    cases hrun
    exact ⟨ρ x, by simp [execOp, ho], hy⟩
  case pick c a b =>
    cases hd
    obtain ⟨y, z, z', rfl, h1, h2, h3⟩ := hrep.three
    simp only [PK.run, pickV] at hrun
    cases y <;> simp only [D.asBool] at hrun <;> try (cases hrun; done)
    rename_i yv
    cases yv <;> simp only [] at hrun <;> try (cases hrun; done)
    rename_i bb
    obtain ⟨h1, _⟩ := rep_v.1 h1
    simp only [Option.bind_some, Option.some.injEq] at hrun
    subst hrun
    refine ⟨if bb then ρ a else ρ b, by simp [execOp, ho, h1, asBool], ?_⟩
    cases bb
    · exact h3
    · exact h2
  case load t a =>
    unfold dLoad at hd
    cases hg : isAggT P t with
    | none => simp [hg] at hd
    | some g =>
      simp only [hg, Option.bind_some] at hd
      split at hd <;> cases hd
      rename_i hc
      obtain ⟨y, rfl, hy⟩ := hrep.one
      exact one _ (by simp [execOp, ho]) (load_sound M hg hc.1 hc.2 hy hrun)
  case fieldAddr t x f =>
    cases hf : fieldOff P t f with
    | none => simp [hf] at hd
    | some q =>
      obtain ⟨o', n, g⟩ := q
      simp only [hf, Option.map_some] at hd
      cases hd
      obtain ⟨y, rfl, hy⟩ := hrep.one
      exact one _ (by simp [execOp, ho]) (fld_sound hf hy hrun)
  case indexAddr t x i =>
    unfold dIdx at hd
    cases hu : P.underlying t with
    | none => simp [hu] at hd
    | some dsc =>
      cases dsc <;> simp only [hu] at hd <;> try (cases hd; done)
      all_goals
        split at hd <;> cases hd
        rename_i hi
        obtain ⟨y, z, rfl, hy, hz⟩ := hrep.two
        exact one (Instr.indexAt t (ρ x) (ρ i)) (by simp [execOp, ho]) (by first | exact idx_sound hu hi hy hz hrun | exact aidx_sound hu hi hy hz hrun)
  case binOp op t x y yt =>
    obtain ⟨k', hk', hd⟩ := Option.map_eq_some_iff.1 hd
    cases hd
    obtain ⟨p, q, rfl, hp, hq⟩ := hrep.two
    rcases or3 hk' with hk' | hk' | hk'
    · exact one _ (by simp [execOp, ho]; rfl) (bin_sound hk' hp hq hrun)
    · exact one _ (by simp [execOp, ho]; rfl) (snil_sound hk' hp hq hrun)
    · exact one _ (by simp [execOp, ho]; rfl) (aeq_sound hk' hp hq hrun)
  case build t parts =>
    obtain ⟨q, hq, hd⟩ := Option.map_eq_some_iff.1 hd
    cases hd
    have hidx : (parts.toList.map fun p => (p.1, ρ p.2)).map (·.1) = parts.toList.map (·.1) := by simp [List.map_map, Function.comp_def]
    obtain ⟨C, h1, h2⟩ := built_sound (w := w) (pr := pr) (tk := tk) (parts := parts.toList.map fun p => (p.1, ρ p.2)) hq hidx (by simpa [List.map_map, Function.comp_def] using hrep) hrun
    exact one _ (by simp [execOp, ho]; rfl) ⟨.agg C, run_build w t _ C (by simpa using h1), h2⟩
  case makeFunc fn first captured =>
    cases fn <;> simp only [] at hd <;> try (cases hd; done)
    rename_i f
    split at hd <;> cases hd
    rename_i hf
    simp only [PK.run, cloV] at hrun
    split at hrun <;> cases hrun
    refine one (Instr.makeFunc (.func f) (first.map ρ) (captured.map ρ)) (by simp [execOp, ho]) ⟨_, rfl, ?_⟩
    have hf0 : first.map ρ = #[] := by rw [Array.map_eq_empty_iff]; exact Array.eq_empty_of_size_eq_zero hf
    rw [hf0]
    have hl := hrep.length
    exact .clo (by simpa using hl) fun i c x hc hx => reps_get hrep i c x (by simpa using hc) hx
  case nilCheck x =>
    cases hd
    obtain ⟨y, rfl, hy⟩ := hrep.one
    obtain ⟨rfl, hv⟩ := chk_sound hy hrun
    refine ⟨ρ x, ?_, hy⟩
    rcases hv with ⟨a, hv⟩ | ⟨f, cv, hv⟩ <;> simp [execOp, ho, hv]
  case index t x i =>
    obtain ⟨k', hk', hd⟩ := Option.map_eq_some_iff.1 hd
    cases hd
    obtain ⟨p, q, rfl, hp, hq⟩ := hrep.two
    exact one _ (by simp [execOp, ho]) (aix_sound hk' hp hq hrun)
  case field t x f =>
    obtain ⟨q, hq, hd⟩ := Option.bind_eq_some_iff.1 hd
    split at hd <;> cases hd
    rename_i hc
    obtain ⟨p, rfl, hp⟩ := hrep.one
    exact one _ (by simp [execOp, ho]) (afld_sound hq hc hp hrun)
  case slice t x lo hi mx =>
    exact one _ (by simp [execOp, ho]) (slc_sound M hd hrep hrun)
  case lookup t x i ok =>
    rw [Option.bind_eq_some_iff] at hd
    obtain ⟨⟨ks, e⟩, hq, hd⟩ := hd
    obtain ⟨z, hz, hd⟩ := Option.map_eq_some_iff.1 hd
    cases hd
    obtain ⟨p, q, rfl, hp, hq'⟩ := hrep.two
    exact one _ (by simp [execOp, ho]) (lkp_sound M hq hz hp hq' hrun)
  case entry x =>
    cases hd
    obtain ⟨p, rfl, hp⟩ := hrep.one
    exact one _ (by simp [execOp, ho]) (ent_sound M hp hrun)
  case unOp op t x =>
    obtain ⟨k', hk', hd⟩ := Option.map_eq_some_iff.1 hd
    cases hd
    obtain ⟨p, rfl, hp⟩ := hrep.one
    exact one _ (by simp [execOp, ho]) (un_sound hk' hp hrun)
  case convert src dst x =>
    obtain ⟨k', hk', hd⟩ := Option.map_eq_some_iff.1 hd
    cases hd
    obtain ⟨p, rfl, hp⟩ := hrep.one
    exact one _ (by simp [execOp, ho]) (conv_sound hk' hp hrun)
  case extract x i =>
    cases hd
    obtain ⟨p, rfl, hp⟩ := hrep.one
    exact one _ (by simp [execOp, ho]) (ext_sound hp hrun)
  case call c =>
    unfold dCall at hd
    split at hd
    · rename_i b hc
      obtain ⟨k', hk', hd⟩ := Option.map_eq_some_iff.1 hd
      cases hd
      have hk2 : dBuiltin P b c.argTypes.toList (c.args.map ρ).size = some k := by simpa using hk'
      have e : ∃ cn, (execOp ρ o).run P w = (builtin b c.argTypes o.type cn (c.args.map ρ)).run P w := ⟨_, by simp [execOp, ho, resolve, hc, invoke]; rfl⟩
      obtain ⟨cn, e⟩ := e
      obtain ⟨u, h1, h2⟩ := builtin_sound (P := P) (w := w) (pr := pr) (tk := tk) (m := m) (ty := o.type) (cn := cn) hk2 (by simpa using hrep) hrun
      exact ⟨u, by rw [e, h1], h2⟩
    · split at hd <;> cases hd
      simp [PK.simple] at hk
    · cases hd
      simp [PK.simple] at hk
    · cases hd
end
end Go.Proofs.Ytpmgaaalfdjikaa
