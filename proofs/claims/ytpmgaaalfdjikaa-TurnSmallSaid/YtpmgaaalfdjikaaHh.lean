/- The H semantics: statements, and the regions of the model that are carried out in the order of the text. Lemmas; no condition. -/
import Derived.Test.YtpmgaaalfdjikaaHgb
namespace Go.Proofs.Ytpmgaaalfdjikaa
open Go.RowKit

/-- What makes or changes memory. -/
inductive Eff where
  | box (x : Nat) (a : VArg)
  | store (n : Nat) (a v : VArg)
  | app (x e size : Nat) (a b : VArg)
  | mks (x e size : Nat) (zero : List D) (a b : VArg)
  | lit (x e size len : Nat) (zero : List D) (places : List (Nat × Nat)) (args : List VArg)
  | callq (x f : Nat) (args : List VArg)
  | callm (x f : Nat) (args : List VArg)
  | mkm (x : Nat)
  | rng (x : Nat) (a : VArg)
  | mupd (ks : List Nat) (a k v : VArg)
  deriving Inhabited

inductive VStm where
  | op (x : Nat) (k : PK) (args : List VArg) (g : Option (Nat × Bool))
  | eff (e : Eff) (g : Option (Nat × Bool))
  | nxt (x : Nat) (a : VArg)
  | bad
  deriving Inhabited

def Eff.dst : Eff → Option Nat
  | .box x .. | .app x .. | .mks x .. | .lit x .. | .callq x .. | .callm x .. | .mkm x | .rng x _ => some x
  | .store .. | .mupd .. => none
def St.void (σ : St) : Option Nat → St
  | some x => σ.set x (.tup [])
  | none => σ

def opV (Γ : Env) (x : Nat) (k : PK) (args : List VArg) (σ : St) : Option St := (k.run Γ σ.m (args.map (VArg.val σ.s))).map (σ.set x)
def guardV (σ : St) : Option (Nat × Bool) → Option Bool
  | none => some true
  | some (j, want) => match σ.s j with
    | .v (.bool b) => some (b == want)
    | .tup _ => some false
    | _ => none

def Eff.run (Γ : Env) : Eff → St → Option St
  | .box x a, σ => boxV x (a.val σ.s) σ
  | .store n a v, σ => storeV n (a.val σ.s) (v.val σ.s) σ
  | .app x e size a b, σ => appV x e size (a.val σ.s) (b.val σ.s) σ
  | .mks x e size zero a b, σ => mksV x e size zero (a.val σ.s) (b.val σ.s) σ
  | .lit x e size len zero places args, σ => litV x e size len zero places (args.map (VArg.val σ.s)) σ
  | .callq x f args, σ => callqV Γ x f (args.map (VArg.val σ.s)) σ
  | .callm x f args, σ => callmV Γ x f (args.map (VArg.val σ.s)) σ
  | .mkm x, σ => mkmV x σ
  | .rng x a, σ => rngV x (a.val σ.s) σ
  | .mupd ks a k v, σ => mupdV ks (a.val σ.s) (k.val σ.s) (v.val σ.s) σ

def VStm.run (Γ : Env) : VStm → St → Option St
  | .op x k args g, σ => (guardV σ g).bind fun b => bif b then opV Γ x k args σ else some (σ.set x (.tup []))
  | .eff e g, σ => (guardV σ g).bind fun b => bif b then e.run Γ σ else some (σ.void e.dst)
  | .nxt .., _ => none
  | .bad, _ => none

def runs (Γ : Env) : List VStm → St → Option St
  | [], σ => some σ
  | st :: r, σ => (st.run Γ σ).bind (runs Γ r)

def dGuard (n : Nat) (ops : Array Oper) (o : Oper) : Option (Option (Nat × Bool)) :=
  match o.guard with
  | none => some none
  | some (j, want) => ((ops[j]?).bind (·.dst)).bind fun x => if x < n then some (some (x, want)) else none

/-- An element type that can be appended and made. -/
def dElem (P : Program) (t : Nat) : Option (Nat × Nat) :=
  match P.underlying t with
  | some (.slice e) => (P.info? e).bind fun i => if i.bytes ≤ 1024 ∧ i.size ≤ 16 then (match i.zero with
    | some z => if z.cells.size = i.size then some (e, i.size) else none
    | none => none) else none
  | _ => none

def dEff (P : Program) (fr : Nat → Nat) (n : Nat) (o : Oper) : Option Eff :=
  match o.op, o.dst with
    | .box _ v, some x => if x < n then (dArg n v).map (.box x) else none
    | .alloc t, some x => if x < n then (dZero P t).map fun z => .box x (.c (.agg z)) else none
    | .store t a v, none => (dArg n a).bind fun a => (dArg n v).bind fun v => if (P.info? t).isSome then some (.store (P.cellsOf t) a v) else none
    | .makeSlice t a b, some x => if x < n then (dElem P t).bind fun q => (dZero P q.1).bind fun z => (dArg n a).bind fun a => (dArg n b).map fun b => .mks x q.1 q.2 z a b else none
    | .buildSlice t len parts, some x => if x < n then (dBslice P t len (parts.toList.map (·.1))).bind fun q => ((parts.toList.map (·.2)).mapM (dArg n)).map fun gs => .lit x q.1 q.2.1 len q.2.2.1 q.2.2.2 gs else none
    | .makeMap _ none, some x => if x < n then some (.mkm x) else none
    | .range t a, some x => if x < n then match P.underlying t with
      | some (.map _ _) => (dArg n a).map (.rng x)
      | _ => none
      else none
    | .mapUpdate t m k v, none => (dKey P t).bind fun q => (dArg n m).bind fun m => (dArg n k).bind fun k => (dArg n v).map fun v => .mupd q.1 m k v
    | .call c, some x => if x < n then match c.callee with
      | .builtin .append => match c.args.toList, c.argTypes.toList with
        | [a, b], [t, t'] => if t = t' then (dElem P t).bind fun q => (dArg n a).bind fun a => (dArg n b).map fun b => .app x q.1 q.2 a b else none
        | _, _ => none
      | .value (.func f) => if fr f = 1 then (c.args.toList.mapM (dArg n)).map fun gs => .callq x f gs else
        if fr f = 2 then (c.args.toList.mapM (dArg n)).map fun gs => .callm x f gs else none
      | _ => none
      else none
    | _, _ => none

def dOp (P : Program) (fr : Nat → Nat) (n : Nat) (ops : Array Oper) (o : Oper) : Option VStm :=
  (dPure P fr o.op).bind fun q => o.dst.bind fun x => if x < n then (q.2.mapM (dArg n)).bind fun gs => (dGuard n ops o).map fun g => .op x q.1 gs g else none
def dEffG (P : Program) (fr : Nat → Nat) (n : Nat) (ops : Array Oper) (o : Oper) : Option VStm :=
  (dEff P fr n o).bind fun e => (dGuard n ops o).map fun g => .eff e g
def dNxt (n : Nat) (o : Oper) : Option VStm :=
  match o.guard, o.op, o.dst with
  | none, .next it false, some x => if x < n then (dArg n it).map fun a => .nxt x a else none
  | _, _, _ => none

def dStm (P : Program) (fr : Nat → Nat) (n : Nat) (ops : Array Oper) (o : Oper) : VStm := (((dOp P fr n ops o).or (dEffG P fr n ops o)).or (dNxt n o)).getD .bad

section
variable {P : Program} {fr : Nat → Nat} {w0 w : World} {pr : Prot} {A : Area} {n : Nat} {tk : Places} {σ : St} {a : Act}

def StmOK (P : Program) (w0 : World) (pr : Prot) (A : Area) (n : Nat) (ops : Array Oper) (o : Oper) (σ' : St) (a : Act) (w : World) : Prop :=
  ∀ (next : Act → World → Prop) (Q : Exit → Act → World → Prop), (∀ a' w' tk', a'.defers = a.defers → Rel P w0 pr A n w' a'.tmps σ' tk' → next a' w') →
    if Region.wanted o (yielded ops a.tmps) then o.wp P a w next Q else next (a.put o.dst undef) w

theorem getElem_slot (R : Rel P w0 pr A n w a.tmps σ tk) {x : Nat} (hx : x < n) : a.tmps[x]? = some (a.tmps.getD x undef) := by
  have : x < a.tmps.size := by rw [R.size]; exact hx
  simp [Array.getD, this]

theorem guard_sound (R : Rel P w0 pr A n w a.tmps σ tk) {ops : Array Oper} {o : Oper} {g : Option (Nat × Bool)} {b : Bool} (hg : dGuard n ops o = some g) (hb : guardV σ g = some b) :
    Region.wanted o (yielded ops a.tmps) = b := by
  unfold dGuard at hg
  cases ho : o.guard with
  | none =>
    simp only [ho] at hg
    cases hg
    simp only [guardV] at hb
    cases hb
    simp [Region.wanted, ho]
  | some q =>
    obtain ⟨j, want⟩ := q
    simp only [ho] at hg
    obtain ⟨x, hx, hg⟩ := Option.bind_eq_some_iff.1 hg
    split at hg <;> cases hg
    rename_i hxn
    have hy : yielded ops a.tmps j = match a.tmps.getD x undef with | .bool b => some b | _ => none := by
      unfold yielded
      rw [hx]
      simp only [Option.bind_some, getElem_slot R hxn]
      generalize a.tmps.getD x undef = c
      cases c <;> rfl
    have hr := R.slot x hxn
    simp only [guardV] at hb
    cases hs : σ.s x <;> simp only [hs] at hb <;> try (cases hb; done)
    · rename_i xv
      cases xv <;> simp only [] at hb <;> try (cases hb; done)
      cases hb
      rw [hs] at hr
      obtain ⟨hv, _⟩ := rep_v.1 hr
      simp only [Region.wanted, ho, hy, hv]
      rename_i bb
      cases bb <;> cases want <;> rfl
    · cases hb
      rw [hs] at hr
      generalize a.tmps.getD x undef = cc at hr hy
      cases hr
      simp only [Region.wanted, ho, hy]
      rfl

theorem op_sound {Γ : Env} (hΓ : Sound P Γ) {ops : Array Oper} {o : Oper} {x : Nat} {k : PK} {args : List VArg} {g : Option (Nat × Bool)} {σ' : St} (R : Rel P w0 pr A n w a.tmps σ tk)
    (hd : dOp P fr n ops o = some (.op x k args g)) (hrun : (VStm.op x k args g).run Γ σ = some σ') : StmOK P w0 pr A n ops o σ' a w := by
  intro next Q hn
  unfold dOp at hd
  rw [Option.bind_eq_some_iff] at hd
  obtain ⟨⟨k', xs⟩, hp, hd⟩ := hd
  rw [Option.bind_eq_some_iff] at hd
  obtain ⟨x', hx', hd⟩ := hd
  split at hd
  · rename_i hxn
    rw [Option.bind_eq_some_iff] at hd
    obtain ⟨gs, hgs, hd⟩ := hd
    obtain ⟨g', hg', hd⟩ := Option.map_eq_some_iff.1 hd
    cases hd
    simp only [VStm.run] at hrun
    rw [Option.bind_eq_some_iff] at hrun
    obtain ⟨b, hb, hrun⟩ := hrun
    rw [guard_sound R hg' hb]
    cases b
    · simp only [cond_false, Option.some.injEq] at hrun
      subst hrun
      simp only [Bool.false_eq_true, if_false]
      rw [hx']
      exact hn _ _ _ rfl (R.drop hxn)
    · simp only [cond_true, opV] at hrun
      obtain ⟨d, hd, rfl⟩ := Option.map_eq_some_iff.1 hrun
      simp only [if_true]
      cases hk : k'.simple
      · exact step_call hΓ R hp hk hgs hx' hxn hd fun v w' R' => hn _ _ _ rfl R'
      · exact step_pure R hp hk hgs hx' hxn hd fun v w' R' => hn _ _ _ rfl R'
  · cases hd

theorem run_newVar (P : Program) (w : World) (t : Nat) (v : Value) : (newVar t v).run P w = .ok ⟨w.heap.size, 0, none⟩ (w.alloc (.cells v.cells t)) := by
  simp [newVar, newRow]

theorem dElem_spec {t : Nat} {q : Nat × Nat} (h : dElem P t = some q) : ∃ i z, P.underlying t = some (.slice q.1) ∧ P.info? q.1 = some i ∧ i.zero = some z ∧ z.cells.size = i.size ∧ i.bytes ≤ 1024 ∧ i.size ≤ 16 ∧ q.2 = i.size := by
  unfold dElem at h
  split at h
  · rename_i e hu
    rw [Option.bind_eq_some_iff] at h
    obtain ⟨i, hi, h⟩ := h
    split at h
    · rename_i hc
      split at h
      · rename_i z hz
        split at h <;> cases h
        exact ⟨i, z, hu, hi, hz, by assumption, hc.1, hc.2, rfl⟩
      · cases h
    · cases h
  · cases h

theorem eff_sound {Γ : Env} (hΓ : Sound P Γ) {o : Oper} {st : Eff} {σ' : St} (R : Rel P w0 pr A n w a.tmps σ tk)
    (hd : dEff P fr n o = some st) (hrun : st.run Γ σ = some σ') (next : Act → World → Prop) (Q : Exit → Act → World → Prop) (hn : ∀ a' w' tk', a'.defers = a.defers → Rel P w0 pr A n w' a'.tmps σ' tk' → next a' w') : o.wp P a w next Q := by
  unfold dEff at hd
  split at hd
  · rename_i t v x ho hdst
    split at hd
    · rename_i hxn
      obtain ⟨av, hav, rfl⟩ := Option.map_eq_some_iff.1 hd
      obtain ⟨tk', R'⟩ := rel_box (t := t) R (dArg_rep R hav) hxn hrun
      unfold Oper.wp
      rw [show (execOp a.eval o).run P w = .ok (.value (.pointer (some ⟨w.heap.size, 0, none⟩))) (w.alloc (.cells (a.eval v).cells t)) by simp [execOp, ho, Instr.box, run_newVar], Oper.upon_value, hdst]
      exact hn _ _ _ rfl R'
    · cases hd
  · rename_i t x ho hdst
    split at hd
    · rename_i hxn
      obtain ⟨z, hz, rfl⟩ := Option.map_eq_some_iff.1 hd
      obtain ⟨i, zv, hi, hzi, hrep⟩ := dZero_spec (w := w) (pr := pr) (tk := tk) hz
      have hrep' : Rep w pr tk (.agg zv.cells) (.agg z) := rep_agg.2 ⟨_, rfl, hrep⟩
      obtain ⟨tk', R'⟩ := rel_box (t := t) R hrep' hxn hrun
      unfold Oper.wp
      rw [show (execOp a.eval o).run P w = .ok (.value (.pointer (some ⟨w.heap.size, 0, none⟩))) (w.alloc (.cells zv.cells t)) by simp [execOp, ho, Instr.alloc, zeroValue, typeInfo, hi, hzi, run_newVar], Oper.upon_value, hdst]
      exact hn _ _ _ rfl R'
    · cases hd
  · rename_i t av v ho hdst
    rw [Option.bind_eq_some_iff] at hd
    obtain ⟨ga, hga, hd⟩ := hd
    rw [Option.bind_eq_some_iff] at hd
    obtain ⟨gv, hgv, hd⟩ := hd
    split at hd <;> cases hd
    have hi : (P.info? t).isSome = true := by assumption
    obtain ⟨w', h1, R'⟩ := rel_store R (dArg_rep R hga) (dArg_rep R hgv) hi hrun
    unfold Oper.wp
    rw [show (execOp a.eval o).run P w = .ok .skip w' by simp [execOp, ho, h1], Oper.upon_skip, hdst]
    exact hn _ _ _ rfl R'
  · rename_i t av bv x ho hdst
    split at hd
    · rename_i hxn
      rw [Option.bind_eq_some_iff] at hd
      obtain ⟨q, hq, hd⟩ := hd
      rw [Option.bind_eq_some_iff] at hd
      obtain ⟨z, hz, hd⟩ := hd
      rw [Option.bind_eq_some_iff] at hd
      obtain ⟨ga, hga, hd⟩ := hd
      obtain ⟨gb, hgb, rfl⟩ := Option.map_eq_some_iff.1 hd
      obtain ⟨i, zv, hu, hi, hzi, hzs, hby, hsz, hq2⟩ := dElem_spec hq
      obtain ⟨i', zv', hi', hzi', hrep⟩ := dZero_spec (w := w) (pr := pr) (tk := tk) hz
      obtain rfl : i = i' := by rw [hi] at hi'; exact Option.some.inj hi'
      obtain rfl : zv = zv' := by rw [hzi] at hzi'; exact Option.some.inj hzi'
      simp only [Eff.run, hq2] at hrun
      obtain ⟨v', w', tk', h1, R'⟩ := rel_mks R hu hi hzi hzs hrep hsz hby hxn (dArg_rep R hga) (dArg_rep R hgb) hrun
      unfold Oper.wp
      rw [show (execOp a.eval o).run P w = .ok (.value v') w' by simp [execOp, ho, h1], Oper.upon_value, hdst]
      exact hn _ _ _ rfl R'
    · cases hd
  · rename_i t len parts x ho hdst
    split at hd
    · rename_i hxn
      rw [Option.bind_eq_some_iff] at hd
      obtain ⟨⟨e, size, zero, places⟩, hq, hd⟩ := hd
      obtain ⟨gs, hgs, rfl⟩ := Option.map_eq_some_iff.1 hd
      obtain ⟨v', w', tk', h1, R'⟩ := rel_lit R hq hxn (args_rep R hgs) hrun
      unfold Oper.wp
      rw [show (execOp a.eval o).run P w = .ok (.value v') w' by simp [execOp, ho, h1], Oper.upon_value, hdst]
      exact hn _ _ _ rfl R'
    · cases hd
  · rename_i t x ho hdst
    split at hd <;> cases hd
    rename_i hxn
    obtain ⟨v', w', tk', h1, R'⟩ := rel_mkm (t := t) R hxn hrun
    unfold Oper.wp
    rw [show (execOp a.eval o).run P w = .ok (.value v') w' by simp [execOp, ho, h1], Oper.upon_value, hdst]
    exact hn _ _ _ rfl R'
  · rename_i t av x ho hdst
    split at hd
    · rename_i hxn
      split at hd
      · rename_i k e hu
        obtain ⟨ga, hga, rfl⟩ := Option.map_eq_some_iff.1 hd
        obtain ⟨v', w', tk', h1, R'⟩ := rel_rng R hxn hu (dArg_rep R hga) hrun
        unfold Oper.wp
        rw [show (execOp a.eval o).run P w = .ok (.value v') w' by simp [execOp, ho, h1], Oper.upon_value, hdst]
        exact hn _ _ _ rfl R'
      · cases hd
    · cases hd
  · rename_i t mv kv vv ho hdst
    rw [Option.bind_eq_some_iff] at hd
    obtain ⟨⟨ks, e⟩, hq, hd⟩ := hd
    rw [Option.bind_eq_some_iff] at hd
    obtain ⟨gm, hgm, hd⟩ := hd
    rw [Option.bind_eq_some_iff] at hd
    obtain ⟨gk, hgk, hd⟩ := hd
    obtain ⟨gv, hgv, rfl⟩ := Option.map_eq_some_iff.1 hd
    obtain ⟨w', h1, R'⟩ := rel_mupd R hq (dArg_rep R hgm) (dArg_rep R hgk) (dArg_rep R hgv) hrun
    unfold Oper.wp
    rw [show (execOp a.eval o).run P w = .ok .skip w' by simp [execOp, ho, h1], Oper.upon_skip, hdst]
    exact hn _ _ _ rfl R'
  · rename_i c x ho hdst
    split at hd
    · rename_i hxn
      split at hd
      · rename_i hc
        split at hd
        · rename_i a0 b0 t t' hargs hts
          split at hd
          · rename_i htt
            subst htt
            rw [Option.bind_eq_some_iff] at hd
            obtain ⟨q, hq, hd⟩ := hd
            rw [Option.bind_eq_some_iff] at hd
            obtain ⟨ga, hga, hd⟩ := hd
            obtain ⟨gb, hgb, rfl⟩ := Option.map_eq_some_iff.1 hd
            obtain ⟨i, zv, hu, hi, hzi, hzs, hby, hsz, hq2⟩ := dElem_spec hq
            simp only [Eff.run, hq2] at hrun
            obtain ⟨v', w', tk', h1, R'⟩ := rel_app (ty := o.type) R hu hi hzi hzs hby hxn (dArg_rep R hga) (dArg_rep R hgb) hrun
            unfold Oper.wp
            obtain ⟨callee, ⟨args⟩, ⟨ts⟩⟩ := c
            simp only [] at hargs hts hc
            subst hargs hts hc
            rw [show (execOp a.eval o).run P w = .ok (.value v') w' by simp [execOp, ho, resolve, invoke, builtin, h1], Oper.upon_value, hdst]
            exact hn _ _ _ rfl R'
          · cases hd
        · cases hd
      · rename_i f hc
        split at hd
        · obtain ⟨gs, hgs, rfl⟩ := Option.map_eq_some_iff.1 hd
          exact step_callq hΓ R ho hc hgs hdst hxn hrun fun v w' tk' R' => hn _ _ _ rfl R'
        · split at hd
          · obtain ⟨gs, hgs, rfl⟩ := Option.map_eq_some_iff.1 hd
            exact step_callm hΓ R ho hc hgs hdst hxn hrun fun v w' tk' R' => hn _ _ _ rfl R'
          · cases hd
      · cases hd
    · cases hd
  · cases hd

theorem dEff_dst {o : Oper} {e : Eff} (h : dEff P fr n o = some e) : e.dst = o.dst ∧ ∀ x, o.dst = some x → x < n := by
  have fin : ∀ {x : Nat} {e : Eff}, e.dst = some x → x < n → o.dst = some x → e.dst = o.dst ∧ ∀ x, o.dst = some x → x < n := fun {x e} h1 h2 h3 => ⟨h1.trans h3.symm, fun y hy => by rw [h3] at hy; cases hy; exact h2⟩
  unfold dEff at h
  split at h
  · rename_i hdst
    split at h
    · obtain ⟨_, _, rfl⟩ := Option.map_eq_some_iff.1 h; exact fin rfl (by assumption) hdst
    · cases h
  · rename_i hdst
    split at h
    · obtain ⟨_, _, rfl⟩ := Option.map_eq_some_iff.1 h; exact fin rfl (by assumption) hdst
    · cases h
  · rename_i hdst
    rw [Option.bind_eq_some_iff] at h
    obtain ⟨_, _, h⟩ := h
    rw [Option.bind_eq_some_iff] at h
    obtain ⟨_, _, h⟩ := h
    split at h <;> cases h
    exact ⟨hdst.symm, fun x hx => by rw [hdst] at hx; cases hx⟩
  · rename_i hdst
    split at h
    · rw [Option.bind_eq_some_iff] at h
      obtain ⟨_, _, h⟩ := h
      rw [Option.bind_eq_some_iff] at h
      obtain ⟨_, _, h⟩ := h
      rw [Option.bind_eq_some_iff] at h
      obtain ⟨_, _, h⟩ := h
      obtain ⟨_, _, rfl⟩ := Option.map_eq_some_iff.1 h; exact fin rfl (by assumption) hdst
    · cases h
  · rename_i hdst
    split at h
    · rw [Option.bind_eq_some_iff] at h
      obtain ⟨_, _, h⟩ := h
      obtain ⟨_, _, rfl⟩ := Option.map_eq_some_iff.1 h; exact fin rfl (by assumption) hdst
    · cases h
  · rename_i hdst
    split at h <;> cases h
    exact fin rfl (by assumption) hdst
  · rename_i hdst
    split at h
    · split at h
      · obtain ⟨_, _, rfl⟩ := Option.map_eq_some_iff.1 h; exact fin rfl (by assumption) hdst
      · cases h
    · cases h
  · rename_i hdst
    rw [Option.bind_eq_some_iff] at h
    obtain ⟨_, _, h⟩ := h
    rw [Option.bind_eq_some_iff] at h
    obtain ⟨_, _, h⟩ := h
    rw [Option.bind_eq_some_iff] at h
    obtain ⟨_, _, h⟩ := h
    obtain ⟨_, _, rfl⟩ := Option.map_eq_some_iff.1 h
    exact ⟨hdst.symm, fun x hx => by rw [hdst] at hx; cases hx⟩
  · rename_i hdst
    split at h
    · split at h
      · split at h
        · split at h
          · rw [Option.bind_eq_some_iff] at h
            obtain ⟨_, _, h⟩ := h
            rw [Option.bind_eq_some_iff] at h
            obtain ⟨_, _, h⟩ := h
            obtain ⟨_, _, rfl⟩ := Option.map_eq_some_iff.1 h; exact fin rfl (by assumption) hdst
          · cases h
        · cases h
      · split at h
        · obtain ⟨_, _, rfl⟩ := Option.map_eq_some_iff.1 h; exact fin rfl (by assumption) hdst
        · split at h
          · obtain ⟨_, _, rfl⟩ := Option.map_eq_some_iff.1 h; exact fin rfl (by assumption) hdst
          · cases h
      · cases h
    · cases h
  · cases h

theorem dNxt_spec {o : Oper} {st : VStm} (h : dNxt n o = some st) : ∃ x it ga, o.guard = none ∧ o.op = .next it false ∧ o.dst = some x ∧ x < n ∧ dArg n it = some ga ∧ st = .nxt x ga := by
  unfold dNxt at h
  split at h
  · rename_i it x h1 h2 h3
    split at h
    · rename_i hx
      obtain ⟨ga, hga, rfl⟩ := Option.map_eq_some_iff.1 h
      exact ⟨x, it, ga, h1, h2, h3, hx, hga, rfl⟩
    · cases h
  · cases h

theorem Rel.void (R : Rel P w0 pr A n w a.tmps σ tk) {dst : Option Nat} (h : ∀ x, dst = some x → x < n) : Rel P w0 pr A n w (a.put dst undef).tmps (σ.void dst) tk := by
  cases dst with
  | none => exact R
  | some x => exact R.drop (h x rfl)

theorem stm_sound {Γ : Env} (hΓ : Sound P Γ) {ops : Array Oper} {o : Oper} {σ' : St} (R : Rel P w0 pr A n w a.tmps σ tk) (hrun : (dStm P fr n ops o).run Γ σ = some σ') : StmOK P w0 pr A n ops o σ' a w := by
  unfold dStm at hrun
  cases h : dOp P fr n ops o with
  | none =>
    cases h2 : dEffG P fr n ops o with
    | none =>
      rw [h, h2] at hrun
      cases h3 : dNxt n o with
      | none => rw [h3] at hrun; cases hrun
      | some st =>
        obtain ⟨x, it, ga, _, _, _, _, _, rfl⟩ := dNxt_spec h3
        rw [h3] at hrun
        cases hrun
    | some st =>
      rw [h, h2] at hrun
      unfold dEffG at h2
      rw [Option.bind_eq_some_iff] at h2
      obtain ⟨e, he, h2⟩ := h2
      obtain ⟨g, hg, rfl⟩ := Option.map_eq_some_iff.1 h2
      simp only [Option.none_or, Option.some_or, Option.getD_some, VStm.run] at hrun
      rw [Option.bind_eq_some_iff] at hrun
      obtain ⟨b, hb, hrun⟩ := hrun
      obtain ⟨hds, hlt⟩ := dEff_dst he
      intro next Q hn
      rw [guard_sound R hg hb]
      cases b
      · simp only [cond_false, Option.some.injEq] at hrun
        subst hrun
        simp only [Bool.false_eq_true, if_false]
        rw [hds] at *
        exact hn _ _ _ (by cases o.dst <;> rfl) (R.void hlt)
      · simp only [cond_true] at hrun
        simp only [if_true]
        exact eff_sound hΓ R he hrun next Q hn
  | some st =>
    rw [h] at hrun
    have hst : ∃ x k args g, st = .op x k args g := by
      unfold dOp at h
      rw [Option.bind_eq_some_iff] at h
      obtain ⟨q, _, h⟩ := h
      rw [Option.bind_eq_some_iff] at h
      obtain ⟨x, _, h⟩ := h
      split at h
      · rw [Option.bind_eq_some_iff] at h
        obtain ⟨gs, _, h⟩ := h
        obtain ⟨g, _, h⟩ := Option.map_eq_some_iff.1 h
        exact ⟨_, _, _, _, h.symm⟩
      · cases h
    obtain ⟨x, k, args, g, rfl⟩ := hst
    exact op_sound hΓ R h hrun

def dReg (P : Program) (fr : Nat → Nat) (n : Nat) (ops : Array Oper) : List VStm := ops.toList.map (dStm P fr n ops)

theorem wpOps_cons {ops : Array Oper} {Q : Exit → Act → World → Prop} {k : Nat} {o : Oper} {tail : List Nat} {w : World} {a : Act} (ho : ops[k]? = some o)
    (h : if Region.wanted o (yielded ops a.tmps) then o.wp P a w (wpOps P ops Q tail) Q else wpOps P ops Q tail (a.put o.dst undef) w) : wpOps P ops Q (k :: tail) a w := by
  simp only [wpOps, ho]
  split
  · rename_i hw
    rw [if_pos hw] at h
    exact .inl h
  · rename_i hw
    rw [if_neg hw] at h
    exact h

theorem range_sound {Γ : Env} (hΓ : Sound P Γ) {ops : Array Oper} {Q : Exit → Act → World → Prop} {tail : List Nat} : ∀ (l : List Oper) (k : Nat), (∀ j, j < l.length → l[j]? = ops[k + j]?) →
    ∀ {w : World} {a : Act} {σ σ' : St} {tk : Places}, Rel P w0 pr A n w a.tmps σ tk → runs Γ (l.map (dStm P fr n ops)) σ = some σ' →
    (∀ a' w' tk', a'.defers = a.defers → Rel P w0 pr A n w' a'.tmps σ' tk' → wpOps P ops Q tail a' w') → wpOps P ops Q (List.range' k l.length ++ tail) a w
  | [], k, _, w, a, σ, σ', tk, R, hr, hQ => by
    cases hr
    exact hQ a w tk rfl R
  | o :: l, k, hl, w, a, σ, σ', tk, R, hr, hQ => by
    simp only [List.map_cons, runs] at hr
    rw [Option.bind_eq_some_iff] at hr
    obtain ⟨σ1, h1, h2⟩ := hr
    have ho : ops[k]? = some o := by have := hl 0 (by simp); simpa using this.symm
    have := stm_sound hΓ R h1 (wpOps P ops Q (List.range' (k + 1) l.length ++ tail)) Q fun a' w' tk' hdf R' =>
      range_sound hΓ l (k + 1) (fun j hj => by have := hl (j + 1) (by simpa using hj); simpa [Nat.add_assoc, Nat.add_comm 1 j] using this) R' h2 fun a2 w2 t2 hdf2 R2 => hQ a2 w2 t2 (hdf2.trans hdf) R2
    exact wpOps_cons ho this

/-- The step of a loop over a map. -/
theorem nxt_sound {o : Oper} {x : Nat} {ga : VArg} {K : St → Prop} (hd : dNxt n o = some (.nxt x ga)) (R : Rel P w0 pr A n w a.tmps σ tk) (h : nxtOK x (ga.val σ.s) K σ) (next : Act → World → Prop) (Q : Exit → Act → World → Prop)
    (hn : ∀ a' w' σ', a'.defers = a.defers → Rel P w0 pr A n w' a'.tmps σ' tk → K σ' → next a' w') : o.wp P a w next Q := by
  obtain ⟨x', it, ga', _, ho, hdst, hx, hga, e⟩ := dNxt_spec hd
  cases e
  obtain ⟨v, w', σ', h1, R', hK⟩ := rel_nxt (ty := o.type) R hx (dArg_rep R hga) h
  unfold Oper.wp
  rw [show (execOp a.eval o).run P w = .ok (.value v) w' by simp [execOp, ho, h1], Oper.upon_value, hdst]
  exact hn _ _ _ rfl R' hK

theorem region_sound {Γ : Env} (hΓ : Sound P Γ) {ops : Array Oper} {id : Nat} {Q : Exit → Act → World → Prop} {σ' : St} (R : Rel P w0 pr A n w a.tmps σ tk)
    (hr : runs Γ (dReg P fr n ops) σ = some σ') (hQ : ∀ a' w' tk', a'.defers = a.defers → Rel P w0 pr A n w' a'.tmps σ' tk' → Q .normal a' w') :
    (Code.region id ops false).wp P Q a w := by
  apply wp_region
  have := range_sound (Q := Q) (tail := []) hΓ ops.toList 0 (by simp) R hr hQ
  rw [List.range_eq_range']
  simpa using this
end
end Go.Proofs.Ytpmgaaalfdjikaa
