/- The H semantics: which statements may change places. Lemmas; no condition. -/
import Derived.Test.YtpmgaaalfdjikaaHh
namespace Go.Proofs.Ytpmgaaalfdjikaa
open Go.RowKit

def VArg.reads : VArg → List Nat
  | .t i => [i]
  | .c _ => []
def guardReads : Option (Nat × Bool) → List Nat
  | some (j, _) => [j]
  | none => []
def Eff.reads : Eff → List Nat
  | .box _ a => a.reads
  | .store _ a v => a.reads ++ v.reads
  | .app _ _ _ a b => a.reads ++ b.reads
  | .mks _ _ _ _ a b => a.reads ++ b.reads
  | .lit _ _ _ _ _ _ args => args.flatMap VArg.reads
  | .callq _ _ args => args.flatMap VArg.reads
  | .callm _ _ args => args.flatMap VArg.reads
  | .mkm _ => []
  | .rng _ a => a.reads
  | .mupd _ a k v => a.reads ++ k.reads ++ v.reads
def VStm.reads : VStm → List Nat
  | .op _ _ args g => args.flatMap VArg.reads ++ guardReads g
  | .eff e g => e.reads ++ guardReads g
  | .nxt _ a => a.reads
  | .bad => []
def VStm.dst : VStm → Option Nat
  | .op x .. | .nxt x _ => some x
  | .eff e _ => e.dst
  | .bad => none
def PK.readsMem : PK → Bool
  | .load .. | .call _ | .ccall | .slc .. | .lkp .. | .ent => true
  | _ => false
/-- What makes memory and changes none. -/
def Eff.news : Eff → Bool
  | .box .. | .mks .. | .lit .. | .callq .. | .mkm _ | .rng .. => true
  | _ => false
def VStm.news : VStm → Bool
  | .eff e _ => e.news
  | _ => false
def apart (a b : VStm) : Bool :=
  (match a.dst with | some x => !b.reads.contains x | none => true) && (match b.dst with | some y => !a.reads.contains y | none => true) && (match a.dst, b.dst with | some x, some y => x != y | _, _ => true)
/-- 'a' may go ahead of 'b', or behind it. -/
def indep (a b : VStm) : Bool :=
  apart a b && match a with
  | .op _ k _ _ => (match b with | .op .. => true | _ => false) || b.news || !k.readsMem
  | _ => false

def WF (σ : St) : Prop := ∀ x k r, σ.c x ≤ k → σ.m ((x + 1) :: k :: r) = none
def MSub (m m' : Mem) : Prop := ∀ t o, m t = some o → m' t = some o

section
variable {Γ : Env}

theorem val_congr {s s' : Nat → D} {g : VArg} (h : ∀ j ∈ g.reads, s' j = s j) : g.val s' = g.val s := by
  cases g with
  | t i => exact h i (by simp [VArg.reads])
  | c d => rfl
theorem vals_congr {s s' : Nat → D} {gs : List VArg} (h : ∀ j ∈ gs.flatMap VArg.reads, s' j = s j) : gs.map (VArg.val s') = gs.map (VArg.val s) :=
  List.map_congr_left fun g hg => val_congr fun j hj => h j (List.mem_flatMap.2 ⟨g, hg, hj⟩)

theorem elems_mono {m m' : Mem} (h : MSub m m') {d : D} {es : List (List D)} (he : d.elems m = some es) : d.elems m' = some es := by
  cases d <;> simp only [D.elems] at he ⊢ <;> try exact he
  rename_i t size off len lim
  split at he
  · rename_i g e es0 hm
    rw [h _ _ hm]
    exact he
  · rename_i xs hm
    rw [h _ _ hm]
    exact he
  · cases he

theorem mapM_mono {f g : D → Option D} (h : ∀ d d', f d = some d' → g d = some d') : ∀ {l l' : List D}, l.mapM f = some l' → l.mapM g = some l'
  | [], l', e => by simpa using e
  | a :: l, l', e => by
    simp only [List.mapM_cons, Option.bind_eq_bind, Option.bind_eq_some_iff, Option.pure_def, Option.some.injEq] at e ⊢
    obtain ⟨b, hb, r, hr, rfl⟩ := e
    exact ⟨b, h _ _ hb, r, mapM_mono h hr, rfl⟩
theorem viewRow_mono {f g : D → Option D} (h : ∀ d d', f d = some d' → g d = some d') {c c' : List D} (e : viewRow f c = some c') : viewRow g c = some c' := by
  unfold viewRow at e ⊢
  split at e
  · rename_i hc; rw [if_pos hc]; exact e
  · rename_i hc; rw [if_neg hc]; exact mapM_mono h e
theorem viewRows_mono {f g : D → Option D} (h : ∀ d d', f d = some d' → g d = some d') {c c' : List (List D)} (e : viewRows f c = some c') : viewRows g c = some c' := by
  unfold viewRows at e ⊢
  split at e
  · rename_i hc; rw [if_pos hc]; exact e
  · rename_i hc
    rw [if_neg hc]
    have : ∀ {l l' : List (List D)}, l.mapM (viewRow f) = some l' → l.mapM (viewRow g) = some l' := by
      intro l
      induction l with
      | nil => intro l' e; simpa using e
      | cons a l ih =>
        intro l' e
        simp only [List.mapM_cons, Option.bind_eq_bind, Option.bind_eq_some_iff, Option.pure_def, Option.some.injEq] at e ⊢
        obtain ⟨b, hb, r, hr, rfl⟩ := e
        exact ⟨b, viewRow_mono h hb, r, ih hr, rfl⟩
    exact this e
theorem viewC_mono {m m' : Mem} (h : MSub m m') : ∀ (n : Nat) (d d' : D), viewC m n d = some d' → viewC m' n d = some d'
  | 0, _, _, e => by simp [viewC] at e
  | n + 1, d, d', e => by
    have ih := viewC_mono h n
    cases d <;> simp only [viewC] at e ⊢ <;> try exact e
    case sl t size off len lim =>
      rw [Option.bind_eq_some_iff] at e ⊢
      obtain ⟨es, he, e⟩ := e
      obtain ⟨es', hv, rfl⟩ := Option.map_eq_some_iff.1 e
      exact ⟨es, elems_mono h he, by rw [viewRows_mono ih hv]; rfl⟩
    case ptr t off =>
      split at e
      · rename_i xs hm
        rw [h _ _ hm]
        split at e
        · rename_i hc
          obtain ⟨c', hv, rfl⟩ := Option.map_eq_some_iff.1 e
          simp only [if_pos hc, viewRow_mono ih hv, Option.map_some]
        · cases e
      · cases e
    case rptr t size i j =>
      split at e
      · rename_i g e0 es hm
        rw [h _ _ hm]
        rw [Option.bind_eq_some_iff] at e
        obtain ⟨c, hc, e⟩ := e
        split at e
        · rename_i hcond
          obtain ⟨c', hv, rfl⟩ := Option.map_eq_some_iff.1 e
          simp only [hc, Option.bind_some, if_pos hcond, viewRow_mono ih hv, Option.map_some]
        · cases e
      · cases e
    case clo f xs =>
      obtain ⟨c', hv, rfl⟩ := Option.map_eq_some_iff.1 e
      rw [viewRow_mono ih hv]; rfl
theorem viewA_mono {m m' : Mem} (h : MSub m m') {d d' : D} (e : viewA m d = some d') : viewA m' d = some d' := by
  cases d
  case agg xs =>
    obtain ⟨c', hv, rfl⟩ := Option.map_eq_some_iff.1 e
    simp only [viewA, viewRow_mono (viewC_mono h 6) hv, Option.map_some]
  all_goals (simp only [viewA] at e ⊢; exact viewC_mono h 6 _ d' e)
theorem callV_mono {m m' : Mem} (h : MSub m m') {f : Nat} {ds : List D} {d : D} (e : callV Γ m f ds = some d) : callV Γ m' f ds = some d := by
  unfold callV at e ⊢
  rw [Option.bind_eq_some_iff] at e ⊢
  obtain ⟨as, ha, e⟩ := e
  exact ⟨as, mapM_mono (fun _ _ => viewA_mono h) ha, e⟩
theorem run_mono_mem {m m' : Mem} (h : MSub m m') {k : PK} {ds : List D} {d : D} (e : k.run Γ m ds = some d) : k.run Γ m' ds = some d := by
  cases k <;> try exact e
  case load n agg =>
    simp only [PK.run] at e ⊢
    unfold loadV at e ⊢
    split at e
    · exact e
    · split at e
      · rename_i xs hm
        simp only [h _ _ hm]
        exact e
      · cases e
    · split at e
      · rename_i g e0 es hm
        simp only [h _ _ hm]
        exact e
      · cases e
    · cases e
  case slc size lo hi mx =>
    simp only [PK.run] at e ⊢
    unfold slcV at e ⊢
    split at e
    · rename_i t size' off len lim r
      rw [Option.bind_eq_some_iff] at e ⊢
      obtain ⟨l, hl, e⟩ := e
      refine ⟨l, hl, ?_⟩
      rw [Option.bind_eq_some_iff] at e ⊢
      obtain ⟨q, hq, e⟩ := e
      refine ⟨q, hq, ?_⟩
      split at e
      · rename_i hc
        obtain ⟨h1, h2, h3, h4⟩ := hc
        rw [if_pos ⟨h1, h2, h3.imp id (fun hr => by
          unfold roomV at hr ⊢
          split at hr
          · rename_i hm; rw [h _ _ hm]; exact hr
          · cases hr), h4⟩]
        exact e
      · cases e
    · exact e
    · cases e
  case lkp ks z ok =>
    simp only [PK.run] at e ⊢
    unfold lkpV at e ⊢
    split at e
    · split at e
      · rename_i hm
        simp only [h _ _ hm]
        exact e
      · cases e
    · cases e
  case ent =>
    simp only [PK.run] at e ⊢
    unfold entV at e ⊢
    split at e
    · split at e
      · rename_i hm
        split at e
        · rename_i hm2
          simp only [h _ _ hm, h _ _ hm2]
          exact e
        · cases e
      · cases e
    · cases e
  case call f => exact callV_mono h e
  case ccall =>
    simp only [PK.run, ccallV] at e ⊢
    split at e
    · exact callV_mono h e
    · cases e
theorem run_mem_any {m m' : Mem} {k : PK} (hk : k.readsMem = false) (ds : List D) : k.run Γ m ds = k.run Γ m' ds := by
  cases k <;> first | rfl | (simp [PK.readsMem] at hk; done)

theorem St.ext' {σ τ : St} (h1 : σ.s = τ.s) (h2 : σ.m = τ.m) (h3 : σ.c = τ.c) : σ = τ := by
  cases σ; cases τ; simp only at h1 h2 h3; subst h1; subst h2; subst h3; rfl

theorem set_set {σ : St} {x y : Nat} {d e : D} (h : x ≠ y) : (σ.set x d).set y e = (σ.set y e).set x d := by
  refine St.ext' ?_ rfl rfl
  funext j
  simp only [St.set]
  by_cases hj : j = y
  · subst hj; simp [Ne.symm h]
  · simp [hj]

theorem St.set_val {σ : St} {x : Nat} {d : D} {g : VArg} (h : x ∉ g.reads) : g.val (σ.set x d).s = g.val σ.s :=
  val_congr fun _ hj => St.set_ne _ _ fun e => h (e ▸ hj)
theorem St.set_vals {σ : St} {x : Nat} {d : D} {gs : List VArg} (h : x ∉ gs.flatMap VArg.reads) : gs.map (VArg.val (σ.set x d).s) = gs.map (VArg.val σ.s) :=
  vals_congr fun _ hj => St.set_ne _ _ fun e => h (e ▸ hj)
theorem guard_congr {σ τ : St} {g : Option (Nat × Bool)} (h : ∀ j want, g = some (j, want) → τ.s j = σ.s j) : guardV τ g = guardV σ g := by
  cases g with
  | none => rfl
  | some q => obtain ⟨j, want⟩ := q; simp only [guardV, h j want rfl]

theorem St.new_set {σ : St} {x y : Nat} {o : HO} {d e : D} (h : x ≠ y) : (σ.set x d).new y o e = (σ.new y o e).set x d := by
  refine St.ext' ?_ rfl rfl
  funext j
  simp only [St.new, St.inc_s, St.set, St.put_s]
  by_cases hj : j = y
  · subst hj; simp [Ne.symm h]
  · simp [hj]
theorem St.new_s {σ : St} {y j : Nat} {o : HO} {e : D} (h : j ≠ y) : (σ.new y o e).s j = σ.s j := by simp [St.new, St.set, h]

@[simp] theorem St.tok_set {σ : St} {x y : Nat} {d : D} : (σ.set x d).tok y = σ.tok y := rfl

/-- A slot that a statement does not look at, and does not write. -/
theorem frame_eff {b : Eff} {σ σ2 : St} {x : Nat} {d : D} (h : b.run Γ (σ.set x d) = some σ2) (h1 : x ∉ b.reads) (h2 : b.dst ≠ some x) :
    ∃ σ3, b.run Γ σ = some σ3 ∧ σ2 = σ3.set x d ∧ ∀ j, b.dst ≠ some j → σ3.s j = σ.s j := by
  cases b with
  | box y a =>
    have hy : x ≠ y := fun e => h2 (by simp [Eff.dst, e])
    simp only [Eff.run, St.set_val (show x ∉ a.reads from h1)] at h ⊢
    unfold boxV at h ⊢
    simp only [St.tok_set] at h
    split at h <;> cases h
    rename_i hc
    exact ⟨_, by rw [if_pos hc], St.new_set hy, fun j hj => St.new_s fun e => hj (by simp [Eff.dst, e])⟩
  | store k a v =>
    simp only [Eff.reads, List.mem_append, not_or] at h1
    simp only [Eff.run, St.set_val h1.1, St.set_val h1.2] at h ⊢
    generalize a.val σ.s = av at h ⊢
    generalize v.val σ.s = vv at h ⊢
    unfold storeV at h ⊢
    split at h
    · simp only [St.set_m] at h
      split at h
      · split at h <;> cases h
        rename_i hc
        exact ⟨_, if_pos hc, rfl, fun _ _ => rfl⟩
      · cases h
    · simp only [St.set_m] at h
      split at h
      · rw [Option.bind_eq_some_iff] at h
        obtain ⟨c, hc, h⟩ := h
        split at h <;> cases h
        rename_i hcc
        rw [hc]
        exact ⟨_, if_pos hcc, rfl, fun _ _ => rfl⟩
      · cases h
    · cases h
  | app y e size a b =>
    simp only [Eff.reads, List.mem_append, not_or] at h1
    have hy : x ≠ y := fun e => h2 (by simp [Eff.dst, e])
    simp only [Eff.run, St.set_val h1.1, St.set_val h1.2] at h ⊢
    generalize a.val σ.s = av at h ⊢
    generalize b.val σ.s = bv at h ⊢
    unfold appV at h ⊢
    simp only [St.set_m, St.tok_set] at h
    rw [Option.bind_eq_some_iff] at h
    obtain ⟨es, hes, h⟩ := h
    simp only [hes, Option.bind_some]
    split at h
    · cases h
    rename_i hall
    rw [if_neg hall]
    have fin : ∀ {σ3 : St}, σ2 = σ3.set x d → (∀ j, j ≠ y → σ3.s j = σ.s j) → ∃ σ4, some σ3 = some σ4 ∧ σ2 = σ4.set x d ∧ ∀ j, (Eff.app y e size a b).dst ≠ some j → σ4.s j = σ.s j := fun {σ3} e1 e2 => ⟨σ3, rfl, e1, fun j hj => e2 j fun e => hj (by simp [Eff.dst, e])⟩
    split at h
    · split at h
      · rename_i h0
        cases h
        simp only [h0, if_true]
        exact fin (set_set hy) fun j hj => St.set_ne _ _ hj
      · rename_i h0
        split at h <;> cases h
        rename_i hc
        simp only [h0, hc, if_true, Bool.false_eq_true, if_false]
        exact fin (St.new_set hy) fun j hj => St.new_s hj
    · split at h
      · rename_i h0
        cases h
        simp only [h0, if_true]
        exact fin (set_set hy) fun j hj => St.set_ne _ _ hj
      · rename_i h0
        split at h
        · simp only [h0, Bool.false_eq_true, if_false]
          split at h
          · rename_i hcond
            rw [if_pos hcond]
            split at h
            · split at h <;> cases h
              rename_i hoff
              simp only [hoff, if_true]
              exact fin (by rw [show (σ.set x d).strike _ _ = (σ.strike _ _).set x d from rfl]; exact St.new_set hy) fun j hj => by rw [St.new_s hj]; rfl
            · split at h <;> cases h
              rename_i hlt
              simp only [hlt, if_true]
              exact fin (St.new_set hy) fun j hj => St.new_s hj
          · cases h
        · cases h
    · cases h
  | mks y e size zero a b =>
    simp only [Eff.reads, List.mem_append, not_or] at h1
    have hy : x ≠ y := fun e => h2 (by simp [Eff.dst, e])
    simp only [Eff.run, St.set_val h1.1, St.set_val h1.2] at h ⊢
    generalize a.val σ.s = av at h ⊢
    generalize b.val σ.s = bv at h ⊢
    unfold mksV at h ⊢
    simp only [St.tok_set] at h
    split at h
    · split at h <;> cases h
      rename_i hc
      exact ⟨_, by rw [if_pos hc], St.new_set hy, fun j hj => St.new_s fun e => hj (by simp [Eff.dst, e])⟩
    · cases h
  | lit y e size len zero places args =>
    have hy : x ≠ y := fun e => h2 (by simp [Eff.dst, e])
    simp only [Eff.run, St.set_vals (show x ∉ args.flatMap VArg.reads from h1)] at h ⊢
    unfold litV at h ⊢
    simp only [St.tok_set] at h
    split at h
    · rename_i hall
      rw [if_pos hall]
      rw [Option.bind_eq_some_iff] at h
      obtain ⟨cs, hcs, h⟩ := h
      simp only [hcs, Option.bind_some]
      split at h <;> cases h
      rename_i hc
      exact ⟨_, by rw [if_pos hc], St.new_set hy, fun j hj => St.new_s fun e => hj (by simp [Eff.dst, e])⟩
    · cases h
  | callq y f args =>
    have hy : x ≠ y := fun e => h2 (by simp [Eff.dst, e])
    simp only [Eff.run, St.set_vals (show x ∉ args.flatMap VArg.reads from h1)] at h ⊢
    unfold callqV at h ⊢
    simp only [St.set_m] at h
    rw [Option.bind_eq_some_iff] at h
    obtain ⟨as, has, h⟩ := h
    obtain ⟨q, hq, rfl⟩ := Option.map_eq_some_iff.1 h
    refine ⟨σ.adopt y q.1 q.2, by simp only [has, Option.bind_some, hq, Option.map_some], ?_, fun j hj => ?_⟩
    · refine St.ext' ?_ rfl rfl
      funext j
      simp only [St.adopt, St.set]
      by_cases hj : j = y
      · subst hj; simp [Ne.symm hy]
      · simp [hj]
    · have : j ≠ y := fun e => hj (by simp [Eff.dst, e])
      simp [St.adopt, this]
  | callm y f args =>
    have hy : x ≠ y := fun e => h2 (by simp [Eff.dst, e])
    simp only [Eff.run, St.set_vals (show x ∉ args.flatMap VArg.reads from h1)] at h ⊢
    unfold callmV at h ⊢
    simp only [St.set_m] at h
    split at h
    · rename_i hall
      rw [if_pos hall]
      obtain ⟨q, hq, rfl⟩ := Option.map_eq_some_iff.1 h
      refine ⟨σ.adoptM y q.1 q.2, by simp only [hq, Option.map_some], ?_, fun j hj => ?_⟩
      · refine St.ext' ?_ rfl rfl
        funext j
        simp only [St.adoptM, St.set]
        by_cases hj : j = y
        · subst hj; simp [Ne.symm hy]
        · simp [hj]
      · have : j ≠ y := fun e => hj (by simp [Eff.dst, e])
        simp [St.adoptM, this]
    · cases h
  | mkm y =>
    have hy : x ≠ y := fun e => h2 (by simp [Eff.dst, e])
    cases h
    exact ⟨_, rfl, St.new_set hy, fun j hj => St.new_s fun e => hj (by simp [Eff.dst, e])⟩
  | rng y a =>
    have hy : x ≠ y := fun e => h2 (by simp [Eff.dst, e])
    simp only [Eff.run, St.set_val (show x ∉ a.reads from h1)] at h ⊢
    generalize a.val σ.s = av at h ⊢
    unfold rngV at h ⊢
    split at h
    · simp only [St.set_m, St.tok_set] at h
      split at h <;> cases h
      exact ⟨_, rfl, St.new_set hy, fun j hj => St.new_s fun e => hj (by simp [Eff.dst, e])⟩
    · cases h
  | mupd ks a k v =>
    simp only [Eff.reads, List.mem_append, not_or] at h1
    simp only [Eff.run, St.set_val h1.1.1, St.set_val h1.1.2, St.set_val h1.2] at h ⊢
    generalize a.val σ.s = av at h ⊢
    generalize k.val σ.s = kv at h ⊢
    generalize v.val σ.s = vv at h ⊢
    unfold mupdV at h ⊢
    split at h
    · simp only [St.set_m] at h
      split at h
      · split at h
        · rename_i hm hok
          rw [if_pos hok]
          rw [Option.bind_eq_some_iff] at h
          obtain ⟨r, hr, h⟩ := h
          simp only [hr, Option.bind_some]
          split at h
          · obtain ⟨p, hp, rfl⟩ := Option.map_eq_some_iff.1 h
            simp only [hp, Option.map_some]
            exact ⟨_, rfl, rfl, fun _ _ => rfl⟩
          · split at h <;> cases h
            rename_i hlt
            exact ⟨_, if_pos hlt, rfl, fun _ _ => rfl⟩
        · cases h
      · cases h
    · cases h

theorem frame_set {b : VStm} {σ σ2 : St} {x : Nat} {d : D} (h : b.run Γ (σ.set x d) = some σ2) (h1 : x ∉ b.reads) (h2 : b.dst ≠ some x) :
    ∃ σ3, b.run Γ σ = some σ3 ∧ σ2 = σ3.set x d ∧ ∀ j, b.dst ≠ some j → σ3.s j = σ.s j := by
  cases b with
  | op y k args g =>
    simp only [VStm.reads, List.mem_append, not_or] at h1
    have hy : x ≠ y := fun e => h2 (by simp [VStm.dst, e])
    have hg : guardV (σ.set x d) g = guardV σ g := guard_congr fun j want e => St.set_ne _ _ fun e2 => h1.2 (by simp [guardReads, e, e2])
    simp only [VStm.run, hg, opV, St.set_m, St.set_vals h1.1] at h ⊢
    rw [Option.bind_eq_some_iff] at h
    obtain ⟨c, hc, h⟩ := h
    rw [hc]
    cases c
    · simp only [cond_false, Option.some.injEq] at h
      exact ⟨σ.set y (.tup []), by simp, by rw [← h]; exact set_set hy, fun j hj => St.set_ne _ _ fun e => hj (by simp [VStm.dst, e])⟩
    · simp only [cond_true] at h
      obtain ⟨v, hv, rfl⟩ := Option.map_eq_some_iff.1 h
      exact ⟨_, by simp [hv], set_set hy, fun j hj => St.set_ne _ _ fun e => hj (by simp [VStm.dst, e])⟩
  | eff e g =>
    simp only [VStm.reads, List.mem_append, not_or] at h1
    have hg : guardV (σ.set x d) g = guardV σ g := guard_congr fun j want e => St.set_ne _ _ fun e2 => h1.2 (by simp [guardReads, e, e2])
    simp only [VStm.run, hg] at h ⊢
    rw [Option.bind_eq_some_iff] at h
    obtain ⟨c, hc, h⟩ := h
    rw [hc]
    cases c
    · simp only [cond_false, Option.some.injEq] at h
      subst h
      refine ⟨σ.void e.dst, rfl, ?_, fun j hj => ?_⟩
      · cases hd : e.dst with
        | none => rfl
        | some y => exact set_set fun e2 => h2 (by simp [VStm.dst, hd, e2])
      · cases hd : e.dst with
        | none => rfl
        | some y => exact St.set_ne _ _ fun e2 => hj (by simp [VStm.dst, hd, e2])
    · exact frame_eff h h1.1 h2
  | nxt y a => cases h
  | bad => cases h

/-- What an operation reads decides what it does. -/
theorem op_run_congr {x : Nat} {k : PK} {args : List VArg} {g : Option (Nat × Bool)} {σ σ' : St} (h : (VStm.op x k args g).run Γ σ = some σ') :
    ∃ d, σ' = σ.set x d ∧ ∀ τ : St, (∀ j ∈ (VStm.op x k args g).reads, τ.s j = σ.s j) → (MSub σ.m τ.m ∨ k.readsMem = false) → (VStm.op x k args g).run Γ τ = some (τ.set x d) := by
  have key : ∀ τ : St, (∀ j ∈ (VStm.op x k args g).reads, τ.s j = σ.s j) → args.map (VArg.val τ.s) = args.map (VArg.val σ.s) ∧ guardV τ g = guardV σ g := fun τ heq =>
    ⟨vals_congr fun j hj => heq j (by simp only [VStm.reads, List.mem_append]; exact .inl hj), guard_congr fun j want e => heq j (by simp [VStm.reads, guardReads, e])⟩
  simp only [VStm.run] at h
  rw [Option.bind_eq_some_iff] at h
  obtain ⟨b, hb, h⟩ := h
  cases b
  · simp only [cond_false, Option.some.injEq] at h
    refine ⟨_, h.symm, fun τ heq _ => ?_⟩
    simp only [VStm.run, (key τ heq).2, hb, Option.bind_some, cond_false]
  · simp only [cond_true, opV] at h
    obtain ⟨d, hd, rfl⟩ := Option.map_eq_some_iff.1 h
    refine ⟨d, rfl, fun τ heq hm => ?_⟩
    have hrun : k.run Γ τ.m (args.map (VArg.val σ.s)) = some d := by
      rcases hm with hm | hm
      · exact run_mono_mem hm hd
      · rw [run_mem_any hm (m' := σ.m)]; exact hd
    simp only [VStm.run, (key τ heq).2, hb, Option.bind_some, cond_true, opV, (key τ heq).1, hrun, Option.map_some]

theorem WF.tok {σ : St} (W : WF σ) (x : Nat) : σ.m (σ.tok x) = none := W x (σ.c x) [] (Nat.le_refl _)

theorem WF.sub {σ : St} (W : WF σ) {m : Mem} (h : MSub m σ.m) : WF ⟨σ.s, m, σ.c⟩ := fun x k r hk => by
  show m ((x + 1) :: k :: r) = none
  cases hm : m ((x + 1) :: k :: r) with
  | none => rfl
  | some o => have := h _ _ hm; rw [W x k r hk] at this; cases this

theorem WF.put {σ : St} (W : WF σ) {t : Tok} {o : Option HO} (h : σ.m t ≠ none) : WF (σ.put t o) := fun x k r hk => by
  simp only [St.put]
  split
  · rename_i e
    rw [← e, W x k r hk] at h
    exact absurd rfl h
  · exact W x k r hk

theorem WF.new {σ : St} (W : WF σ) (x : Nat) (o : HO) (d : D) : WF (σ.new x o d) := fun y k r hk => by
  simp only [St.new, St.inc, St.set, St.put] at hk ⊢
  have hne : (y + 1) :: k :: r ≠ σ.tok x := fun e => by
    simp only [St.tok, List.cons.injEq] at e
    obtain ⟨e1, e2, _⟩ := e
    have : y = x := by omega
    subst this
    rw [if_pos rfl] at hk
    omega
  rw [if_neg hne]
  refine W y k r ?_
  split at hk <;> omega

theorem WF.strike {σ : St} (W : WF σ) (g : Tok) (k : Nat) : WF (σ.strike g k) := W.sub fun _ _ h => (struck_some h).1
theorem MSub.strike (σ : St) (g : Tok) (k : Nat) : MSub (σ.strike g k).m σ.m := fun _ _ h => (struck_some h).1
theorem MSub.new {σ : St} (W : WF σ) (x : Nat) (o : HO) (d : D) : MSub σ.m (σ.new x o d).m := fun t q h => by
  have : t ≠ σ.tok x := fun e => by rw [e, W.tok] at h; cases h
  simp [St.new, St.put, this, h]

theorem WF.adopt {σ : St} (W : WF σ) (x : Nat) (d : D) (m' : Mem) : WF (σ.adopt x d m') := fun y k r hk => by
  simp only [St.adopt] at hk ⊢
  have hne : ¬ (y + 1 = x + 1 ∧ k = σ.c x) := fun e => by
    have : y = x := by omega
    subst this
    rw [if_pos rfl] at hk
    omega
  rw [if_neg hne]
  refine W y k r ?_
  split at hk <;> omega
theorem MSub.adopt {σ : St} (W : WF σ) (x : Nat) (d : D) (m' : Mem) : MSub σ.m (σ.adopt x d m').m := fun t q h => by
  match t, h with
  | [], h => exact h
  | [_], h => exact h
  | a :: b :: r, h =>
    simp only [St.adopt]
    rw [if_neg]
    · exact h
    · rintro ⟨rfl, rfl⟩
      rw [W x _ r (Nat.le_refl _)] at h
      cases h

theorem WF.adoptM {σ : St} (W : WF σ) (x : Nat) (d : D) (m' : Mem) : WF (σ.adoptM x d m') := fun y k r hk => by
  simp only [St.adoptM] at hk ⊢
  have hne : ¬ (y + 1 = x + 1 ∧ k = σ.c x) := fun e => by
    have : y = x := by omega
    subst this
    rw [if_pos rfl] at hk
    omega
  rw [if_neg hne, W y k r (by split at hk <;> omega)]
  rfl

/-- What a statement leaves of memory. -/
theorem eff_mem {st : Eff} {σ σ' : St} (W : WF σ) (h : st.run Γ σ = some σ') : WF σ' ∧ (st.news = true → MSub σ.m σ'.m) := by
  have fresh : ∀ x o d, σ.new x o d = σ' → WF σ' ∧ MSub σ.m σ'.m := fun x o d e => by subst e; exact ⟨W.new x o d, MSub.new W x o d⟩
  cases st with
  | box x a =>
    simp only [Eff.run, boxV] at h
    split at h
    · have := fresh _ _ _ (Option.some.inj h)
      exact ⟨this.1, fun _ => this.2⟩
    · cases h
  | store k a v =>
    refine ⟨?_, fun e => by simp [Eff.news] at e⟩
    simp only [Eff.run, storeV] at h
    split at h
    · split at h
      · rename_i hm
        split at h <;> cases h
        exact W.put (by rw [hm]; simp)
      · cases h
    · split at h
      · rename_i hm
        rw [Option.bind_eq_some_iff] at h
        obtain ⟨c, _, h⟩ := h
        split at h <;> cases h
        rename_i g0 e0 es0 _ _
        intro x k r hk
        simp only [St.put]
        split
        · rename_i e
          rw [← e, W x k r hk] at hm
          cases hm
        · exact W.strike _ _ x k r hk
      · cases h
    · cases h
  | app x e size a b =>
    refine ⟨?_, fun e => by simp [Eff.news] at e⟩
    simp only [Eff.run, appV] at h
    rw [Option.bind_eq_some_iff] at h
    obtain ⟨es, _, h⟩ := h
    split at h
    · cases h
    split at h
    · split at h
      · cases h; exact W
      · split at h <;> cases h
        exact W.new _ _ _
    · split at h
      · cases h; exact W
      · split at h
        · split at h
          · split at h
            · split at h <;> cases h
              exact (W.strike _ _).new _ _ _
            · split at h <;> cases h
              exact W.new _ _ _
          · cases h
        · cases h
    · cases h
  | mks x e size zero a b =>
    simp only [Eff.run, mksV] at h
    split at h
    · split at h
      · have := fresh _ _ _ (Option.some.inj h)
        exact ⟨this.1, fun _ => this.2⟩
      · cases h
    · cases h
  | lit x e size len zero places args =>
    simp only [Eff.run, litV] at h
    split at h
    · rw [Option.bind_eq_some_iff] at h
      obtain ⟨cs, _, h⟩ := h
      split at h
      · have := fresh _ _ _ (Option.some.inj h)
        exact ⟨this.1, fun _ => this.2⟩
      · cases h
    · cases h
  | callq x f args =>
    simp only [Eff.run, callqV] at h
    rw [Option.bind_eq_some_iff] at h
    obtain ⟨as, _, h⟩ := h
    obtain ⟨q, _, rfl⟩ := Option.map_eq_some_iff.1 h
    exact ⟨W.adopt _ _ _, fun _ => MSub.adopt W _ _ _⟩
  | callm x f args =>
    refine ⟨?_, fun e => by simp [Eff.news] at e⟩
    simp only [Eff.run, callmV] at h
    split at h
    · obtain ⟨q, hq, rfl⟩ := Option.map_eq_some_iff.1 h
      exact W.adoptM _ _ _
    · cases h
  | mkm x => exact ⟨(fresh _ _ _ (Option.some.inj h)).1, fun _ => (fresh _ _ _ (Option.some.inj h)).2⟩
  | rng x a =>
    simp only [Eff.run, rngV] at h
    split at h
    · split at h
      · have := fresh _ _ _ (Option.some.inj h)
        exact ⟨this.1, fun _ => this.2⟩
      · cases h
    · cases h
  | mupd ks a k v =>
    refine ⟨?_, fun e => by simp [Eff.news] at e⟩
    simp only [Eff.run, mupdV] at h
    split at h
    · split at h
      · rename_i hm
        split at h
        · rw [Option.bind_eq_some_iff] at h
          obtain ⟨r, _, h⟩ := h
          split at h
          · obtain ⟨p, _, rfl⟩ := Option.map_eq_some_iff.1 h
            exact W.put (by rw [hm]; simp)
          · split at h <;> cases h
            exact W.put (by rw [hm]; simp)
        · cases h
      · cases h
    · cases h

theorem run_mem {st : VStm} {σ σ' : St} (W : WF σ) (h : st.run Γ σ = some σ') : WF σ' ∧ (st.news = true → MSub σ.m σ'.m) ∧ ((match st with | .op .. => True | _ => False) → σ'.m = σ.m) := by
  cases st with
  | op x k args g =>
    obtain ⟨d, rfl, _⟩ := op_run_congr h
    exact ⟨W, fun e => by simp [VStm.news] at e, fun _ => rfl⟩
  | eff e g =>
    simp only [VStm.run] at h
    rw [Option.bind_eq_some_iff] at h
    obtain ⟨c, hc, h⟩ := h
    cases c
    · simp only [cond_false, Option.some.injEq] at h
      subst h
      refine ⟨?_, fun _ => ?_, fun e => e.elim⟩
      · cases e.dst <;> exact W
      · cases e.dst <;> exact fun _ _ h => h
    · obtain ⟨h1, h2⟩ := eff_mem W h
      exact ⟨h1, h2, fun e => e.elim⟩
  | nxt y a => cases h
  | bad => cases h

theorem commute {a b : VStm} {σ σ1 σ2 : St} (W : WF σ) (hi : indep a b = true) (h1 : a.run Γ σ = some σ1) (h2 : b.run Γ σ1 = some σ2) : ∃ σ3, b.run Γ σ = some σ3 ∧ a.run Γ σ3 = some σ2 := by
  simp only [indep, Bool.and_eq_true] at hi
  obtain ⟨hap, hk⟩ := hi
  cases a with
  | op x k args g =>
    simp only [apart, show (VStm.op x k args g).dst = some x from rfl, Bool.and_eq_true] at hap
    obtain ⟨⟨g1, g2⟩, g3⟩ := hap
    have hx1 : x ∉ b.reads := by simpa using g1
    have hx2 : b.dst ≠ some x := fun e => by rw [e] at g3; simp at g3
    obtain ⟨d, rfl, hcongr⟩ := op_run_congr h1
    obtain ⟨σ3, k1, rfl, k3⟩ := frame_set h2 hx1 hx2
    refine ⟨σ3, k1, hcongr σ3 (fun j hj => k3 j fun e => ?_) ?_⟩
    · rw [e] at g2
      simp only [Bool.not_eq_true', List.contains_eq_mem, decide_eq_false_iff_not] at g2
      exact g2 hj
    · simp only [Bool.or_eq_true, Bool.not_eq_true'] at hk
      obtain ⟨_, m1, m2⟩ := run_mem W k1
      rcases hk with (hk | hk) | hk
      · left
        cases b <;> try (cases hk; done)
        rw [m2 trivial]
        exact fun _ _ h => h
      · exact .inl (m1 hk)
      · exact .inr hk
  | _ => cases hk
end
end Go.Proofs.Ytpmgaaalfdjikaa
