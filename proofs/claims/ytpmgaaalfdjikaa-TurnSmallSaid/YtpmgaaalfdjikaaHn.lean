/- The H semantics: code whose regions are expressions; what must hold ahead of it. Lemmas; no condition. -/
import Derived.Test.YtpmgaaalfdjikaaHm
namespace Go.Proofs.Ytpmgaaalfdjikaa
open Go.RowKit

inductive CStm where
  | set (roots : List (Nat × VX)) (temps : List Nat)
  | stm (st : VStm)
  deriving Inhabited

def havoc (temps : List Nat) (s : St) : St := ⟨fun j => if temps.contains j then .undef else s.s j, s.m, s.c⟩
def evRoots (Γ : Env) (s : St) : List (Nat × VX) → St → Option St
  | [], s' => some s'
  | (i, x) :: r, s' => (ev Γ s x).bind fun d => evRoots Γ s r (s'.set i d)
def CStm.run (Γ : Env) : CStm → St → Option St
  | .set roots temps, s => evRoots Γ s roots (havoc temps s)
  | .stm st, s => st.run Γ s
def cruns (Γ : Env) : List CStm → St → Option St
  | [], s => some s
  | c :: r, s => (c.run Γ s).bind (cruns Γ r)

def toPOps : List VStm → List POp × List VStm
  | .op x k args g :: r => let q := toPOps r; (⟨x, k, args, g⟩ :: q.1, q.2)
  | r => ([], r)

def innerReads (l : List POp) : List Nat :=
  (List.range l.length).flatMap fun i => (oAt l i).stm.reads.filter fun t => (defIdx l i t).isSome

def rootsOf (total : List Nat) (l : List POp) : List Nat :=
  let inner := innerReads l
  ((List.range l.length).filter fun i => (oAt l i).g == none &&
    (decide (inner.count (oAt l i).x < total.count (oAt l i).x) || !(List.range l.length).any fun j => decide (i < j) && wants l j i)).map fun i => (oAt l i).x

def chunk (total : List Nat) (l : List POp) : List CStm :=
  if l.length ≤ 0 then [] else
  let roots := rootsOf total l
  if rowOK l roots then [.set (roots.map fun t => (t, envAt l l.length t)) (l.map POp.x)] else l.map fun o => .stm o.stm

def cmp (total : List Nat) : Nat → List VStm → List CStm
  | 0, sts => sts.map .stm
  | f + 1, sts =>
    let q := toPOps sts
    chunk total q.1 ++ match q.2 with
      | [] => []
      | st :: r => .stm st :: cmp total f r

inductive WC where
  | skip
  | reg (cs : List CStm)
  | drw (ss : List (List VStm))
  | nxt (x : Nat) (a : VArg)
  | bad
  | seq (a b : WC)
  | cond (c : VArg) (a b : WC)
  | block (id : Nat) (c : WC)
  | loop (c : WC)
  | exit (id : Nat)
  | ret
  deriving Inhabited

def VC.reads : VC → List Nat
  | .reg sts => sts.flatMap VStm.reads
  | .drw ss => ss.flatMap fun sts => sts.flatMap VStm.reads
  | .nxt _ a => a.reads
  | .seq a b => a.reads ++ b.reads
  | .cond c a b => c.reads ++ a.reads ++ b.reads
  | .block _ c | .loop c => c.reads
  | _ => []

def cmpC (total : List Nat) : VC → WC
  | .skip => .skip
  | .reg sts => .reg (cmp total sts.length sts)
  | .drw ss => .drw ss
  | .nxt x a => .nxt x a
  | .bad => .bad
  | .seq a b => .seq (cmpC total a) (cmpC total b)
  | .cond c a b => .cond c (cmpC total a) (cmpC total b)
  | .block id c => .block id (cmpC total c)
  | .loop c => .loop (cmpC total c)
  | .exit id => .exit id
  | .ret => .ret

def wwp (Γ : Env) : WC → (VE → St → Prop) → St → Prop
  | .skip, Q, s => Q .normal s
  | .reg cs, Q, s => ∃ s', cruns Γ cs s = some s' ∧ Q .normal s'
  | .drw ss, Q, s => ∃ s2, (∀ sts ∈ ss, ∃ s', runs Γ sts s = some s' ∧ Sub s2 s') ∧ Q .normal s2
  | .nxt x a, Q, s => nxtOK x (a.val s.s) (Q .normal) s
  | .bad, _, _ => False
  | .seq a b, Q, s => wwp Γ a (VE.thn (wwp Γ b Q) Q) s
  | .cond c a b, Q, s => ∃ x, c.val s.s = .v (.bool x) ∧ (x = true → wwp Γ a Q s) ∧ (x = false → wwp Γ b Q s)
  | .block id c, Q, s => wwp Γ c (VE.blk id Q) s
  | .loop c, Q, s => ∃ (I : St → Prop) (μ : St → Nat), I s ∧ ∀ s, WF s → I s → wwp Γ c (VE.thn (fun s' => I s' ∧ μ s' < μ s) Q) s
  | .exit id, Q, s => Q (.exit id) s
  | .ret, Q, s => Q .ret s

section
variable {Γ : Env}

theorem Sub.refl (s : St) : Sub s s := ⟨fun _ => .inr rfl, rfl, rfl⟩
theorem Sub.trans {a b c : St} (h : Sub a b) (k : Sub b c) : Sub a c := ⟨fun i => by
  rcases h.1 i with e | e
  · exact .inl e
  · rcases k.1 i with e2 | e2
    · exact .inl (e.trans e2)
    · exact .inr (e.trans e2), h.2.1.trans k.2.1, h.2.2.trans k.2.2⟩
theorem Sub.set {s σ : St} (h : Sub s σ) (i : Nat) {d d' : D} (hd : d = .undef ∨ d = d') : Sub (s.set i d) (σ.set i d') := ⟨fun j => by
  by_cases e : j = i
  · subst e; rw [St.set_same, St.set_same]; exact hd
  · rw [St.set_ne _ _ e, St.set_ne _ _ e]; exact h.1 j, h.2.1, h.2.2⟩
theorem Sub.eq_mem {s σ : St} (h : Sub s σ) : σ = ⟨σ.s, s.m, s.c⟩ := by
  obtain ⟨_, h2, h3⟩ := h
  cases σ
  simp only at h2 h3
  subst h2; subst h3
  rfl

/-- A list that knows less. -/
inductive SubL : List D → List D → Prop
  | nil : SubL [] []
  | cons {d d' : D} {l l' : List D} (h : d = .undef ∨ d = d') (hl : SubL l l') : SubL (d :: l) (d' :: l')

theorem SubL.eq {l l' : List D} (h : SubL l l') (hn : ∀ d ∈ l, d ≠ .undef) : l = l' := by
  induction h with
  | nil => rfl
  | cons h hl ih =>
    rcases h with e | e
    · exact absurd e (hn _ List.mem_cons_self)
    · rw [e, ih fun d hd => hn d (List.mem_cons_of_mem _ hd)]
theorem subL_args {s σ : St} (h : Sub s σ) : ∀ (as : List VArg), SubL (as.map (VArg.val s.s)) (as.map (VArg.val σ.s))
  | [] => .nil
  | a :: as => .cons (by cases a with | t i => exact h.1 i | c d => exact .inr rfl) (subL_args h as)

theorem all_ne {p : D → Bool} {ds : List D} (h : ds.all p = true) (hp : p .undef = false) : ∀ d ∈ ds, d ≠ .undef := fun d hd e => by
  have := List.all_eq_true.1 h d hd
  rw [e, hp] at this; cases this

theorem mapM_ne {f : D → Option D} (hf : f .undef = none) : ∀ {l l' : List D}, l.mapM f = some l' → ∀ d ∈ l, d ≠ .undef
  | [], _, _ => by simp
  | a :: l, l', e => by
    simp only [List.mapM_cons, Option.bind_eq_bind, Option.bind_eq_some_iff, Option.pure_def, Option.some.injEq] at e
    obtain ⟨b, hb, r, hr, _⟩ := e
    intro d hd
    rcases List.mem_cons.1 hd with h | hd
    · rw [h]; intro e; rw [e, hf] at hb; cases hb
    · exact mapM_ne hf hr d hd

theorem callV_ne {m : Mem} {f : Nat} {ds : List D} {d : D} (h : callV Γ m f ds = some d) : ∀ d ∈ ds, d ≠ .undef := by
  unfold callV at h
  rw [Option.bind_eq_some_iff] at h
  obtain ⟨as, ha, _⟩ := h
  exact mapM_ne (by simp [viewA, viewC]) ha

theorem intsV_ne : ∀ {ds : List D} {l : List Int}, intsV ds = some l → ¬ D.undef ∈ ds
  | [], _, _, h => by simp at h
  | d :: r, l, h, hx => by
    unfold intsV at h
    split at h
    · rename_i hh; cases hh
    · rename_i k n r' hh
      cases hh
      obtain ⟨l', h1, _⟩ := Option.map_eq_some_iff.1 h
      rcases List.mem_cons.1 hx with e | hx
      · cases e
      · exact intsV_ne h1 hx
    · cases h

theorem run_ne {m : Mem} {k : PK} {ds : List D} {d : D} (h : k.run Γ m ds = some d) (h1 : k ≠ .mv) (h2 : k ≠ .pick) : ∀ x ∈ ds, x ≠ .undef := by
  intro x hx e
  subst e
  cases k with
  | mv => exact h1 rfl
  | pick => exact h2 rfl
  | call f => exact callV_ne h _ hx rfl
  | ccall =>
    simp only [PK.run] at h
    unfold ccallV at h
    split at h
    · rename_i f caps ds'
      rcases List.mem_cons.1 hx with e | hx
      · cases e
      · exact callV_ne h _ (List.mem_append_left _ hx) rfl
    · cases h
  | build zero places =>
    simp only [PK.run, buildV] at h
    split at h
    · rename_i hc
      exact all_ne hc rfl _ hx rfl
    · cases h
  | clo f =>
    simp only [PK.run, cloV] at h
    split at h
    · rename_i hc
      exact all_ne hc rfl _ hx rfl
    · cases h
  | chk =>
    simp only [PK.run] at h
    unfold chkV at h
    split at h <;> first | (cases h; done) | (simp at hx; done)
  | slc size lo hi mx =>
    simp only [PK.run] at h
    unfold slcV at h
    split at h
    · rw [Option.bind_eq_some_iff] at h
      obtain ⟨l, hl, h⟩ := h
      rcases List.mem_cons.1 hx with e | hx
      · cases e
      · exact intsV_ne hl hx
    · rename_i d0 r
      rw [Option.bind_eq_some_iff] at h
      obtain ⟨es, hes, h⟩ := h
      split at h
      · cases h
      · rw [Option.bind_eq_some_iff] at h
        obtain ⟨l, hl, h⟩ := h
        rcases List.mem_cons.1 hx with e | hx
        · subst e; cases hes
        · exact intsV_ne hl hx
    · cases h
  | aeq neg ks =>
    simp only [PK.run] at h
    unfold aeqV at h
    split at h <;> first | (cases h; done) | (simp at hx; done)
  | snil neg =>
    simp only [PK.run] at h
    unfold snilV at h
    split at h
    · rename_i d0
      simp only [List.mem_cons, List.not_mem_nil, or_false] at hx
      rcases hx with hx | hx
      · subst hx; simp at h
      · cases hx
    · cases h
  | sop => simp [PK.run] at h
  | sla n lo hi =>
    simp only [PK.run] at h
    unfold slaV at h
    split at h
    · rw [Option.bind_eq_some_iff] at h
      obtain ⟨l, hl, h⟩ := h
      rcases List.mem_cons.1 hx with e | hx
      · cases e
      · exact intsV_ne hl hx
    · cases h
  | lkp ks z ok =>
    simp only [PK.run] at h
    unfold lkpV at h
    split at h
    · simp only [List.mem_cons, List.not_mem_nil, or_false] at hx
      rcases hx with hx | hx
      · cases hx
      · subst hx
        split at h
        · rw [if_neg (by simp [D.okM])] at h; cases h
        · cases h
    · cases h
  | ent =>
    simp only [PK.run] at h
    unfold entV at h
    split at h <;> first | (cases h; done) | (simp at hx; done)
  | llen =>
    simp only [PK.run, lenV] at h
    split at h
    · simp only [List.mem_singleton] at hx
      subst hx
      simp [D.lenD] at h
    · cases h
  | _ =>
    simp only [PK.run] at h
    first | unfold binV at h | unfold shiftV at h | unfold beqV at h | unfold seqV at h | unfold notV at h | unfold negV at h | unfold slenV at h | unfold loadV at h | unfold fldV at h | unfold idxV at h | unfold aidxV at h | unfold extV at h | unfold convV at h | unfold afldV at h | unfold mx2V at h | unfold mx3V at h | unfold aixV at h
    split at h <;> first | (cases h; done) | (simp at hx; done)

theorem run_mono {m : Mem} {k : PK} {ds ds' : List D} {d : D} (h : k.run Γ m ds = some d) (hs : SubL ds ds') : ∃ d', k.run Γ m ds' = some d' ∧ (d = .undef ∨ d = d') := by
  by_cases h1 : k = .mv
  · subst h1
    simp only [PK.run] at h ⊢
    unfold mvV at h ⊢
    cases hs with
    | nil => cases h
    | cons hd hl => cases hl with
      | nil => cases h; exact ⟨_, rfl, hd⟩
      | cons => cases h
  · by_cases h2 : k = .pick
    · subst h2
      simp only [PK.run] at h ⊢
      unfold pickV at h ⊢
      split at h
      · rename_i c a b
        cases hs with
        | cons hc hs => cases hs with
          | cons ha hs => cases hs with
            | cons hb hs => cases hs with
              | nil =>
                rw [Option.bind_eq_some_iff] at h
                obtain ⟨x, hx, h⟩ := h
                rcases hc with hc | hc
                · subst hc; simp [D.asBool] at hx
                · subst hc
                  cases h
                  refine ⟨_, by simp only [hx, Option.bind_some]; rfl, ?_⟩
                  cases x
                  · exact hb
                  · exact ha
      · cases h
    · have := hs.eq (run_ne h h1 h2)
      subst this
      exact ⟨d, h, .inr rfl⟩

theorem Sub.mem {s σ : St} (h : Sub s σ) (s' : St) : Sub ⟨s.s, s'.m, s'.c⟩ ⟨σ.s, s'.m, s'.c⟩ := ⟨h.1, rfl, rfl⟩
theorem elems_def {m : Mem} {d : D} {es : List (List D)} (h : d.elems m = some es) : d ≠ .undef := fun e => by subst e; cases h

theorem newMono {s σ : Nat → D} {m : Mem} {c : Nat → Nat} (hs0 : ∀ i, s i = .undef ∨ s i = σ i) (x : Nat) (o : HO) (d : D) : Sub ((⟨s, m, c⟩ : St).new x o d) ((⟨σ, m, c⟩ : St).new x o d) := ⟨fun j => by
    simp only [St.new, St.inc_s, St.set, St.put_s]
    by_cases e : j = x
    · simp [e]
    · simp only [e, if_false]; exact hs0 j, rfl, rfl⟩

theorem storeV_undef {n : Nat} {a : D} {s : St} : storeV n a .undef s = none := by
  unfold storeV
  split
  · split
    · simp [D.cells, D.okC]
    · rfl
  · split
    · rename_i i _ _ _ es _
      cases es[i]? <;> simp [D.cells, D.okC]
    · rfl
  · rfl

theorem storeMono {n : Nat} {a v : D} {s σ : Nat → D} {m : Mem} {c : Nat → Nat} {s' : St} (h : storeV n a v ⟨s, m, c⟩ = some s') (hs0 : ∀ i, s i = .undef ∨ s i = σ i) :
    ∃ σ', storeV n a v ⟨σ, m, c⟩ = some σ' ∧ Sub s' σ' := by
  unfold storeV at h ⊢
  split at h
  · split at h
    · rename_i xs hm
      simp only at hm
      split at h
      · rename_i hc
        cases h
        refine ⟨_, (by simp only [hm]; exact if_pos hc), ?_⟩
        exact ⟨hs0, rfl, rfl⟩
      · cases h
    · cases h
  · split at h
    · rename_i g e es hm
      simp only at hm
      rw [Option.bind_eq_some_iff] at h
      obtain ⟨cc, hcc, h⟩ := h
      split at h
      · rename_i hc
        cases h
        refine ⟨_, (by simp only [hm, hcc, Option.bind_some]; exact if_pos hc), ?_⟩
        exact ⟨hs0, rfl, rfl⟩
      · cases h
    · cases h
  · cases h

theorem setMono {s σ : Nat → D} {m : Mem} {c : Nat → Nat} (hs0 : ∀ i, s i = .undef ∨ s i = σ i) (x : Nat) (d : D) : Sub ((⟨s, m, c⟩ : St).set x d) ((⟨σ, m, c⟩ : St).set x d) :=
  Sub.set (s := ⟨s, m, c⟩) (σ := ⟨σ, m, c⟩) ⟨hs0, rfl, rfl⟩ x (.inr rfl)

theorem strikeMono {s σ : Nat → D} {m : Mem} {c : Nat → Nat} (hs0 : ∀ i, s i = .undef ∨ s i = σ i) (g : Tok) (k x : Nat) (o : HO) (d : D) : Sub (((⟨s, m, c⟩ : St).strike g k).new x o d) (((⟨σ, m, c⟩ : St).strike g k).new x o d) := by
  simp only [St.strike]
  exact newMono hs0 x o d

theorem appMono {x e size : Nat} {a b : D} {s σ : Nat → D} {m : Mem} {c : Nat → Nat} {s' : St} (h : appV x e size a b ⟨s, m, c⟩ = some s') (hs0 : ∀ i, s i = .undef ∨ s i = σ i) :
    ∃ σ', appV x e size a b ⟨σ, m, c⟩ = some σ' ∧ Sub s' σ' := by
  unfold appV at h ⊢
  rw [Option.bind_eq_some_iff] at h
  obtain ⟨es2, he, h⟩ := h
  simp only at he
  simp only [he, Option.bind_some]
  split at h
  · cases h
  · rename_i hsz
    simp only [hsz]
    split at h
    · split at h
      · rename_i h0; cases h; exact ⟨_, if_pos h0, setMono hs0 _ _⟩
      · rename_i h0
        split at h
        · rename_i h1
          cases h
          exact ⟨_, (if_neg h0).trans (if_pos h1), newMono hs0 _ _ _⟩
        · cases h
    · split at h
      · rename_i h0; cases h; exact ⟨_, if_pos h0, setMono hs0 _ _⟩
      · rename_i h0
        split at h
        · rename_i g e' es1 hm
          simp only at hm
          split at h
          · rename_i hc
            split at h
            · split at h
              · rename_i hoff
                cases h
                exact ⟨_, (if_neg h0).trans (by simp only [hm]; exact (if_pos hc).trans (if_pos hoff)), strikeMono hs0 _ _ _ _ _⟩
              · cases h
            · split at h
              · rename_i hlim
                cases h
                exact ⟨_, (if_neg h0).trans (by simp only [hm]; exact (if_pos hc).trans (if_pos hlim)), newMono hs0 _ _ _⟩
              · cases h
          · cases h
        · cases h
    · cases h

theorem mksMono {x e size : Nat} {zero : List D} {a b : D} {s σ : Nat → D} {m : Mem} {c : Nat → Nat} {s' : St} (h : mksV x e size zero a b ⟨s, m, c⟩ = some s') (hs0 : ∀ i, s i = .undef ∨ s i = σ i) :
    ∃ σ', mksV x e size zero a b ⟨σ, m, c⟩ = some σ' ∧ Sub s' σ' := by
  unfold mksV at h ⊢
  split at h
  · split at h
    · rename_i hc
      cases h
      exact ⟨_, if_pos hc, newMono hs0 _ _ _⟩
    · cases h
  · cases h

theorem litMono {x e size len : Nat} {zero : List D} {places : List (Nat × Nat)} {ds ds' : List D} {s σ : Nat → D} {m : Mem} {c : Nat → Nat} {s' : St} (h : litV x e size len zero places ds ⟨s, m, c⟩ = some s') (hs0 : ∀ i, s i = .undef ∨ s i = σ i) (hd : SubL ds ds') :
    ∃ σ', litV x e size len zero places ds' ⟨σ, m, c⟩ = some σ' ∧ Sub s' σ' := by
  unfold litV at h
  split at h
  · rename_i hall
    have := hd.eq (all_ne hall rfl)
    subst this
    rw [Option.bind_eq_some_iff] at h
    obtain ⟨cs, hcs, h⟩ := h
    split at h
    · rename_i hl
      cases h
      exact ⟨_, by simp only [litV, hall, if_true, hcs, Option.bind_some]; exact if_pos hl, newMono hs0 _ _ _⟩
    · cases h
  · cases h

theorem adoptMono {s σ : Nat → D} {m : Mem} {c : Nat → Nat} (hs0 : ∀ i, s i = .undef ∨ s i = σ i) (x : Nat) (d : D) (m' : Mem) : Sub ((⟨s, m, c⟩ : St).adopt x d m') ((⟨σ, m, c⟩ : St).adopt x d m') := ⟨fun j => by
    simp only [St.adopt]
    by_cases e : j = x
    · simp [e]
    · simp only [e, if_false]; exact hs0 j, rfl, rfl⟩

theorem callqMono {x f : Nat} {ds ds' : List D} {s σ : Nat → D} {m : Mem} {c : Nat → Nat} {s' : St} (h : callqV Γ x f ds ⟨s, m, c⟩ = some s') (hs0 : ∀ i, s i = .undef ∨ s i = σ i) (hd : SubL ds ds') :
    ∃ σ', callqV Γ x f ds' ⟨σ, m, c⟩ = some σ' ∧ Sub s' σ' := by
  unfold callqV at h
  rw [Option.bind_eq_some_iff] at h
  obtain ⟨as, ha, h⟩ := h
  have := hd.eq (mapM_ne (by simp [viewA, viewC]) ha)
  subst this
  obtain ⟨q, hq, rfl⟩ := Option.map_eq_some_iff.1 h
  exact ⟨_, by simp only [callqV] at ha ⊢; rw [ha]; simp only [Option.bind_some, hq, Option.map_some], adoptMono hs0 _ _ _⟩

theorem callmMono {x f : Nat} {ds ds' : List D} {s σ : Nat → D} {m : Mem} {c : Nat → Nat} {s' : St} (h : callmV Γ x f ds ⟨s, m, c⟩ = some s') (hs0 : ∀ i, s i = .undef ∨ s i = σ i) (hd : SubL ds ds') :
    ∃ σ', callmV Γ x f ds' ⟨σ, m, c⟩ = some σ' ∧ Sub s' σ' := by
  unfold callmV at h
  split at h
  · rename_i hall
    have := hd.eq (all_ne hall rfl)
    subst this
    obtain ⟨q, hq, rfl⟩ := Option.map_eq_some_iff.1 h
    refine ⟨(⟨σ, m, c⟩ : St).adoptM x q.1 q.2, by simp only [callmV] at hq ⊢; rw [if_pos hall, hq]; rfl, fun j => ?_, rfl, rfl⟩
    simp only [St.adoptM]
    by_cases e : j = x
    · simp [e]
    · simp only [e, if_false]; exact hs0 j
  · cases h

theorem rngMono {x : Nat} {a : D} {s σ : Nat → D} {m : Mem} {c : Nat → Nat} {s' : St} (h : rngV x a ⟨s, m, c⟩ = some s') (hs0 : ∀ i, s i = .undef ∨ s i = σ i) : ∃ σ', rngV x a ⟨σ, m, c⟩ = some σ' ∧ Sub s' σ' := by
  unfold rngV at h ⊢
  split at h
  · split at h <;> cases h
    rename_i hm
    simp only at hm
    exact ⟨_, by simp only [hm]; rfl, newMono hs0 _ _ _⟩
  · cases h

theorem mupdMono {ks : List Nat} {a k v : D} {s σ : Nat → D} {m : Mem} {c : Nat → Nat} {s' : St} (h : mupdV ks a k v ⟨s, m, c⟩ = some s') (hs0 : ∀ i, s i = .undef ∨ s i = σ i) : ∃ σ', mupdV ks a k v ⟨σ, m, c⟩ = some σ' ∧ Sub s' σ' := by
  unfold mupdV at h ⊢
  split at h
  · split at h
    · rename_i es hm
      simp only at hm
      split at h
      · rename_i hok
        rw [Option.bind_eq_some_iff] at h
        obtain ⟨r, hr, h⟩ := h
        split at h
        · obtain ⟨p, hp, rfl⟩ := Option.map_eq_some_iff.1 h
          refine ⟨_, (by simp only [hm]; rw [if_pos hok, hr]; simp only [Option.bind_some, hp]; rfl), ?_⟩
          exact ⟨hs0, rfl, rfl⟩
        · split at h <;> cases h
          rename_i hlt
          refine ⟨_, (by simp only [hm]; rw [if_pos hok, hr]; simp only [Option.bind_some]; exact if_pos hlt), ?_⟩
          exact ⟨hs0, rfl, rfl⟩
      · cases h
    · cases h
  · cases h

theorem Eff.run_mono {st : Eff} {s σ : Nat → D} {m : Mem} {c : Nat → Nat} {s' : St} (h : st.run Γ ⟨s, m, c⟩ = some s') (hs0 : ∀ i, s i = .undef ∨ s i = σ i) : ∃ σ', st.run Γ ⟨σ, m, c⟩ = some σ' ∧ Sub s' σ' := by
  have hs : Sub ⟨s, m, c⟩ ⟨σ, m, c⟩ := ⟨hs0, rfl, rfl⟩
  have hval : ∀ a : VArg, a.val s = .undef ∨ a.val s = a.val σ := fun a => by cases a with | t i => exact hs0 i | c d => exact .inr rfl
  cases st with
  | box x a =>
    simp only [Eff.run] at h ⊢
    rcases hval a with e | e
    · rw [e] at h; simp [boxV, D.cells, D.okC] at h
    · rw [← e]
      unfold boxV at h ⊢
      split at h
      · rename_i hc
        cases h
        exact ⟨_, if_pos hc, newMono hs0 _ _ _⟩
      · cases h
  | store n a v =>
    simp only [Eff.run] at h ⊢
    rcases hval a with e | e
    · rw [e] at h; simp [storeV] at h
    · rw [← e]
      rcases hval v with e2 | e2
      · rw [e2] at h
        rw [storeV_undef] at h; cases h
      · rw [← e2]
        exact storeMono h hs0
  | app x e size a b =>
    simp only [Eff.run] at h ⊢
    rcases hval b with e1 | e1
    · rw [e1] at h; simp [appV, D.elems] at h
    · rw [← e1]
      rcases hval a with e2 | e2
      · rw [e2] at h
        exact absurd h (by simp [appV])
      · rw [← e2]
        exact appMono h hs0
  | mks x e size zero a b =>
    simp only [Eff.run] at h ⊢
    rcases hval a with e1 | e1
    · rw [e1] at h; exact absurd h (by simp [mksV])
    · rw [← e1]
      rcases hval b with e2 | e2
      · rw [e2] at h; exact absurd h (by simp [mksV])
      · rw [← e2]
        exact mksMono h hs0
  | lit x e size len zero places args =>
    simp only [Eff.run] at h ⊢
    exact litMono h hs0 (subL_args hs args)
  | callq x f args =>
    simp only [Eff.run] at h ⊢
    exact callqMono h hs0 (subL_args hs args)
  | callm x f args =>
    simp only [Eff.run] at h ⊢
    exact callmMono h hs0 (subL_args hs args)
  | mkm x => cases h; exact ⟨_, rfl, newMono hs0 _ _ _⟩
  | rng x a =>
    simp only [Eff.run] at h ⊢
    rcases hval a with e1 | e1
    · rw [e1] at h; cases h
    · rw [← e1]; exact rngMono h hs0
  | mupd ks a k v =>
    simp only [Eff.run] at h ⊢
    rcases hval a with e1 | e1
    · rw [e1] at h; cases h
    rw [← e1]
    rcases hval v with e2 | e2
    · rw [e2] at h
      unfold mupdV at h
      split at h
      · split at h
        · rw [if_neg (by simp [D.okM])] at h; cases h
        · cases h
      · cases h
    rw [← e2]
    rcases hval k with e3 | e3
    · rw [e3] at h
      unfold mupdV at h
      split at h
      · split at h
        · rw [if_neg (by simp [D.okM])] at h; cases h
        · cases h
      · cases h
    rw [← e3]
    exact mupdMono h hs0

theorem VStm.run_mono {st : VStm} {s σ s' : St} (h : st.run Γ s = some s') (hs : Sub s σ) : ∃ σ', st.run Γ σ = some σ' ∧ Sub s' σ' := by
  obtain ⟨s, m, c⟩ := s
  obtain ⟨σ, m', c'⟩ := σ
  obtain ⟨hs0, hs1, hs2⟩ := hs
  simp only at hs0 hs1 hs2
  subst hs1; subst hs2
  have hs : Sub ⟨s, m, c⟩ ⟨σ, m, c⟩ := ⟨hs0, rfl, rfl⟩
  cases st with
  | bad => cases h
  | nxt x a => cases h
  | op x k args g =>
    simp only [VStm.run] at h ⊢
    rw [Option.bind_eq_some_iff] at h
    obtain ⟨b, hb, h⟩ := h
    have hg : guardV ⟨σ, m, c⟩ g = some b := by
      cases g with
      | none => exact hb
      | some q =>
        obtain ⟨j, w⟩ := q
        simp only [guardV] at hb ⊢
        rcases hs0 j with e | e
        · rw [e] at hb; cases hb
        · rw [← e]; exact hb
    rw [hg]
    cases b
    · simp only [cond_false, Option.some.injEq] at h
      subst h
      exact ⟨_, rfl, hs.set x (.inr rfl)⟩
    · simp only [cond_true, opV] at h
      obtain ⟨d, hd, rfl⟩ := Option.map_eq_some_iff.1 h
      obtain ⟨d', hd', hor⟩ := Go.Proofs.Ytpmgaaalfdjikaa.run_mono hd (subL_args hs args)
      exact ⟨_, by simp only [Option.bind_some, cond_true, opV, hd', Option.map_some], hs.set x hor⟩
  | eff e g =>
    simp only [VStm.run] at h ⊢
    rw [Option.bind_eq_some_iff] at h
    obtain ⟨b, hb, h⟩ := h
    have hg : guardV ⟨σ, m, c⟩ g = some b := by
      cases g with
      | none => exact hb
      | some q =>
        obtain ⟨j, w⟩ := q
        simp only [guardV] at hb ⊢
        rcases hs0 j with e | e
        · rw [e] at hb; cases hb
        · rw [← e]; exact hb
    rw [hg]
    cases b
    · simp only [cond_false, Option.some.injEq] at h
      subst h
      refine ⟨_, rfl, ?_⟩
      cases e.dst with
      | none => exact hs
      | some x => exact hs.set x (.inr rfl)
    · exact Eff.run_mono h hs0

theorem runs_mono : ∀ {sts : List VStm} {s σ s' : St}, runs Γ sts s = some s' → Sub s σ → ∃ σ', runs Γ sts σ = some σ' ∧ Sub s' σ'
  | [], s, σ, s', h, hs => by cases h; exact ⟨σ, rfl, hs⟩
  | st :: r, s, σ, s', h, hs => by
    simp only [runs] at h ⊢
    obtain ⟨s1, h1, h2⟩ := Option.bind_eq_some_iff.1 h
    obtain ⟨σ1, g1, g2⟩ := VStm.run_mono h1 hs
    rw [g1]
    exact runs_mono h2 g2

theorem evRoots_spec {s : St} : ∀ {roots : List (Nat × VX)} {s0 s' : St}, evRoots Γ s roots s0 = some s' →
    (∀ p ∈ roots, (ev Γ s p.2).isSome = true) ∧ (∀ j, (s'.s j = s0.s j ∨ ∃ x, (j, x) ∈ roots ∧ ev Γ s x = some (s'.s j)) ∧ ((∃ x, (j, x) ∈ roots) → ∃ x, (j, x) ∈ roots ∧ ev Γ s x = some (s'.s j))) ∧ s'.m = s0.m ∧ s'.c = s0.c
  | [], s0, s', h => by cases h; exact ⟨by simp, fun j => ⟨.inl rfl, fun ⟨x, hx⟩ => by simp at hx⟩, rfl, rfl⟩
  | (i, x) :: r, s0, s', h => by
    simp only [evRoots] at h
    rw [Option.bind_eq_some_iff] at h
    obtain ⟨d, hd, h⟩ := h
    obtain ⟨h1, h2, hm, hc⟩ := evRoots_spec h
    refine ⟨fun p hp => ?_, fun j => ?_, hm, hc⟩
    · rcases List.mem_cons.1 hp with rfl | hp
      · rw [hd]; rfl
      · exact h1 p hp
    · obtain ⟨g1, g2⟩ := h2 j
      by_cases hin : ∃ y, (j, y) ∈ r
      · obtain ⟨y, hy, hv⟩ := g2 hin
        exact ⟨.inr ⟨y, List.mem_cons_of_mem _ hy, hv⟩, fun _ => ⟨y, List.mem_cons_of_mem _ hy, hv⟩⟩
      · rcases g1 with g1 | ⟨y, hy, _⟩
        · by_cases e : j = i
          · subst e
            rw [St.set_same] at g1
            exact ⟨.inr ⟨x, List.mem_cons_self, by rw [g1]; exact hd⟩, fun _ => ⟨x, List.mem_cons_self, by rw [g1]; exact hd⟩⟩
          · rw [St.set_ne _ _ e] at g1
            refine ⟨.inl g1, fun ⟨y, hy⟩ => ?_⟩
            rcases List.mem_cons.1 hy with hy | hy
            · cases hy; exact absurd rfl e
            · exact absurd ⟨y, hy⟩ hin
        · exact absurd ⟨y, hy⟩ hin

theorem chunk_sound {total : List Nat} {l : List POp} {s s' : St} (h : cruns Γ (chunk total l) s = some s') : ∃ σ, runs Γ (l.map POp.stm) s = some σ ∧ Sub s' σ := by
  unfold chunk at h
  split at h
  · rename_i h0
    have : l = [] := List.eq_nil_of_length_eq_zero (by omega)
    subst this
    cases h
    exact ⟨s, rfl, Sub.refl s⟩
  · simp only [] at h
    split at h
    · rename_i hok
      have H := rowOK_spec hok
      simp only [cruns, CStm.run] at h
      obtain ⟨s1, h1, h2⟩ := Option.bind_eq_some_iff.1 h
      cases h2
      obtain ⟨e1, e2, em, ec⟩ := evRoots_spec h1
      have hX : ∀ i, i < l.length → envAt l l.length (oAt l i).x = EX l i := fun i hi => envAt_def H (Nat.le_refl _) hi
      have hroots : ∀ i, i < l.length → (rootsOf total l).contains (oAt l i).x = true → (ev Γ s (EX l i)).isSome = true := fun i hi hc => by
        have := e1 ((oAt l i).x, envAt l l.length (oAt l i).x) (List.mem_map.2 ⟨(oAt l i).x, by simpa using hc, rfl⟩)
        rwa [hX i hi] at this
      obtain ⟨σ, hr, hv, hu, hmm, hcc⟩ := row_run H hroots l.length (Nat.le_refl _)
      rw [List.take_length] at hr
      refine ⟨σ, hr, fun j => ?_, em.trans hmm.symm, ec.trans hcc.symm⟩
      obtain ⟨g1, g2⟩ := e2 j
      by_cases hin : ∃ x, (j, x) ∈ (rootsOf total l).map fun t => (t, envAt l l.length t)
      · right
        obtain ⟨x, hx, hev⟩ := g2 hin
        obtain ⟨t, ht, he⟩ := List.mem_map.1 hx
        cases he
        have ht2 := ht
        simp only [rootsOf, List.mem_map, List.mem_filter, List.mem_range, Bool.and_eq_true, beq_iff_eq] at ht2
        obtain ⟨i, ⟨hi, hg, _⟩, rfl⟩ := ht2
        rw [hX i hi] at hev
        have := (hv i hi).1 (.free hg)
        rw [hev] at this
        exact Option.some.inj this
      · rcases g1 with g1 | ⟨x, hx, _⟩
        · rw [g1]
          simp only [havoc]
          split
          · exact .inl rfl
          · rename_i hc
            right
            refine (hu j fun k hk e => hc ?_).symm
            simp only [List.contains_eq_mem, List.mem_map, decide_eq_true_eq]
            exact ⟨l[k], List.getElem_mem hk, by simpa [oAt, List.getD, hk] using e⟩
        · exact absurd ⟨x, hx⟩ hin
    · have : ∀ (l : List POp) (s s' : St), cruns Γ (l.map fun o => CStm.stm o.stm) s = some s' → runs Γ (l.map POp.stm) s = some s' := by
        intro l
        induction l with
        | nil => intro s s' h; exact h
        | cons o l ih =>
          intro s s' h
          simp only [List.map_cons, cruns, CStm.run, runs] at h ⊢
          obtain ⟨s1, h1, h2⟩ := Option.bind_eq_some_iff.1 h
          rw [h1]; exact ih s1 s' h2
      exact ⟨s', this l s s' h, Sub.refl s'⟩

theorem toPOps_eq : ∀ (sts : List VStm), sts = (toPOps sts).1.map POp.stm ++ (toPOps sts).2
  | [] => rfl
  | .op x k args g :: r => by simp only [toPOps, List.map_cons, List.cons_append, ← toPOps_eq r]; rfl
  | .eff .. :: r => rfl
  | .nxt .. :: r => rfl
  | .bad :: r => rfl

theorem cruns_append {a b : List CStm} {s : St} : cruns Γ (a ++ b) s = (cruns Γ a s).bind (cruns Γ b) := by
  induction a generalizing s with
  | nil => rfl
  | cons c a ih =>
    simp only [List.cons_append, cruns]
    cases c.run Γ s with
    | none => rfl
    | some s1 => simp [ih]

theorem cmp_sound {total : List Nat} : ∀ (f : Nat) {sts : List VStm} {s s' : St}, cruns Γ (cmp total f sts) s = some s' → ∃ σ, runs Γ sts s = some σ ∧ Sub s' σ
  | 0, sts, s, s', h => by
    have : ∀ (l : List VStm) (s s' : St), cruns Γ (l.map CStm.stm) s = some s' → runs Γ l s = some s' := by
      intro l
      induction l with
      | nil => intro s s' h; exact h
      | cons o l ih =>
        intro s s' h
        simp only [List.map_cons, cruns, CStm.run, runs] at h ⊢
        obtain ⟨s1, h1, h2⟩ := Option.bind_eq_some_iff.1 h
        rw [h1]; exact ih s1 s' h2
    exact ⟨s', this sts s s' h, Sub.refl s'⟩
  | f + 1, sts, s, s', h => by
    simp only [cmp, cruns_append] at h
    obtain ⟨s1, h1, h2⟩ := Option.bind_eq_some_iff.1 h
    obtain ⟨σ1, g1, g2⟩ := chunk_sound h1
    rw [toPOps_eq sts, runs_append, g1]
    simp only [Option.bind_some]
    have : ∃ σ, runs Γ (toPOps sts).2 s1 = some σ ∧ Sub s' σ := by
      split at h2
      · rename_i hq
        rw [hq]
        simp only [cruns, Option.some.injEq] at h2
        subst h2
        exact ⟨_, rfl, Sub.refl _⟩
      · rename_i st r hq
        rw [hq]
        simp only [cruns, CStm.run] at h2
        obtain ⟨s2, h3, h4⟩ := Option.bind_eq_some_iff.1 h2
        obtain ⟨σ, k1, k2⟩ := cmp_sound f h4
        exact ⟨σ, by simp only [runs, h3, Option.bind_some, k1], k2⟩
    obtain ⟨σ, k1, k2⟩ := this
    obtain ⟨σ', m1, m2⟩ := runs_mono k1 g2
    exact ⟨σ', m1, k2.trans m2⟩

theorem nxtOK_mono {x : Nat} {a : D} {K K' : St → Prop} {s : St} (h : nxtOK x a K s) (hk : ∀ s, K s → K' s) : nxtOK x a K' s := by
  obtain ⟨u, t, n, seen, es, h1, h2, h3, h4, h5, h6⟩ := h
  exact ⟨u, t, n, seen, es, h1, h2, h3, h4, fun h => hk _ (h5 h), fun i p hp hi => hk _ (h6 i p hp hi)⟩

theorem vwp_mono : ∀ (c : VC) {Q Q' : VE → St → Prop} {s : St}, vwp Γ c Q s → (∀ e s, Q e s → Q' e s) → vwp Γ c Q' s
  | .skip, _, _, _, h, hq => hq _ _ h
  | .reg sts, _, _, _, ⟨s', s2, h1, h2, h3⟩, hq => ⟨s', s2, h1, h2, hq _ _ h3⟩
  | .drw ss, _, _, _, ⟨s2, h1, h3⟩, hq => ⟨s2, h1, hq _ _ h3⟩
  | .nxt x a, _, _, _, h, hq => nxtOK_mono h fun s hs => hq _ _ hs
  | .bad, _, _, _, h, _ => h.elim
  | .seq a b, Q, Q', s, h, hq => vwp_mono a h fun e s hs => by
      cases e with
      | normal => exact vwp_mono b hs hq
      | exit i => exact hq _ _ hs
      | ret => exact hq _ _ hs
  | .cond c a b, _, _, _, ⟨x, h1, h2, h3⟩, hq => ⟨x, h1, fun h => vwp_mono a (h2 h) hq, fun h => vwp_mono b (h3 h) hq⟩
  | .block id c, _, _, _, h, hq => vwp_mono c h fun e s hs => by
      cases e with
      | normal => exact hq _ _ hs
      | exit i =>
        simp only [VE.blk] at hs ⊢
        split at hs
        · rename_i hi; rw [if_pos hi]; exact hq _ _ hs
        · rename_i hi; rw [if_neg hi]; exact hq _ _ hs
      | ret => exact hq _ _ hs
  | .loop c, _, _, _, ⟨I, μ, h0, hr⟩, hq => ⟨I, μ, h0, fun s hw hs => vwp_mono c (hr s hw hs) fun e s' h => by
      cases e with
      | normal => exact h
      | exit i => exact hq _ _ h
      | ret => exact hq _ _ h⟩
  | .exit id, _, _, _, h, hq => hq _ _ h
  | .ret, _, _, _, h, hq => hq _ _ h

theorem wwp_sound {total : List Nat} : ∀ (c : VC) {Q : VE → St → Prop} {s : St}, wwp Γ (cmpC total c) Q s → vwp Γ c Q s
  | .skip, _, _, h => h
  | .reg sts, _, _, ⟨s', h1, h2⟩ => by
      obtain ⟨σ, g1, g2⟩ := cmp_sound _ h1
      exact ⟨σ, s', g1, g2, h2⟩
  | .drw ss, _, _, h => h
  | .nxt x a, _, _, h => h
  | .bad, _, _, h => h.elim
  | .seq a b, Q, s, h => vwp_mono a (wwp_sound a h) fun e s hs => by
      cases e with
      | normal => exact wwp_sound b hs
      | exit i => exact hs
      | ret => exact hs
  | .cond c a b, _, _, ⟨x, h1, h2, h3⟩ => ⟨x, h1, fun h => wwp_sound a (h2 h), fun h => wwp_sound b (h3 h)⟩
  | .block id c, _, _, h => wwp_sound c h
  | .loop c, _, _, ⟨I, μ, h0, hr⟩ => ⟨I, μ, h0, fun s hw hs => wwp_sound c (hr s hw hs)⟩
  | .exit id, _, _, h => h
  | .ret, _, _, h => h
end

/-- A function's code, made ready. -/
def digW (P : Program) (fr : Nat → Nat) (fn : Func) : Option (WC × List VRes) :=
  (fn.body.map (dig P fr fn.ntmps)).bind fun vc => (fn.results.toList.mapM (dRes P fn.ntmps)).map fun rs =>
    (cmpC (vc.reads ++ rs.map fun r => match r with | .t i => i | .cell i _ _ => i) vc, rs)

/-- What a proof over a function needs of it: its place and its code. -/
structure IsFn (P : Program) (fr : Nat → Nat) (f : Nat) (fn : Func) (q : WC × List VRes) : Prop where
  at_ : P.funcs[f]? = some fn
  name : (fn.name == "runtime.NumGoroutine") = false
  code : digW P fr fn = some q

theorem IsFn.has {P : Program} {fr : Nat → Nat} {f : Nat} {fn : Func} {q : WC × List VRes} (hf : IsFn P fr f fn q) : ∃ vc, HasFn P fr f fn vc q.2 ∧ ∃ total, q.1 = cmpC total vc := by
  have hc := hf.code
  unfold digW at hc
  rw [Option.bind_eq_some_iff] at hc
  obtain ⟨vc, h1, hc⟩ := hc
  obtain ⟨rs, h2, rfl⟩ := Option.map_eq_some_iff.1 hc
  exact ⟨vc, ⟨hf.at_, hf.name, h1, h2⟩, _, rfl⟩

theorem wcontract_p {P : Program} {fr : Nat → Nat} {Γ : Env} (hΓ : Sound P Γ) (hm : P.follows .mixedOrders = true) {f : Nat} {fn : Func} {q : WC × List VRes} (hf : IsFn P fr f fn q) {ds : List D} {d : D} (hlen : ds.length ≤ fn.ntmps)
    (h : wwp Γ q.1 (fun e s => okExit e ∧ resV q.2 s = some d) (initV ds)) (hno : d.noT = true) : VCp P f ds d := by
  obtain ⟨vc, h1, total, h2⟩ := hf.has
  exact vcontract_p hΓ hm h1 hlen (wwp_sound vc (h2 ▸ h)) hno

theorem wcontract_q {P : Program} {fr : Nat → Nat} {Γ : Env} (hΓ : Sound P Γ) (hm : P.follows .mixedOrders = true) {f : Nat} {fn : Func} {q : WC × List VRes} (hf : IsFn P fr f fn q) {ds : List D} {d : D} {m' : Mem} (hlen : ds.length ≤ fn.ntmps)
    (h : wwp Γ q.1 (fun e s => okExit e ∧ ∃ d0, resV q.2 s = some d0 ∧ Out s d0 d m') (initV ds)) : VCq P f ds d m' := by
  obtain ⟨vc, h1, total, h2⟩ := hf.has
  exact vcontract_q hΓ hm h1 hlen (wwp_sound vc (h2 ▸ h))

theorem wcontract_m {P : Program} {fr : Nat → Nat} {Γ : Env} (hΓ : Sound P Γ) (hm : P.follows .mixedOrders = true) {f : Nat} {fn : Func} {q : WC × List VRes} (hf : IsFn P fr f fn q) {m : Mem} {ds : List D} {d : D} {m' : Mem} (hlen : ds.length ≤ fn.ntmps)
    (h : wwp Γ q.1 (fun e s => okExit e ∧ resV q.2 s = some d ∧ ∀ t o, m' t = some o → s.m t = some o) (initM m ds)) : VCm P f m ds d m' := by
  obtain ⟨vc, h1, total, h2⟩ := hf.has
  exact vcontract_m hΓ hm h1 hlen (wwp_sound vc (h2 ▸ h))
end Go.Proofs.Ytpmgaaalfdjikaa
