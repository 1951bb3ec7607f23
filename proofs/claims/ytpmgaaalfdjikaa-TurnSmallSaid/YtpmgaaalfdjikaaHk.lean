/- The H semantics: code, what must hold ahead of it, and the contract of a function. Lemmas; no condition. -/
import Derived.Test.YtpmgaaalfdjikaaHj
namespace Go.Proofs.Ytpmgaaalfdjikaa
open Go.RowKit

inductive VC where
  | skip
  | reg (sts : List VStm)
  | drw (ss : List (List VStm))
  | nxt (x : Nat) (a : VArg)
  | bad
  | seq (a b : VC)
  | cond (c : VArg) (a b : VC)
  | block (id : Nat) (c : VC)
  | loop (c : VC)
  | exit (id : Nat)
  | ret
  deriving Inhabited

inductive VE where
  | normal
  | exit (id : Nat)
  | ret

def VE.thn (K : St → Prop) (Q : VE → St → Prop) : VE → St → Prop
  | .normal, s => K s
  | e, s => Q e s
def VE.blk (id : Nat) (Q : VE → St → Prop) : VE → St → Prop
  | .exit i, s => if i = id then Q .normal s else Q (.exit i) s
  | e, s => Q e s

/-- A state that knows less. -/
def Sub (s2 s' : St) : Prop := (∀ i, s2.s i = .undef ∨ s2.s i = s'.s i) ∧ s2.m = s'.m ∧ s2.c = s'.c

def vwp (Γ : Env) : VC → (VE → St → Prop) → St → Prop
  | .skip, Q, s => Q .normal s
  | .reg sts, Q, s => ∃ s' s2, runs Γ sts s = some s' ∧ Sub s2 s' ∧ Q .normal s2
  | .drw ss, Q, s => ∃ s2, (∀ sts ∈ ss, ∃ s', runs Γ sts s = some s' ∧ Sub s2 s') ∧ Q .normal s2
  | .seq a b, Q, s => vwp Γ a (VE.thn (vwp Γ b Q) Q) s
  | .cond c a b, Q, s => ∃ x, c.val s.s = .v (.bool x) ∧ (x = true → vwp Γ a Q s) ∧ (x = false → vwp Γ b Q s)
  | .block id c, Q, s => vwp Γ c (VE.blk id Q) s
  | .loop c, Q, s => ∃ (I : St → Prop) (μ : St → Nat), I s ∧ ∀ s, WF s → I s → vwp Γ c (VE.thn (fun s' => I s' ∧ μ s' < μ s) Q) s
  | .exit id, Q, s => Q (.exit id) s
  | .ret, Q, s => Q .ret s
  | .nxt x a, Q, s => nxtOK x (a.val s.s) (Q .normal) s
  | .bad, _, _ => False

/-- A region that has steps of loops over maps in it. -/
def toNxt : List VStm → List VStm × List VStm
  | [] => ([], [])
  | .nxt x a :: r => ([], .nxt x a :: r)
  | st :: r => (st :: (toNxt r).1, (toNxt r).2)
def segs : Nat → List VStm → VC
  | 0, _ => .bad
  | f + 1, sts => match toNxt sts with
    | (pre, []) => .reg pre
    | (pre, .nxt x a :: post) => .seq (.reg pre) (.seq (.nxt x a) (segs f post))
    | _ => .bad

def dig (P : Program) (fr : Nat → Nat) (n : Nat) : Code → VC
  | .skip => .skip
  | .region _ ops draw => if draw then (match orders P fr n ops with
      | some [s] => .reg s
      | some ss => .drw ss
      | none => .bad) else segs (ops.size + 1) (dReg P fr n ops)
  | .seq a b => .seq (dig P fr n a) (dig P fr n b)
  | .cond c a b => match dArg n c with
      | some g => .cond g (dig P fr n a) (dig P fr n b)
      | none => .bad
  | .block id c => .block id (dig P fr n c)
  | .loop c => .loop (dig P fr n c)
  | .exit id => .exit id
  | .ret => .ret
  | _ => .bad

section
variable {P : Program} {fr : Nat → Nat} {w0 : World} {pr : Prot} {A : Area} {n : Nat} {Γ : Env}

def toVE : Exit → Option VE
  | .normal => some .normal
  | .exit id => some (.exit id)
  | .ret => some .ret
  | _ => none

def Lift (P : Program) (w0 : World) (pr : Prot) (A : Area) (n : Nat) (Q : VE → St → Prop) (e : Exit) (a : Act) (w : World) : Prop :=
  ∃ x s tk, toVE e = some x ∧ a.defers = [] ∧ Rel P w0 pr A n w a.tmps s tk ∧ Q x s

theorem Rel.sub {w : World} {cs : Array Value} {s s2 : St} {tk : Places} (R : Rel P w0 pr A n w cs s tk) (h : Sub s2 s) : Rel P w0 pr A n w cs s2 tk := by
  obtain ⟨h1, h2, h3⟩ := h
  refine ⟨R.size, R.chg, R.prlt, R.prA, by rw [h2]; exact R.mem, by rw [h2]; exact R.live, by rw [h3]; exact R.fresh, R.zero, fun i hi => ?_⟩
  rcases h1 i with e | e
  · rw [e]; exact .undef
  · rw [e]; exact R.slot i hi

theorem wp_loop_rel {σ : Type} {c : Code} {Q : Exit → Act → World → Prop} (I : σ → Act → World → Prop) (μ : σ → Nat) {x : σ} {a : Act} {w : World} (h₀ : I x a w)
    (round : ∀ x a w, I x a w → c.wp P (Exit.then (fun a' w' => ∃ y, I y a' w' ∧ μ y < μ x) Q) a w) : (Code.loop c).wp P Q a w := by
  intro b k cs
  have key : ∀ m x a w, μ x = m → I x a w →
      ∃ e a' w', Q e a' w' ∧ Arrives P (lone (b.at a (.code c :: .inLoop c :: k)) cs w) b k cs e a' w' := by
    intro m
    induction m using Nat.strongRecOn with
    | _ m ih =>
      intro x a w hn hI
      obtain ⟨e, a₁, w₁, hq, harr⟩ := round x a w hI b (.inLoop c :: k) cs
      cases e with
      | normal =>
        obtain ⟨y, hI₁, hlt⟩ := hq
        obtain ⟨e₂, a₂, w₂, hq₂, harr₂⟩ := ih (μ y) (hn ▸ hlt) y a₁ w₁ rfl hI₁
        exact ⟨e₂, a₂, w₂, hq₂, .of_steps (Steps.trans harr (.one step_inLoop)) harr₂⟩
      | exit id => exact ⟨_, a₁, w₁, hq, .pass (x := .inLoop c) rfl (fun _ _ => .inl (by simp)) harr⟩
      | goto l => exact ⟨_, a₁, w₁, hq, .pass (x := .inLoop c) rfl (fun _ _ => .inl (by simp)) harr⟩
      | ret => exact ⟨_, a₁, w₁, hq, .pass (x := .inLoop c) rfl (fun _ _ => .inl (by simp)) harr⟩
      | panic ch => exact ⟨_, a₁, w₁, hq, .pass (x := .inLoop c) rfl (fun _ _ => .inl (by simp)) harr⟩
      | outgrown => exact ⟨_, a₁, w₁, hq, .pass (x := .inLoop c) rfl (fun _ _ => .inl (by simp)) harr⟩
  obtain ⟨e, a', w', hq, harr⟩ := key _ x a w rfl h₀
  exact ⟨e, a', w', hq, .of_steps (.one step_loop) harr⟩

theorem toNxt_eq : ∀ (l : List VStm), (toNxt l).1 ++ (toNxt l).2 = l
  | [] => rfl
  | .nxt .. :: _ => rfl
  | .op .. :: r => congrArg _ (toNxt_eq r)
  | .eff .. :: r => congrArg _ (toNxt_eq r)
  | .bad :: r => congrArg _ (toNxt_eq r)

theorem segs_sound (hΓ : Sound P Γ) {ops : Array Oper} {Q : Exit → Act → World → Prop} {Q' : VE → St → Prop} : ∀ (f : Nat) (l : List Oper) (k : Nat), (∀ j, j < l.length → l[j]? = ops[k + j]?) →
    ∀ {w : World} {a : Act} {s : St} {tk : Places}, Rel P w0 pr A n w a.tmps s tk → vwp Γ (segs f (l.map (dStm P fr n ops))) Q' s →
    (∀ a' w' s' tk', a'.defers = a.defers → Rel P w0 pr A n w' a'.tmps s' tk' → Q' .normal s' → Q .normal a' w') → wpOps P ops Q (List.range' k l.length) a w
  | 0, _, _, _, _, _, _, _, _, h, _ => h.elim
  | f + 1, l, k, hl, w, a, s, tk, R, h, hQ => by
    simp only [segs] at h
    have hsp := toNxt_eq (l.map (dStm P fr n ops))
    generalize toNxt (l.map (dStm P fr n ops)) = q at h hsp
    obtain ⟨pre, rest⟩ := q
    simp only at hsp
    obtain ⟨l1, l2, rfl, rfl, rfl⟩ := List.map_eq_append_iff.1 hsp.symm
    have h1 : ∀ j, j < l1.length → l1[j]? = ops[k + j]? := fun j hj => by
      have := hl j (by simp; omega)
      rwa [List.getElem?_append_left hj] at this
    have h2 : ∀ j, j < l2.length → l2[j]? = ops[k + l1.length + j]? := fun j hj => by
      have := hl (l1.length + j) (by simp; omega)
      rw [List.getElem?_append_right (by omega)] at this
      rw [Nat.add_assoc, ← this]
      congr 1
      omega
    rw [List.length_append, show List.range' k (l1.length + l2.length) = List.range' k l1.length ++ List.range' (k + l1.length) l2.length by rw [List.range'_append_1]]
    cases l2 with
    | nil =>
      simp only [List.map_nil] at h
      obtain ⟨s', s2, hr, hsub, hq⟩ := h
      exact range_sound hΓ l1 k h1 R hr fun a' w' tk' hdf R' => hQ a' w' s2 tk' hdf (R'.sub hsub) hq
    | cons o l2 =>
      simp only [List.map_cons] at h
      split at h
      · rename_i hh; cases hh
      · rename_i x ga post hh
        simp only [Prod.mk.injEq, List.cons.injEq] at hh
        obtain ⟨rfl, hst, rfl⟩ := hh
        obtain ⟨s', s2, hr, hsub, hq⟩ := h
        simp only [VE.thn, vwp] at hq
        have hd : dNxt n o = some (.nxt x ga) := by
          unfold dStm at hst
          cases h3 : dOp P fr n ops o with
          | some st =>
            rw [h3] at hst
            simp only [Option.some_or, Option.getD_some] at hst
            subst hst
            unfold dOp at h3
            rw [Option.bind_eq_some_iff] at h3
            obtain ⟨q, _, h3⟩ := h3
            rw [Option.bind_eq_some_iff] at h3
            obtain ⟨x, _, h3⟩ := h3
            split at h3
            · rw [Option.bind_eq_some_iff] at h3
              obtain ⟨gs, _, h3⟩ := h3
              obtain ⟨g, _, h3⟩ := Option.map_eq_some_iff.1 h3
              cases h3
            · cases h3
          | none =>
            cases h4 : dEffG P fr n ops o with
            | some st =>
              rw [h3, h4] at hst
              simp only [Option.none_or, Option.some_or, Option.getD_some] at hst
              subst hst
              unfold dEffG at h4
              rw [Option.bind_eq_some_iff] at h4
              obtain ⟨e, _, h4⟩ := h4
              obtain ⟨g, _, h4⟩ := Option.map_eq_some_iff.1 h4
              cases h4
            | none =>
              rw [h3, h4] at hst
              cases h5 : dNxt n o with
              | some st => rw [h5] at hst; simp only [Option.none_or, Option.getD_some] at hst; rw [hst]
              | none => rw [h5] at hst; cases hst
        have ho : ops[k + l1.length]? = some o := by have := h2 0 (by simp); simpa using this.symm
        have hg : o.guard = none := by obtain ⟨_, _, _, hg, _⟩ := dNxt_spec hd; exact hg
        refine range_sound hΓ l1 k h1 R hr fun a' w' tk' hdf R' => ?_
        show wpOps P ops Q ((k + l1.length) :: List.range' (k + l1.length + 1) l2.length) a' w'
        refine wpOps_cons ho ?_
        rw [if_pos (by simp [Region.wanted, hg])]
        refine nxt_sound hd (R'.sub hsub) hq _ Q fun a2 w2 s3 hdf2 R2 hq2 => ?_
        exact segs_sound hΓ f l2 (k + l1.length + 1) (fun j hj => by
          have := h2 (j + 1) (by simpa using hj)
          simpa [Nat.add_assoc, Nat.add_comm 1 j] using this) R2 hq2 fun a3 w3 s4 t4 hdf3 R3 hq3 => hQ a3 w3 s4 t4 (hdf3.trans (hdf2.trans hdf)) R3 hq3
      · exact h.elim

theorem dig_sound (hΓ : Sound P Γ) (hm : P.follows .mixedOrders = true) : ∀ (c : Code) (Q : VE → St → Prop) (s : St) (a : Act) (w : World) (tk : Places),
    a.defers = [] → Rel P w0 pr A n w a.tmps s tk → vwp Γ (dig P fr n c) Q s → c.wp P (Lift P w0 pr A n Q) a w := by
  intro c
  induction c with
  | skip => intro Q s a w tk hdf R h; exact wp_skip ⟨_, s, tk, rfl, hdf, R, h⟩
  | region id ops draw =>
    intro Q s a w tk hdf R h
    simp only [dig] at h
    have fin : ∀ s' s2, Sub s2 s' → Q .normal s2 → ∀ a' w' tk', a'.defers = a.defers → Rel P w0 pr A n w' a'.tmps s' tk' → Lift P w0 pr A n Q .normal a' w' := fun s' s2 hsub hq a' w' tk' h1 h2 => ⟨_, s2, tk', rfl, h1.trans hdf, h2.sub hsub, hq⟩
    cases draw
    · simp only [Bool.false_eq_true, if_false] at h
      refine wp_region ?_
      have := segs_sound (Q := Lift P w0 pr A n Q) hΓ (ops.size + 1) ops.toList 0 (fun j _ => by simp) R h fun a' w' s' tk' hdf' R' hq => ⟨_, s', tk', rfl, hdf'.trans hdf, R', hq⟩
      rw [List.range_eq_range']
      simpa using this
    · simp only [if_true] at h
      split at h
      · rename_i s0 ho
        obtain ⟨s', s2, hr, hsub, hq⟩ := h
        exact drawn_sound (K := Sub s2) hΓ hm R ho (by simpa using ⟨s', hr, hsub⟩) fun a' w' tk' σ' h1 h2 h3 => fin σ' s2 h3 hq a' w' tk' h1 h2
      · rename_i ss _ ho
        obtain ⟨s2, hr, hq⟩ := h
        exact drawn_sound (K := Sub s2) hΓ hm R ho hr fun a' w' tk' σ' h1 h2 h3 => fin σ' s2 h3 hq a' w' tk' h1 h2
      · exact h.elim
  | seq x y ihx ihy =>
    intro Q s a w tk hdf R h
    refine wp_seq (wp_mono (ihx _ s a w tk hdf R h) ?_)
    rintro e a' w' ⟨x', s', tk', h1, h2, h3, h4⟩
    cases e <;> simp only [toVE] at h1 <;> cases h1
    · exact ihy Q s' a' w' tk' h2 h3 h4
    · exact ⟨_, s', tk', rfl, h2, h3, h4⟩
    · exact ⟨_, s', tk', rfl, h2, h3, h4⟩
  | cond c x y ihx ihy =>
    intro Q s a w tk hdf R h
    simp only [dig] at h
    split at h
    · rename_i g hg
      obtain ⟨b, hb, h1, h2⟩ := h
      have hr := dArg_rep R hg
      rw [hb] at hr
      obtain ⟨hv, _⟩ := rep_v.1 hr
      cases b
      · exact wp_cond_false hv (ihy Q s a w tk hdf R (h2 rfl))
      · exact wp_cond_true hv (ihx Q s a w tk hdf R (h1 rfl))
    · exact h.elim
  | block id c ih =>
    intro Q s a w tk hdf R h
    refine wp_block (wp_mono (ih _ s a w tk hdf R h) ?_)
    rintro e a' w' ⟨x', s', tk', h1, h2, h3, h4⟩
    cases e <;> simp only [toVE] at h1 <;> cases h1
    · exact ⟨_, s', tk', rfl, h2, h3, h4⟩
    · rename_i i
      simp only [Exit.inBlock, VE.blk] at h4 ⊢
      split at h4 <;> rename_i hi
      · rw [if_pos hi]; exact ⟨_, s', tk', rfl, h2, h3, h4⟩
      · rw [if_neg hi]; exact ⟨_, s', tk', rfl, h2, h3, h4⟩
    · exact ⟨_, s', tk', rfl, h2, h3, h4⟩
  | loop c ih =>
    intro Q s a w tk hdf R h
    obtain ⟨I, μ, h0, hround⟩ := h
    refine wp_loop_rel (fun (s : St) a w => ∃ tk, a.defers = [] ∧ Rel P w0 pr A n w a.tmps s tk ∧ I s) μ (x := s) ⟨tk, hdf, R, h0⟩ ?_
    rintro s a w ⟨tk, hdf, R, hI⟩
    refine wp_mono (ih _ s a w tk hdf R (hround s R.wf hI)) ?_
    rintro e a' w' ⟨x', s', tk', h1, h2, h3, h4⟩
    cases e <;> simp only [toVE] at h1 <;> cases h1
    · exact ⟨s', ⟨tk', h2, h3, h4.1⟩, h4.2⟩
    · exact ⟨_, s', tk', rfl, h2, h3, h4⟩
    · exact ⟨_, s', tk', rfl, h2, h3, h4⟩
  | exit id => intro Q s a w tk hdf R h; exact wp_exit ⟨_, s, tk, rfl, hdf, R, h⟩
  | ret => intro Q s a w tk hdf R h; exact wp_ret ⟨_, s, tk, rfl, hdf, R, h⟩
  | rangeFunc => intro Q s a w tk _ _ h; exact h.elim
  | scope => intro Q s a w tk _ _ h; exact h.elim
  | label => intro Q s a w tk _ _ h; exact h.elim
  | goto => intro Q s a w tk _ _ h; exact h.elim
  | refuse => intro Q s a w tk _ _ h; exact h.elim
end
end Go.Proofs.Ytpmgaaalfdjikaa
