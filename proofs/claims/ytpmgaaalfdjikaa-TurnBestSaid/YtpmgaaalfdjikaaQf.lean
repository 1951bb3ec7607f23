/- The H semantics, more rules: states that are well formed; a new variable may be made earlier; slices of numbers, nil or not, as one datum. Lemmas; no condition. -/
import Derived.Test.YtpmgaaalfdjikaaQb
namespace Go.Proofs.Ytpmgaaalfdjikaa
open Go.RowKit
set_option linter.unusedSimpArgs false
set_option linter.unusedVariables false

theorem wf_sub {s s' : St} (h : Sub s s') (W : WF s') : WF s := fun x k r hk => by
  rw [h.2.1]
  exact W x k r (by rw [← h.2.2]; exact hk)
theorem wf_init (ds : List D) : WF (initV ds) := fun x k r _ => rfl
theorem evRoots_mem {Γ : Env} {s : St} : ∀ {rs : List (Nat × VX)} {a b : St}, evRoots Γ s rs a = some b → b.m = a.m ∧ b.c = a.c
  | [], a, b, h => by cases h; exact ⟨rfl, rfl⟩
  | (i, x) :: rs, a, b, h => by
    simp only [evRoots] at h
    rw [Option.bind_eq_some_iff] at h
    obtain ⟨d, _, h⟩ := h
    exact evRoots_mem (a := a.set i d) h
theorem cruns_wf {Γ : Env} : ∀ {cs : List CStm} {s s' : St}, WF s → cruns Γ cs s = some s' → WF s'
  | [], s, s', W, h => by cases h; exact W
  | c :: cs, s, s', W, h => by
    simp only [cruns] at h
    rw [Option.bind_eq_some_iff] at h
    obtain ⟨s1, h1, h2⟩ := h
    refine cruns_wf ?_ h2
    cases c with
    | stm st => exact (run_mem W h1).1
    | set rs ts =>
      obtain ⟨e1, e2⟩ := evRoots_mem h1
      intro x k r hk
      rw [e1]
      exact W x k r (by rw [e2] at hk; exact hk)
theorem runs_wf {Γ : Env} : ∀ {cs : List VStm} {s s' : St}, WF s → runs Γ cs s = some s' → WF s'
  | [], s, s', W, h => by cases h; exact W
  | c :: cs, s, s', W, h => by
    simp only [runs] at h
    rw [Option.bind_eq_some_iff] at h
    obtain ⟨s1, h1, h2⟩ := h
    exact runs_wf (run_mem W h1).1 h2
/-- Regions cut, states well formed. -/
theorem wwp_cutW {Γ : Env} {cs : List CStm} {b : WC} {Q : VE → St → Prop} {s : St} (W : WF s) (I : St → Prop) (h1 : runK (cruns Γ cs s) I) (h2 : ∀ s', WF s' → I s' → wwp Γ b Q s') : wwp Γ (.seq (.reg cs) b) Q s := by
  obtain ⟨s', e, hi⟩ := h1
  exact ⟨s', e, h2 s' (cruns_wf W e) hi⟩
theorem wwp_condW {Γ : Env} {v : VArg} {cs : List CStm} {a b : WC} {Q : VE → St → Prop} {s : St} (W : WF s) (I : St → Prop) (h1 : runK (cruns Γ cs s) fun s' => I s' ∧ v.val s'.s = bv false) (h2 : ∀ s', WF s' → I s' → wwp Γ b Q s') :
    wwp Γ (.seq (.seq (.reg cs) (.cond v a .skip)) b) Q s := by
  obtain ⟨s', e, hi, hv⟩ := h1
  refine ⟨s', e, ?_⟩
  show wwp Γ (.cond v a .skip) (VE.thn (wwp Γ b Q) Q) s'
  exact ⟨false, hv, fun h => (by cases h), fun _ => h2 s' (cruns_wf W e) hi⟩

/-- A test that leaves the body, and does not. -/
theorem wwp_condx {Γ : Env} {v : VArg} {cs : List CStm} {a b : WC} {Q : VE → St → Prop} {s : St} (W : WF s) (I : St → Prop) (h1 : runK (cruns Γ cs s) fun s' => v.val s'.s = bv false ∧ I s') (h2 : ∀ s', WF s' → I s' → wwp Γ b Q s') :
    wwp Γ (.seq (.seq (.reg cs) (.cond v a .skip)) b) Q s :=
  wwp_condW W I (by obtain ⟨s', e, h, hi⟩ := h1; exact ⟨s', e, hi, h⟩) h2
/-- The head of a loop's round: goes on. -/
theorem wwp_on {Γ : Env} {cs : List CStm} {t : VArg} {e B : WC} {Q : VE → St → Prop} {s : St} (I : St → Prop) (h1 : runK (cruns Γ cs s) fun s' => t.val s'.s = bv true ∧ I s') (h2 : ∀ s', I s' → wwp Γ B Q s') : wwp Γ (.seq (.reg cs) (.seq (.cond t .skip e) B)) Q s := by
  obtain ⟨s', e', ht, hi⟩ := h1
  refine ⟨s', e', ?_⟩
  show wwp Γ (.cond t .skip e) (VE.thn (wwp Γ B Q) Q) s'
  exact ⟨true, ht, fun _ => h2 s' hi, fun h => (by cases h)⟩
/-- .. leaves. -/
theorem wwp_off {Γ : Env} {cs : List CStm} {t : VArg} {id : Nat} {B : WC} {Q : VE → St → Prop} {s : St} (h1 : runK (cruns Γ cs s) fun s' => t.val s'.s = bv false ∧ Q (.exit id) s') : wwp Γ (.seq (.reg cs) (.seq (.cond t .skip (.exit id)) B)) Q s := by
  obtain ⟨s', e', ht, hq⟩ := h1
  refine ⟨s', e', ?_⟩
  show wwp Γ (.cond t .skip (.exit id)) (VE.thn (wwp Γ B Q) Q) s'
  exact ⟨false, ht, fun h => (by cases h), fun _ => hq⟩
/-- The body of a round, and what follows it. -/
theorem wwp_body {Γ : Env} {id : Nat} {B b : WC} {Q : VE → St → Prop} {s : St} (I : St → Prop) (h1 : wwp Γ B (VE.blk id (VE.thn I Q)) s) (h2 : ∀ s', I s' → wwp Γ b Q s') : wwp Γ (.seq (.block id B) b) Q s := by
  refine wwp_mono (.block id B) (Q := VE.thn I Q) h1 fun e s' hs => ?_
  cases e <;> first | exact h2 _ hs | exact hs

/-- A statement behind which a new variable is made, which may as well be made ahead of it. -/
def boxOK (x : Nat) : VStm → Bool
  | .op y _ args g => y != x && !(args.flatMap VArg.reads ++ guardReads g).contains x
  | .eff (.callq y _ args) none => y != x && !(args.flatMap VArg.reads).contains x
  | _ => false
theorem new_adopt {σ : St} {x y : Nat} (h : y ≠ x) (o : HO) (d d' : D) (m' : Mem) : (σ.new x o d).adopt y d' m' = (σ.adopt y d' m').new x o d := by
  have hc : (σ.new x o d).c y = σ.c y := by simp [St.new, St.inc, St.set, St.put, h]
  have hc2 : (σ.adopt y d' m').c x = σ.c x := by simp [St.adopt, Ne.symm h]
  refine St.ext' ?_ ?_ ?_
  · funext j
    simp only [St.adopt, St.new, St.inc_s, St.set, St.put_s, hc]
    by_cases h1 : j = y
    · subst h1; simp [h, St.tok, hc2, St.inc, St.set, St.put]
    · by_cases h2 : j = x
      · subst h2; simp [h1, St.tok, hc2]
      · simp [h1, h2]
  · funext t
    have e1 : (σ.new x o d).m t = if t = [x + 1, σ.c x] then some o else σ.m t := rfl
    have e2 : ((σ.adopt y d' m').new x o d).m t = if t = [x + 1, σ.c x] then some o else (σ.adopt y d' m').m t := by
      show (if t = [x + 1, (σ.adopt y d' m').c x] then some o else (σ.adopt y d' m').m t) = _
      rw [hc2]
    rw [e2]
    match t with
    | [] => rfl
    | [a] =>
      show (σ.new x o d).m [a] = if [a] = [x + 1, σ.c x] then some o else (σ.adopt y d' m').m [a]
      rw [if_neg (by simp)]
      rw [show (σ.adopt y d' m').m [a] = σ.m [a] from rfl]
      show (if [a] = [x + 1, σ.c x] then some o else σ.m [a]) = _
      rw [if_neg (by simp)]
    | a :: b :: r =>
      show (if a = y + 1 ∧ b = (σ.new x o d).c y then (m' r).map (HO.ren fun t => (y + 1) :: (σ.new x o d).c y :: t) else (σ.new x o d).m (a :: b :: r)) =
        if a :: b :: r = [x + 1, σ.c x] then some o else if a = y + 1 ∧ b = σ.c y then (m' r).map (HO.ren fun t => (y + 1) :: σ.c y :: t) else σ.m (a :: b :: r)
      rw [hc]
      by_cases h1 : a = y + 1 ∧ b = σ.c y
      · rw [if_pos h1, if_neg, if_pos h1]
        intro e
        simp only [List.cons.injEq] at e
        omega
      · rw [if_neg h1, if_neg h1]
        rfl
  · funext j
    have a1 : ((σ.new x o d).adopt y d' m').c j = if j = y then (σ.new x o d).c j + 1 else (σ.new x o d).c j := rfl
    have a2 : ((σ.adopt y d' m').new x o d).c j = if j = x then (σ.adopt y d' m').c j + 1 else (σ.adopt y d' m').c j := rfl
    have a3 : (σ.new x o d).c j = if j = x then σ.c j + 1 else σ.c j := rfl
    have a4 : (σ.adopt y d' m').c j = if j = y then σ.c j + 1 else σ.c j := rfl
    rw [a1, a2, a3, a4]
    by_cases h1 : j = y
    · subst h1; simp [h]
    · by_cases h2 : j = x
      · subst h2; simp [h1]
      · simp [h1, h2]
theorem box_ahead1 {Γ : Env} {x : Nat} {d : D} {b : VStm} {σ σ1 σ2 : St} (W : WF σ) (hb : boxOK x b = true) (h1 : b.run Γ σ = some σ1) (h2 : (VStm.eff (.box x (.c d)) none).run Γ σ1 = some σ2) :
    ∃ σ3, (VStm.eff (.box x (.c d)) none).run Γ σ = some σ3 ∧ b.run Γ σ3 = some σ2 := by
  have box : ∀ σ : St, (VStm.eff (.box x (.c d)) none).run Γ σ = if d.cells.all D.okC then some (σ.new x (.box d.cells) (.ptr (σ.tok x) 0)) else none := fun _ => rfl
  rw [box] at h2
  split at h2
  · rename_i hok
    cases h2
    refine ⟨_, by rw [box, if_pos hok], ?_⟩
    cases b with
    | op y k args g =>
      simp only [boxOK, Bool.and_eq_true, bne_iff_ne, ne_eq, Bool.not_eq_true', List.contains_eq_mem, decide_eq_false_iff_not] at hb
      obtain ⟨d', rfl, hc⟩ := op_run_congr h1
      rw [hc _ (fun j hj => St.new_s fun e => hb.2 (by rw [← e]; exact hj)) (.inl (MSub.new W _ _ _)), St.tok_set]
      rw [St.new_set hb.1]
    | eff e g =>
      cases e <;> cases g <;> simp only [boxOK] at hb <;> try (cases hb; done)
      rename_i y f args
      simp only [Bool.and_eq_true, bne_iff_ne, ne_eq, Bool.not_eq_true', List.contains_eq_mem, decide_eq_false_iff_not] at hb
      have r1 : ∀ σ : St, (VStm.eff (.callq y f args) none).run Γ σ = callqV Γ y f (args.map (VArg.val σ.s)) σ := fun _ => rfl
      rw [r1] at h1 ⊢
      unfold callqV at h1 ⊢
      rw [Option.bind_eq_some_iff] at h1
      obtain ⟨as', ha, h1⟩ := h1
      obtain ⟨q, hq, rfl⟩ := Option.map_eq_some_iff.1 h1
      have e1 : args.map (VArg.val (σ.new x (.box d.cells) (.ptr (σ.tok x) 0)).s) = args.map (VArg.val σ.s) := vals_congr fun j hj => St.new_s fun e => hb.2 (by rw [← e]; exact hj)
      rw [e1, mapM_mono (fun _ _ => viewA_mono (MSub.new W _ _ _)) ha, Option.bind_some, hq, Option.map_some, new_adopt hb.1]
      have : (σ.adopt y q.1 q.2).tok x = σ.tok x := by simp [St.tok, St.adopt, Ne.symm hb.1]
      rw [this]
    | nxt => cases h1
    | bad => cases h1
  · cases h2
theorem box_ahead {Γ : Env} {x : Nat} {d : D} {post : List VStm} : ∀ {pre : List VStm} {σ σ' : St}, WF σ → pre.all (boxOK x) = true → runs Γ (pre ++ .eff (.box x (.c d)) none :: post) σ = some σ' → runs Γ (.eff (.box x (.c d)) none :: (pre ++ post)) σ = some σ'
  | [], σ, σ', _, _, h => h
  | b :: pre, σ, σ', W, hb, h => by
    simp only [List.all_cons, Bool.and_eq_true] at hb
    simp only [List.cons_append, runs] at h
    rw [Option.bind_eq_some_iff] at h
    obtain ⟨σ1, h1, h2⟩ := h
    have h3 := box_ahead (run_mem W h1).1 hb.2 h2
    simp only [runs] at h3
    rw [Option.bind_eq_some_iff] at h3
    obtain ⟨σ2, h4, h5⟩ := h3
    obtain ⟨σ3, h6, h7⟩ := box_ahead1 W hb.1 h1 h4
    simp only [List.cons_append, runs, h6, Option.bind_some, h7]
    exact h5
theorem runs_app {Γ : Env} : ∀ {a b : List VStm} {s s' : St}, runs Γ (a ++ b) s = some s' ↔ ∃ s1, runs Γ a s = some s1 ∧ runs Γ b s1 = some s'
  | [], b, s, s' => by simp [runs]
  | c :: a, b, s, s' => by
    simp only [List.cons_append, runs]
    cases c.run Γ s with
    | none => simp
    | some s1 => simp only [Option.bind_some]; exact runs_app
/-- One order out of another: the variable that is made at j is made at i. -/
def Ahead (l l' : List VStm) : Prop := ∃ (p pre post : List VStm) (x : Nat) (d : D), l = p ++ (pre ++ .eff (.box x (.c d)) none :: post) ∧ l' = p ++ (.eff (.box x (.c d)) none :: (pre ++ post)) ∧ pre.all (boxOK x) = true
theorem ahead_at {l l' : List VStm} (i j x : Nat) (d : D) (hj : l[j]? = some (.eff (.box x (.c d)) none)) (hij : i ≤ j) (hok : ((l.drop i).take (j - i)).all (boxOK x) = true)
    (hl : l' = l.take i ++ (.eff (.box x (.c d)) none :: ((l.drop i).take (j - i) ++ l.drop (j + 1)))) : Ahead l l' := by
  refine ⟨l.take i, (l.drop i).take (j - i), l.drop (j + 1), x, d, ?_, hl, hok⟩
  obtain ⟨h, hj⟩ := List.getElem?_eq_some_iff.1 hj
  have e1 : .eff (.box x (.c d)) none :: l.drop (j + 1) = l.drop j := by rw [← hj]; exact List.getElem_cons_drop h
  rw [e1, show l.drop j = (l.drop i).drop (j - i) by rw [List.drop_drop]; congr 1; omega, List.take_append_drop, List.take_append_drop]
theorem Ahead.runs {Γ : Env} {l l' : List VStm} {s s' : St} (h : Ahead l l') (W : WF s) (hr : runs Γ l s = some s') : runs Γ l' s = some s' := by
  obtain ⟨p, pre, post, x, d, rfl, rfl, hb⟩ := h
  obtain ⟨s1, h1, h2⟩ := runs_app.1 hr
  exact runs_app.2 ⟨s1, h1, box_ahead (runs_wf W h1) hb h2⟩
theorem wwp_drw_a {Γ : Env} {Q : VE → St → Prop} {s : St} {sts0 : List VStm} {rest : List (List VStm)} (W : WF s) (hr : ∀ l ∈ rest, Ahead sts0 l) (h : runK (runs Γ sts0 s) (Q .normal)) : wwp Γ (.drw (sts0 :: rest)) Q s := by
  obtain ⟨s', h1, h2⟩ := h
  refine ⟨s', fun sts hs => ?_, h2⟩
  rcases List.mem_cons.1 hs with rfl | hs
  · exact ⟨s', h1, Sub.refl _⟩
  · exact ⟨s', (hr _ hs).runs W h1, Sub.refl _⟩
theorem wwp_drwW {Γ : Env} {Q : VE → St → Prop} {s : St} {sts0 : List VStm} {rest : List (List VStm)} {b : WC} (W : WF s) (hr : ∀ l ∈ rest, Ahead sts0 l) (I : St → Prop) (h : runK (runs Γ sts0 s) I) (h2 : ∀ s', WF s' → I s' → wwp Γ b Q s') : wwp Γ (.seq (.drw (sts0 :: rest)) b) Q s := by
  obtain ⟨s', h1, hi⟩ := h
  exact wwp_drw_a W hr ⟨s', h1, h2 s' (runs_wf W h1) hi⟩

/-- A slice of numbers: nil, or a row. -/
def hd (t : Tok) (L : List Int) : D := if L = [] then .nil else .sl t 1 0 L.length none
def IA (m : Mem) (t : Tok) (L : List Int) : Prop := L ≠ [] → ∃ g, m t = some (.row g 3 (ints L))
@[simp] theorem hd_def (t : Tok) (L : List Int) : (hd t L).isDef = true := by unfold hd; split <;> rfl
@[simp] theorem hd_okC (t : Tok) (L : List Int) : (hd t L).okC = true := by unfold hd; split <;> rfl
@[simp] theorem hd_len (t : Tok) (L : List Int) : (hd t L).lenD = some L.length := by
  unfold hd
  split
  · rename_i h; subst h; rfl
  · rfl
theorem hd_view {m : Mem} {t : Tok} {L : List Int} (h : IA m t L) : viewA m (hd t L) = some (.list (ints L)) := by
  unfold hd
  split
  · rename_i h; subst h; rfl
  · rename_i hne
    obtain ⟨g, hg⟩ := h hne
    simp [hg]
theorem hd_viewC {m : Mem} {t : Tok} {L : List Int} (h : IA m t L) (n : Nat) : viewC m (n + 1) (hd t L) = some (.list (ints L)) := by
  unfold hd
  split
  · rename_i h; subst h; rfl
  · rename_i hne
    obtain ⟨g, hg⟩ := h hne
    simp [hg]
@[simp] theorem hd_ren (f : Tok → Tok) (t : Tok) (L : List Int) : (hd t L).ren f = hd (f t) L := by unfold hd; split <;> rfl
theorem IA.old {m m' : Mem} {t : Tok} {L : List Int} (h : IA m t L) (hm : ∀ g, m t = some (.row g 3 (ints L)) → m' t = some (.row g 3 (ints L))) : IA m' t L := fun hne => by
  obtain ⟨g, hg⟩ := h hne
  exact ⟨g, hm g hg⟩
theorem chosenR_hd (r b : Nat) : chosenR r b = (hd [] (chosenL r b), if chosenL r b = [] then noMem else rowMem 3 (ints (chosenL r b))) := by
  unfold chosenR hd
  split <;> rfl
theorem lastL_hd (r : Int) (n : Nat) (h : 0 < n) : hd [] (lastL r n) = .sl [] 1 0 n none := by
  unfold hd
  rw [if_neg (fun e => by have := lastL_len r n; rw [e] at this; simp at this; omega), lastL_len]
def hdMem (L : List Int) : Mem := if L = [] then noMem else rowMem 3 (ints L)
theorem IA.adopt {σ : St} {x : Nat} {d : D} {L : List Int} : IA (σ.adopt x d (hdMem L)).m [x + 1, σ.c x] L := fun hne => by
  refine ⟨[x + 1, σ.c x, 0], ?_⟩
  have e : hdMem L = rowMem 3 (ints L) := if_neg hne
  rw [e]
  simp [St.adopt]
end Go.Proofs.Ytpmgaaalfdjikaa
