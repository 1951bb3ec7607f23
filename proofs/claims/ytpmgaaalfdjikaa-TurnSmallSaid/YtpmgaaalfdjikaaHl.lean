/- The H semantics: results, and the contracts of functions. Lemmas; no condition. -/
import Derived.Test.YtpmgaaalfdjikaaHk
namespace Go.Proofs.Ytpmgaaalfdjikaa
open Go.RowKit

inductive VRes where
  | t (i : Nat)
  | cell (i n : Nat) (agg : Bool)
  deriving Inhabited

def dRes (P : Program) (n : Nat) : ResultVar → Option VRes
  | .tmp t => if t < n then some (.t t) else none
  | .cell a t => if a < n then (isAggT P t).bind fun g => if (P.info? t).isSome ∧ (g = true ∨ P.cellsOf t = 1) then some (.cell a (P.cellsOf t) g) else none else none

def VRes.val (s : St) : VRes → Option D
  | .t i => some (s.s i)
  | .cell i n g => loadV s.m n g [s.s i]

def resV (rs : List VRes) (s : St) : Option D :=
  match rs with
  | [r] => r.val s
  | rs => (rs.mapM (VRes.val s)).map .tup

def initV (ds : List D) : St := ⟨fun i => ds.getD i .undef, noMem, fun _ => 0⟩

section
variable {P : Program} {w0 w : World} {pr : Prot} {A : Area} {n : Nat} {tk : Places} {cs : Array Value} {s : St}

def resSem (cs : Array Value) : ResultVar → Sem Value
  | .tmp t => pure (cs.getD t undef)
  | .cell a t => do loadVar t (← asAddr (cs.getD a undef))

theorem res_one (R : Rel P w0 pr A n w cs s tk) {rv : ResultVar} {r : VRes} {d : D} (hr : dRes P n rv = some r) (hd : r.val s = some d) :
    ∃ v, (resSem cs rv).run P w = .ok v w ∧ Rep w pr tk v d := by
  cases rv with
  | tmp t =>
    simp only [dRes] at hr
    split at hr <;> cases hr
    have ht : t < n := by assumption
    cases hd
    exact ⟨_, rfl, R.slot t ht⟩
  | cell a t =>
    simp only [dRes] at hr
    split at hr
    · have ha : a < n := by assumption
      obtain ⟨g, hg, hr⟩ := Option.bind_eq_some_iff.1 hr
      split at hr <;> cases hr
      have hc : (P.info? t).isSome = true ∧ (g = true ∨ P.cellsOf t = 1) := by assumption
      have hs := R.slot a ha
      obtain ⟨u, h1, h2⟩ := load_sound R.mem hg hc.1 hc.2 hs hd
      refine ⟨u, ?_, h2⟩
      simp only [resSem]
      generalize cs.getD a undef = c at h1
      cases c <;> simp [Instr.loadAt, Instr.sureAddr] at h1
      rename_i p
      cases p <;> simp at h1
      simpa [asAddr] using h1
    · cases hr

theorem results_eq (fn : Func) (cs : Array Value) : results fn cs = (do let vs ← fn.results.toList.mapM (resSem cs); pure (match vs with | [v] => v | vs => .tuple vs.toArray) : Sem Value) := by
  unfold results
  rw [Array.mapM_eq_mapM_toList]
  simp only [map_eq_pure_bind, bind_assoc, pure_bind]
  congr 1
  funext vs
  congr 1
  match vs with
  | [] => simp
  | [v] => simp
  | _ :: _ :: _ => simp

theorem results_sound (R : Rel P w0 pr A n w cs s tk) {fn : Func} {rs : List VRes} {d : D}
    (hr : fn.results.toList.mapM (dRes P n) = some rs) (hd : resV rs s = some d) : ∃ v, (results fn cs).run P w = .ok v w ∧ Rep w pr tk v d := by
  have many : ∀ (l : List ResultVar) (rs : List VRes) (ds : List D), l.mapM (dRes P n) = some rs → rs.mapM (VRes.val s) = some ds →
      ∃ vs : List Value, (l.mapM (resSem cs)).run P w = .ok vs w ∧ Reps w pr tk vs ds := by
    intro l
    induction l with
    | nil => intro rs ds h1 h2; simp at h1; subst h1; simp at h2; subst h2; exact ⟨[], rfl, trivial⟩
    | cons rv l ih =>
      intro rs ds h1 h2
      simp only [List.mapM_cons, Option.bind_eq_bind, Option.bind_eq_some_iff, Option.pure_def, Option.some.injEq] at h1
      obtain ⟨r, hr, rs', hrs, rfl⟩ := h1
      simp only [List.mapM_cons, Option.bind_eq_bind, Option.bind_eq_some_iff, Option.pure_def, Option.some.injEq] at h2
      obtain ⟨d, hd, ds', hds, rfl⟩ := h2
      obtain ⟨v, g1, g2⟩ := res_one R hr hd
      obtain ⟨vs, g3, g4⟩ := ih rs' ds' hrs hds
      refine ⟨v :: vs, ?_, g2, g4⟩
      rw [List.mapM_cons, Sem.run_bind, g1]
      simp only [Result.andThen_ok, Sem.run_bind, g3, Sem.run_pure]
  have tupled : ∀ (vs : List Value) (ds : List D), Reps w pr tk vs ds → Rep w pr tk (.tuple vs.toArray) (.tup ds) := fun vs ds h =>
    .tup (by simpa using h.length) fun i c x hc hx => reps_get h i c x (by simpa using hc) hx
  rw [results_eq]
  have gen : (rs.mapM (VRes.val s)).map D.tup = some d → rs.length ≠ 1 → ∃ v, ((do let vs ← fn.results.toList.mapM (resSem cs); pure (match vs with | [v] => v | vs => .tuple vs.toArray) : Sem Value)).run P w = .ok v w ∧ Rep w pr tk v d := by
    intro hd hl
    obtain ⟨ds, h1, rfl⟩ := Option.map_eq_some_iff.1 hd
    obtain ⟨vs, g1, g2⟩ := many _ rs ds hr h1
    refine ⟨.tuple vs.toArray, ?_, tupled vs ds g2⟩
    have hlen : vs.length ≠ 1 := by
      rw [g2.length]
      have : ∀ (rs : List VRes) (ds : List D), rs.mapM (VRes.val s) = some ds → ds.length = rs.length := by
        intro rs
        induction rs with
        | nil => intro ds h; simp at h; subst h; rfl
        | cons r rs ih =>
          intro ds h
          simp only [List.mapM_cons, Option.bind_eq_bind, Option.bind_eq_some_iff, Option.pure_def, Option.some.injEq] at h
          obtain ⟨d, _, ds', hds, rfl⟩ := h
          simp [ih ds' hds]
      rw [this rs ds h1]; exact hl
    rw [Sem.run_bind, g1]
    simp only [Result.andThen_ok, Sem.run_pure]
    match vs, hlen with
    | [], _ => rfl
    | [_], h => exact absurd rfl h
    | _ :: _ :: _, _ => rfl
  match rs, hr, hd, gen with
  | [], hr, hd, gen => exact gen hd (by simp)
  | _ :: _ :: _, hr, hd, gen => exact gen hd (by simp)
  | [r], hr, hd, _ =>
    simp only [resV] at hd
    obtain ⟨vs, g1, g2⟩ := many _ [r] [d] hr (by simp [hd])
    match vs, g2 with
    | [v], g2 => exact ⟨v, by rw [Sem.run_bind, g1]; rfl, g2.1⟩

/-- What leans on nothing frozen. -/
def D.noFC : D → Bool
  | .undef | .v _ | .nil | .mt | .list [] | .nilmap | .sl .. | .ptr .. | .rptr .. | .mp _ => true
  | _ => false
def D.noFA : D → Bool
  | .agg xs => xs.all D.noFC
  | d => d.noFC
def D.noF : D → Bool
  | .tup xs => xs.all D.noFA
  | d => d.noFA
def HO.noF : HO → Prop
  | .box xs => ∀ d ∈ xs, D.noFC d = true
  | .row _ _ es => ∀ c ∈ es, ∀ d ∈ c, D.noFC d = true
  | .map es => ∀ p ∈ es, p.1.noFA = true ∧ p.2.noFA = true
  | .iter .. => True

theorem unrenC {f : Tok → Tok} {v : Value} {d : D} (h : Rep w pr tk v (d.renC f)) (hd : d.noFC = true) : Rep w noPr (fun t => tk (f t)) v d := by
  cases d <;> simp only [D.noFC] at hd <;> try (cases hd; done)
  case undef => exact .undef
  case v => cases h; exact .v ‹_›
  case nil => cases h; exact .nil
  case mt => cases h; exact .mt
  case nilmap => cases h; exact .nilmap
  case list es =>
    cases es with
    | nil =>
      cases h with
      | nil' => exact .nil'
      | emp => exact .emp
      | list us a b c e => exact .list (es := []) us a b (fun j hj => by simp at hj) (fun i q hq => by simp at hq)
    | cons => cases hd
  case sl => cases h with | sl a b c d => exact .sl a b c d
  case ptr => cases h with | ptr a => exact .ptr a
  case rptr => cases h with | rptr a => exact .rptr a
  case mp => cases h with | mp a => exact .mp a
theorem unrenA {f : Tok → Tok} {v : Value} {d : D} (h : Rep w pr tk v (d.renA f)) (hd : d.noFA = true) : Rep w noPr (fun t => tk (f t)) v d := by
  cases d
  case agg xs =>
    simp only [D.noFA, List.all_eq_true] at hd
    simp only [D.renA] at h
    cases h with
    | agg h1 h2 h3 =>
      refine .agg (by simpa using h1) h2 fun i c x hc hx => ?_
      exact unrenC (h3 i c (x.renC f) hc (by simp [hx])) (hd x (List.mem_of_getElem? hx))
  case clo => simp [D.noFA, D.noFC] at hd
  all_goals exact unrenC (by simpa only [D.renA] using h) (by simpa only [D.noFA] using hd)
theorem unren {f : Tok → Tok} {v : Value} {d : D} (h : Rep w pr tk v (d.ren f)) (hd : d.noF = true) : Rep w noPr (fun t => tk (f t)) v d := by
  cases d
  case tup xs =>
    simp only [D.noF, List.all_eq_true] at hd
    simp only [D.ren] at h
    cases h with
    | tup h1 h3 =>
      refine .tup (by simpa using h1) fun i c x hc hx => ?_
      exact unrenA (h3 i c (x.renA f) hc (by simp [hx])) (hd x (List.mem_of_getElem? hx))
  all_goals exact unrenA (by simpa only [D.ren] using h) (by simpa only [D.noF] using hd)

theorem unrenO {f : Tok → Tok} {t : Tok} {o : HO} (h : RepO P w pr tk (f t) (o.ren f)) (ho : o.noF) : RepO P w noPr (fun t => tk (f t)) t o := by
  cases o with
  | box xs =>
    obtain ⟨b, cap, C, ty, h1, h2, h3⟩ := h
    refine ⟨b, cap, C, ty, h1, h2, by simpa using h3.1, h3.2.1, fun i c x hc hx => ?_⟩
    exact unrenC (h3.2.2 i c (x.renC f) hc (by simp [hx])) (ho x (List.mem_of_getElem? hx))
  | row g e es =>
    obtain ⟨b, cap, C, h1, h2, h3, h4, h5, h6⟩ := h
    refine ⟨b, cap, C, h1, h2, by simpa using h3, h4, h5, fun c hc => ?_, fun i c hc j d hd => ?_⟩
    · have := h6.1 (c.map (D.renC f)) (List.mem_map.2 ⟨c, hc, rfl⟩)
      simpa using this
    · obtain ⟨u, k1, k2, k3⟩ := h6.2 i (c.map (D.renC f)) (by simp [hc]) j (d.renC f) (by simp [hd])
      exact ⟨u, k1, k2, unrenC k3 (ho c (List.mem_of_getElem? hc) d (List.mem_of_getElem? hd))⟩
  | map es =>
    obtain ⟨b, cap, ents, h1, h2, h3, h4, h5⟩ := h
    refine ⟨b, cap, ents, h1, by simpa using h2, by simpa using h3, by simpa using h4, fun i en p he hp => ?_⟩
    obtain ⟨g1, g2, g3⟩ := h5 i en (p.1.renA f, p.2.renA f) he (by simp [hp])
    have hn := ho p (List.mem_of_getElem? hp)
    exact ⟨g1, unrenA g2 hn.1, unrenA g3 hn.2⟩
  | iter u n seen =>
    obtain ⟨b, cap, b', cap', h1, h2, h3⟩ := h
    exact ⟨b, cap, b', cap', h1, h2, h3⟩

/-- What is handed back, under names of its own. -/
def Out (σ : St) (d0 d : D) (m' : Mem) : Prop :=
  ∃ f : Tok → Tok, d0 = d.ren f ∧ d.noF = true ∧ (∀ t o, m' t = some o → o.noF ∧ σ.m (f t) = some (o.ren f)) ∧
    ∀ t t' o o', m' t = some o → m' t' = some o' → f t = f t' ∨ ((o.ren f).grp.isSome = true ∧ (o.ren f).grp = (o'.ren f).grp) → t = t'

def HasFn (P : Program) (fr : Nat → Nat) (f : Nat) (fn : Func) (vc : VC) (rs : List VRes) : Prop :=
  P.funcs[f]? = some fn ∧ (fn.name == "runtime.NumGoroutine") = false ∧ fn.body.map (dig P fr fn.ntmps) = some vc ∧ fn.results.toList.mapM (dRes P fn.ntmps) = some rs

def okExit : VE → Prop
  | .exit _ => False
  | _ => True

theorem initial {f : Nat} {fn : Func} {cargs : Array Value} {ds : List D} (hpr : ∀ b o, pr b o → b < w.heap.size) (hargs : Reps w pr noTok cargs.toList ds) (hlen : ds.length ≤ fn.ntmps) (_ : f = f) :
    Rel P w pr noArea fn.ntmps w (cargs ++ Array.replicate (fn.ntmps - cargs.size) undef) (initV ds) noTok := by
  have hsz : cargs.size = ds.length := by simpa using hargs.length
  refine ⟨by simp; omega, Chg.refl _ _, hpr, fun _ _ _ h => (show False from h).elim, ⟨fun t o h => (by cases h), fun t t' o o' b c c' h => (by cases h)⟩, fun t o b c h => (by cases h), fun _ _ _ _ => rfl, fun _ => rfl, fun i hi => ?_⟩
  simp only [initV]
  by_cases hlt : i < cargs.size
  · have e : (cargs ++ Array.replicate (fn.ntmps - cargs.size) undef).getD i undef = cargs[i] := by
      simp [Array.getD_eq_getD_getElem?, Array.getElem?_append_left hlt, hlt]
    have hd : i < ds.length := by omega
    rw [e, show ds.getD i .undef = ds[i] by simp [List.getD, hd]]
    exact reps_get hargs i _ _ (by simp [hlt]) (by simp [hd])
  · have e : ds.getD i .undef = .undef := by simp [List.getD, List.getElem?_eq_none (show ds.length ≤ i by omega)]
    rw [e]; exact .undef

theorem vcontract_p {fr : Nat → Nat} {Γ : Env} (hΓ : Sound P Γ) (hm : P.follows .mixedOrders = true) {f : Nat} {fn : Func} {vc : VC} {rs : List VRes} (hf : HasFn P fr f fn vc rs) {ds : List D} {d : D} (hlen : ds.length ≤ fn.ntmps)
    (h : vwp Γ vc (fun e s => okExit e ∧ resV rs s = some d) (initV ds)) (hno : d.noT = true) : VCp P f ds d := by
  obtain ⟨h1, h2, h3, h4⟩ := hf
  obtain ⟨c, hc, rfl⟩ := Option.map_eq_some_iff.1 h3
  refine ⟨⟨fn, h1, by rw [hc]; rfl, h2⟩, fun w pr cargs hpr hargs => ?_⟩
  refine calls_of_wp h1 hc (wp_mono (dig_sound hΓ hm c _ (initV ds) { tmps := cargs ++ Array.replicate (fn.ntmps - cargs.size) undef, defers := [] } w noTok rfl (initial (f := f) hpr hargs hlen rfl) h) ?_)
  rintro e a' w' ⟨x, s', tk', g1, g2, g3, g4, g5⟩
  obtain ⟨v, hv1, hv2⟩ := results_sound g3 h4 g5
  cases e <;> simp only [toVE] at g1 <;> cases g1
  · exact ⟨g2, v, hv1, v, rfl, g3.chg, rep_noT hv2 hno⟩
  · exact g4.elim
  · exact ⟨g2, v, hv1, v, rfl, g3.chg, rep_noT hv2 hno⟩

theorem vcontract_q {fr : Nat → Nat} {Γ : Env} (hΓ : Sound P Γ) (hm : P.follows .mixedOrders = true) {f : Nat} {fn : Func} {vc : VC} {rs : List VRes} (hf : HasFn P fr f fn vc rs) {ds : List D} {d : D} {m' : Mem} (hlen : ds.length ≤ fn.ntmps)
    (h : vwp Γ vc (fun e s => okExit e ∧ ∃ d0, resV rs s = some d0 ∧ Out s d0 d m') (initV ds)) : VCq P f ds d m' := by
  obtain ⟨h1, h2, h3, h4⟩ := hf
  obtain ⟨c, hc, rfl⟩ := Option.map_eq_some_iff.1 h3
  refine ⟨⟨fn, h1, by rw [hc]; rfl, h2⟩, fun w pr cargs hpr hargs => ?_⟩
  refine calls_of_wp h1 hc (wp_mono (dig_sound hΓ hm c _ (initV ds) { tmps := cargs ++ Array.replicate (fn.ntmps - cargs.size) undef, defers := [] } w noTok rfl (initial (f := f) hpr hargs hlen rfl) h) ?_)
  rintro e a' w' ⟨x, s', tk', g1, g2, g3, g4, d0, g5, ρ, rfl, k1, k2, k3⟩
  obtain ⟨v, hv1, hv2⟩ := results_sound g3 h4 g5
  have fin : ∃ tk'', MemOK P w' noPr tk'' m' ∧ (∀ t o b c, m' t = some o → tk'' t = some (b, c) → w.heap.size ≤ b) ∧ Rep w' noPr tk'' v d := by
    refine ⟨fun t => tk' (ρ t), ⟨fun t o ho => unrenO (g3.mem.obj (ρ t) _ (k2 t o ho).2) (k2 t o ho).1, fun t t' o o' b c c' ho ho' ht ht' => .inl (k3 t t' o o' ho ho' (g3.mem.inj (ρ t) (ρ t') _ _ b c c' (k2 t o ho).2 (k2 t' o' ho').2 ht ht'))⟩,
      fun t o b c ho ht => (g3.live (ρ t) _ b c (k2 t o ho).2 ht).resolve_right id, unren hv2 k1⟩
  obtain ⟨tk'', f1, f2, f3⟩ := fin
  cases e <;> simp only [toVE] at g1 <;> cases g1
  · exact ⟨g2, v, hv1, v, tk'', rfl, g3.chg, f1, f2, f3⟩
  · exact g4.elim
  · exact ⟨g2, v, hv1, v, tk'', rfl, g3.chg, f1, f2, f3⟩

/-- A caller's names, in the callee. -/
def up (t : Tok) : Tok := 0 :: t
def upM (m : Mem) : Mem := fun t => match t with
  | 0 :: r => (m r).map (HO.ren up)
  | _ => none
def initM (m : Mem) (ds : List D) : St := ⟨fun i => (ds.map (D.ren up)).getD i .undef, upM m, fun _ => 0⟩

theorem initial_m {fn : Func} {cargs : Array Value} {ds : List D} {m : Mem} (hpr : ∀ b o, pr b o → b < w.heap.size) (hprA : ∀ b o, pr b o → ¬ blocksOf tk m b) (M : MemOK P w pr tk m) (hargs : Reps w pr tk cargs.toList ds) (hlen : ds.length ≤ fn.ntmps) :
    Rel P w pr ⟨blocksOf tk m, tk⟩ fn.ntmps w (cargs ++ Array.replicate (fn.ntmps - cargs.size) undef) (initM m ds) (upPl tk) := by
  have hsz : cargs.size = ds.length := by simpa using hargs.length
  have hum : ∀ t o, upM m t = some o → ∃ r q, t = up r ∧ m r = some q ∧ o = q.ren up := fun t o h => by
    match t, h with
    | [], h => cases h
    | 0 :: r, h => obtain ⟨q, hq, rfl⟩ := Option.map_eq_some_iff.1 h; exact ⟨r, q, rfl, hq, rfl⟩
    | (_ + 1) :: _, h => cases h
  have hup : ∀ t p, tk t = some p → upPl tk (up t) = some p := fun _ _ h => h
  refine ⟨by simp; omega, Chg.refl _ _, hpr, hprA, ⟨fun t o h => ?_, fun t t' o o' b c c' h h' ht ht' => ?_⟩, fun t o b c h ht => ?_, fun _ _ _ _ => rfl, fun _ => rfl, fun i hi => ?_⟩
  · obtain ⟨r, q, rfl, hq, rfl⟩ := hum t o h
    exact (M.obj r q hq).ren (fun _ _ h => h) hup
  · obtain ⟨r, q, rfl, hq, rfl⟩ := hum t o h
    obtain ⟨r', q', rfl, hq', rfl⟩ := hum t' o' h'
    rcases M.inj r r' q q' b c c' hq hq' ht ht' with h | ⟨h1, h2⟩
    · exact .inl (by rw [h])
    · right
      rw [HO.ren_grp, HO.ren_grp, h2]
      exact ⟨by rw [← h2]; simpa using h1, rfl⟩
  · obtain ⟨r, q, rfl, hq, rfl⟩ := hum t o h
    exact .inr ⟨r, q, c, hq, ht⟩
  · simp only [initM]
    by_cases hlt : i < cargs.size
    · have e : (cargs ++ Array.replicate (fn.ntmps - cargs.size) undef).getD i undef = cargs[i] := by
        simp [Array.getD_eq_getD_getElem?, Array.getElem?_append_left hlt, hlt]
      have hd : i < ds.length := by omega
      rw [e, show (ds.map (D.ren up)).getD i .undef = ds[i].ren up by simp [List.getD, hd]]
      exact (reps_get hargs i _ _ (by simp [hlt]) (by simp [hd])).ren (fun _ _ h => ⟨rfl, h⟩) hup
    · have e : (ds.map (D.ren up)).getD i .undef = .undef := by simp [List.getD, List.getElem?_eq_none (show ds.length ≤ i by omega)]
      rw [e]; exact .undef

theorem vcontract_m {fr : Nat → Nat} {Γ : Env} (hΓ : Sound P Γ) (hm : P.follows .mixedOrders = true) {f : Nat} {fn : Func} {vc : VC} {rs : List VRes} (hf : HasFn P fr f fn vc rs) {m : Mem} {ds : List D} {d : D} {m' : Mem} (hlen : ds.length ≤ fn.ntmps)
    (h : vwp Γ vc (fun e s => okExit e ∧ resV rs s = some d ∧ ∀ t o, m' t = some o → s.m t = some o) (initM m ds)) : VCm P f m ds d m' := by
  obtain ⟨h1, h2, h3, h4⟩ := hf
  obtain ⟨c, hc, rfl⟩ := Option.map_eq_some_iff.1 h3
  refine ⟨⟨fn, h1, by rw [hc]; rfl, h2⟩, fun w pr tk cargs hpr hprA M hargs => ?_⟩
  refine calls_of_wp h1 hc (wp_mono (dig_sound hΓ hm c _ (initM m ds) { tmps := cargs ++ Array.replicate (fn.ntmps - cargs.size) undef, defers := [] } w (upPl tk) rfl (initial_m hpr hprA M hargs hlen) h) ?_)
  rintro e a' w' ⟨x, s', tk', g1, g2, g3, g4, g5, g6⟩
  obtain ⟨v, hv1, hv2⟩ := results_sound g3 h4 g5
  have hmem : MemOK P w' pr tk' m' := ⟨fun t o ho => g3.mem.obj t o (g6 t o ho), fun t t' o o' b c c' h1 h2 => g3.mem.inj t t' o o' b c c' (g6 _ _ h1) (g6 _ _ h2)⟩
  cases e <;> simp only [toVE] at g1 <;> cases g1
  · exact ⟨g2, v, hv1, v, tk', rfl, g3.chg, g3.zero, hmem, fun t o b c ho => g3.live t o b c (g6 t o ho), hv2⟩
  · exact g4.elim
  · exact ⟨g2, v, hv1, v, tk', rfl, g3.chg, g3.zero, hmem, fun t o b c ho => g3.live t o b c (g6 t o ho), hv2⟩
end
end Go.Proofs.Ytpmgaaalfdjikaa
