/- Contracts: plays. Lemmas; no condition. -/
import Derived.Test.YtpmgaaalfdjikaaPb
namespace Go.Proofs.Ytpmgaaalfdjikaa
open Go.RowKit
set_option linter.unusedSimpArgs false
set_option linter.unusedVariables false

def W72 : WC × List VRes := ((.seq (.reg [(.stm (.eff (.box 1 (.t 0)) none)), (.set [(2, (.c .nilmap))] [2])]) (.seq (.reg [(.stm (.eff (.mkm 6) none)), (.set [(3, (.t 6))] [3])]) (.seq (.seq (.reg [(.set [(8, (.ap (.load 1 false) [(.ap (.fld 5) [(.t 1)])])), (9, (.ap .llen [(.ap (.load 1 false) [(.ap (.fld 5) [(.t 1)])])])), (10, (.c (.v (.int .i64 0))))] [7, 8, 9, 10])]) (.block 0 (.loop (.seq (.reg [(.set [(11, (.ap (.ibin .lss) [(.t 10), (.t 9)]))] [11])]) (.seq (.cond (.t 11) .skip (.exit 0)) (.seq (.block 1 (.seq (.reg [(.set [(13, (.ap (.load 5 true) [(.ap (.idx 53 5) [(.t 8), (.t 10)])]))] [12, 13]), (.stm (.eff (.box 5 (.c (.agg [(.v (.int .i64 0)), (.v (.int .i64 0)), (.v (.int .i64 0)), (.v (.int .i64 0)), (.v (.int .i64 0))]))) none)), (.stm (.eff (.store 5 (.t 5) (.t 13)) none))]) (.seq (.reg [(.set [(21, (.ite (.ap (.ibin .gtr) [(.ap (.load 1 false) [(.ap (.fld 2) [(.t 5)])]), (.c (.v (.int .i64 0)))]) (.ap (.ibin .gtr) [(.ap (.load 1 false) [(.ap (.fld 3) [(.t 5)])]), (.c (.v (.int .i64 0)))]) (.c (.v (.bool false)))))] [14, 15, 16, 17, 18, 19, 20, 21])]) (.cond (.t 21) (.drw [[(.op 22 .mv [(.t 3)] none), (.op 23 (.fld 4) [(.t 5)] none), (.op 25 .mv [(.t 3)] none), (.op 26 (.fld 4) [(.t 5)] none), (.op 27 (.load 1 false) [(.t 26)] none), (.op 28 (.lkp [3] .nil false) [(.t 25), (.t 27)] none), (.op 29 (.load 5 true) [(.t 5)] none), (.op 24 (.load 1 false) [(.t 23)] none), (.eff (.lit 30 53 5 1 [(.v (.int .i64 0)), (.v (.int .i64 0)), (.v (.int .i64 0)), (.v (.int .i64 0)), (.v (.int .i64 0))] [(0, 5)] [(.t 29)]) none), (.eff (.app 31 53 5 (.t 28) (.t 30)) none), (.eff (.mupd [3] (.t 22) (.t 24) (.t 31)) none)], [(.op 22 .mv [(.t 3)] none), (.op 23 (.fld 4) [(.t 5)] none), (.op 25 .mv [(.t 3)] none), (.op 26 (.fld 4) [(.t 5)] none), (.op 27 (.load 1 false) [(.t 26)] none), (.op 28 (.lkp [3] .nil false) [(.t 25), (.t 27)] none), (.op 29 (.load 5 true) [(.t 5)] none), (.eff (.lit 30 53 5 1 [(.v (.int .i64 0)), (.v (.int .i64 0)), (.v (.int .i64 0)), (.v (.int .i64 0)), (.v (.int .i64 0))] [(0, 5)] [(.t 29)]) none), (.op 24 (.load 1 false) [(.t 23)] none), (.eff (.app 31 53 5 (.t 28) (.t 30)) none), (.eff (.mupd [3] (.t 22) (.t 24) (.t 31)) none)], [(.op 22 .mv [(.t 3)] none), (.op 23 (.fld 4) [(.t 5)] none), (.op 25 .mv [(.t 3)] none), (.op 26 (.fld 4) [(.t 5)] none), (.op 27 (.load 1 false) [(.t 26)] none), (.op 28 (.lkp [3] .nil false) [(.t 25), (.t 27)] none), (.op 29 (.load 5 true) [(.t 5)] none), (.eff (.lit 30 53 5 1 [(.v (.int .i64 0)), (.v (.int .i64 0)), (.v (.int .i64 0)), (.v (.int .i64 0)), (.v (.int .i64 0))] [(0, 5)] [(.t 29)]) none), (.eff (.app 31 53 5 (.t 28) (.t 30)) none), (.op 24 (.load 1 false) [(.t 23)] none), (.eff (.mupd [3] (.t 22) (.t 24) (.t 31)) none)]]) .skip)))) (.reg [(.set [(10, (.ap (.ibin .add) [(.t 10), (.c (.v (.int .i64 1)))]))] [32, 10])]))))))) (.seq (.reg [(.set [(2, (.t 3))] [33, 2])]) .ret)))), [(.t 2)])
theorem is72 : IsFn Try.prog frOf 72 Try.f72 W72 := ⟨by kernel_rfl, by kernel_rfl, by kernel_rfl⟩
theorem nt72 : Try.f72.ntmps = 34 := by kernel_rfl


/-- A play of a row goes to its set. -/
def addPlay (ps : List (Int × List Row)) (x : Row) : List (Int × List Row) :=
  match ps.findIdx? (fun p => x.s == p.1) with
  | some i => ps.set i (x.s, (ps.getD i (0, [])).2 ++ [x])
  | none => ps ++ [(x.s, [x])]
def played (x : Row) : Bool := decide (0 < x.ns) && decide (0 < x.ew)
def playsOf (l : List Row) : List (Int × List Row) := (l.filter played).foldl addPlay []
theorem playsOf_snoc {l : List Row} {k : Nat} (h : k < l.length) : playsOf (l.take (k + 1)) = if played l[k] then addPlay (playsOf (l.take k)) l[k] else playsOf (l.take k) := by
  rw [List.take_succ_eq_append_getElem h, playsOf, List.filter_append, List.foldl_append]
  cases hp : played l[k] <;> simp [List.filter, hp, playsOf]

theorem addPlay_len (ps : List (Int × List Row)) (x : Row) : (addPlay ps x).length ≤ ps.length + 1 := by
  unfold addPlay; split <;> simp
theorem playsOf_len (l : List Row) : (playsOf l).length ≤ l.length := by
  have key : ∀ (l : List Row) (ps : List (Int × List Row)), (l.foldl addPlay ps).length ≤ ps.length + l.length := by
    intro l
    induction l with
    | nil => intro ps; simp
    | cons x l ih => intro ps; have := ih (addPlay ps x); have := addPlay_len ps x; simp only [List.foldl_cons, List.length_cons]; omega
  have h1 := key (l.filter played) []
  have h2 := List.length_filter_le played l
  simp only [List.length_nil] at h1
  unfold playsOf
  omega
theorem playsOf_each (l : List Row) : ∀ p ∈ playsOf l, p.2.length ≤ l.length := by
  have key : ∀ (l : List Row) (ps : List (Int × List Row)) (n : Nat), (∀ p ∈ ps, p.2.length ≤ n) → ∀ p ∈ l.foldl addPlay ps, p.2.length ≤ n + l.length := by
    intro l
    induction l with
    | nil => intro ps n h; simpa using h
    | cons x l ih =>
      intro ps n h p hp
      have := ih (addPlay ps x) (n + 1) (fun q hq => by
        unfold addPlay at hq
        split at hq
        · rename_i i hi
          rcases List.mem_or_eq_of_mem_set hq with hq | rfl
          · have := h q hq; omega
          · have hil : i < ps.length := (List.findIdx?_eq_some_iff_getElem.1 hi).1
            have h2 := h ps[i] (List.getElem_mem hil)
            simp only [List.getD, List.getElem?_eq_getElem hil, Option.getD_some, List.length_append, List.length_singleton]
            omega
        · rcases List.mem_append.1 hq with hq | hq
          · have := h q hq; omega
          · simp at hq; subst hq; simp) p hp
      simp only [List.length_cons]; omega
  intro p hp
  have h1 := key (l.filter played) [] 0 (by simp) p hp
  have h2 := List.length_filter_le played l
  omega
theorem one_made : 1 ≤ maxMade := by decide
theorem findV_int (s : Int) : ∀ (l : List (Int × D)) (i : Nat), findV [3] (iv s) (l.map fun p => (iv p.1, p.2)) i = some ((l.findIdx? (fun p => s == p.1)).map (· + i))
  | [], i => rfl
  | p :: l, i => by
    have ih := findV_int s l (i + 1)
    simp only [List.map_cons, findV]
    have e : eqKey [3] (iv s) (iv p.1) = some (s == p.1) := by simp [eqKey, eqCells, kindNo]
    rw [e, Option.bind_some]
    cases h : (s == p.1)
    · simp only [Bool.false_eq_true, if_false, ih, List.findIdx?_cons, h, Option.map_map]
      congr 2
      funext a
      simp; omega
    · simp [List.findIdx?_cons, h]

/-- Where a set's plays lie. -/
structure Ent where
  t : Tok
  a : Nat
  s : Int
  l : List Row
def Ent.pair (e : Ent) : Int × D := (e.s, .sl e.t 5 0 e.l.length none)
def Ent.kv (e : Ent) : D × D := (iv e.s, .sl e.t 5 0 e.l.length none)
def Ent.play (e : Ent) : Int × List Row := (e.s, e.l)
/-- The entries in memory: 'c' numbers have been given. -/
structure EntOK (es : List Ent) (m : Mem) (c : Nat) : Prop where
  at_ : ∀ e ∈ es, m e.t = some (.row [32, e.a] 53 (rowsL e.l))
  a : ∀ e ∈ es, e.a < c
  tt : ∀ e ∈ es, ∃ b, e.t = [32, b] ∧ b < c
  dt : es.Pairwise fun e e' => e.t ≠ e'.t
  da : es.Pairwise fun e e' => e.a ≠ e'.a

def playsMem (ps : List (Int × List Row)) : Mem := fun t => match t with
  | [] => some (.map ((List.range ps.length).map fun i => (iv (ps.getD i (0, [])).1, .sl [i + 1] 5 0 (ps.getD i (0, [])).2.length none)))
  | [i + 1] => (ps[i]?).map fun p => .row [0, i] 53 (rowsL p.2)
  | _ => none

theorem addPlay_ents (es : List Ent) (x : Row) : addPlay (es.map Ent.play) x = match es.findIdx? (fun e => x.s == e.s) with
    | some i => (es.map Ent.play).set i (x.s, ((es.map Ent.play).getD i (0, [])).2 ++ [x])
    | none => es.map Ent.play ++ [(x.s, [x])] := by
  unfold addPlay
  rw [List.findIdx?_map]
  rfl
theorem EntOK.push {es : List Ent} {m m' : Mem} {c : Nat} (h : EntOK es m c) {s : Int} {x : Row} (h0 : m [32, c] = none) (hm : ∀ e ∈ es, m' e.t = m e.t) (hn : m' [32, c] = some (.row [32, c] 53 (rowsL [x]))) : EntOK (es ++ [⟨[32, c], c, s, [x]⟩]) m' (c + 1) := by
  refine ⟨fun e he => ?_, fun e he => ?_, fun e he => ?_, ?_, ?_⟩
  · rcases List.mem_append.1 he with he | he
    · rw [hm e he]; exact h.at_ e he
    · simp at he; subst he; exact hn
  · rcases List.mem_append.1 he with he | he
    · have := h.a e he; omega
    · simp at he; subst he; simp
  · rcases List.mem_append.1 he with he | he
    · obtain ⟨b, h1, h2⟩ := h.tt e he; exact ⟨b, h1, by omega⟩
    · simp at he; subst he; exact ⟨c, rfl, by omega⟩
  · refine List.pairwise_append.2 ⟨h.dt, by simp, fun e he e' he' => ?_⟩
    simp at he'; subst he'
    intro e2
    have := h.at_ e he
    simp only at e2
    rw [e2, h0] at this; cases this
  · refine List.pairwise_append.2 ⟨h.da, by simp, fun e he e' he' => ?_⟩
    simp at he'; subst he'
    have := h.a e he
    simp; omega
theorem EntOK.same {es : List Ent} {m m' : Mem} {c : Nat} (h : EntOK es m c) (hm : ∀ e ∈ es, m' e.t = m e.t) : EntOK es m' c :=
  ⟨fun e he => by rw [hm e he]; exact h.at_ e he, h.a, h.tt, h.dt, h.da⟩
theorem pw_get {α : Type} {R : α → α → Prop} (hs : ∀ a b, R a b → R b a) {l : List α} (h : l.Pairwise R) {i j : Nat} (hi : i < l.length) (hj : j < l.length) (hne : i ≠ j) : R l[i] l[j] := by
  rcases Nat.lt_or_gt_of_ne hne with hlt | hlt
  · exact List.pairwise_iff_getElem.1 h i j hi hj hlt
  · exact hs _ _ (List.pairwise_iff_getElem.1 h j i hj hi hlt)
theorem EntOK.grow {es : List Ent} {m m' : Mem} {c i : Nat} (h : EntOK es m c) (hi : i < es.length) {x : Row} (h0 : m [32, c] = none) (hm : ∀ j (hj : j < es.length), j ≠ i → m' es[j].t = m es[j].t)
    (hn : m' [32, c] = some (.row [32, es[i].a] 53 (rowsL (es[i].l ++ [x])))) : EntOK (es.set i { es[i] with t := [32, c], l := es[i].l ++ [x] }) m' (c + 1) := by
  have hget : ∀ j (hj : j < es.length), (es.set i { es[i] with t := [32, c], l := es[i].l ++ [x] })[j]'(by simpa using hj) = if i = j then { es[i] with t := [32, c], l := es[i].l ++ [x] } else es[j] := fun j hj => by
    rw [List.getElem_set]
  have hall : ∀ e ∈ es.set i { es[i] with t := [32, c], l := es[i].l ++ [x] }, e = { es[i] with t := [32, c], l := es[i].l ++ [x] } ∨ ∃ j, ∃ hj : j < es.length, j ≠ i ∧ e = es[j] := fun e he => by
    obtain ⟨j, hj, rfl⟩ := List.getElem_of_mem he
    have hj' : j < es.length := by simpa using hj
    rw [hget j hj']
    split
    · exact .inl rfl
    · rename_i hne; exact .inr ⟨j, hj', fun e => hne e.symm, rfl⟩
  have hnt : ∀ e ∈ es, e.t ≠ [32, c] := fun e he e2 => by
    have := h.at_ e he
    rw [e2, h0] at this; cases this
  refine ⟨fun e he => ?_, fun e he => ?_, fun e he => ?_, ?_, ?_⟩
  · rcases hall e he with rfl | ⟨j, hj, hne, rfl⟩
    · exact hn
    · rw [hm j hj hne]; exact h.at_ _ (List.getElem_mem hj)
  · rcases hall e he with rfl | ⟨j, hj, hne, rfl⟩
    · have := h.a _ (List.getElem_mem hi); simp only; omega
    · have := h.a _ (List.getElem_mem hj); omega
  · rcases hall e he with rfl | ⟨j, hj, hne, rfl⟩
    · exact ⟨c, rfl, by omega⟩
    · obtain ⟨b, h1, h2⟩ := h.tt _ (List.getElem_mem hj); exact ⟨b, h1, by omega⟩
  · rw [List.pairwise_iff_getElem]
    intro p q hp hq hpq
    have hp' : p < es.length := by simpa using hp
    have hq' : q < es.length := by simpa using hq
    rw [hget p hp', hget q hq']
    split <;> split
    · omega
    · exact fun e => hnt _ (List.getElem_mem hq') e.symm
    · exact hnt _ (List.getElem_mem hp')
    · exact pw_get (fun a b hab => Ne.symm hab) h.dt hp' hq' (by omega)
  · rw [List.pairwise_iff_getElem]
    intro p q hp hq hpq
    have hp' : p < es.length := by simpa using hp
    have hq' : q < es.length := by simpa using hq
    rw [hget p hp', hget q hq']
    split <;> split
    · omega
    · exact pw_get (fun a b hab => Ne.symm hab) h.da hi hq' (by omega)
    · exact pw_get (fun a b hab => Ne.symm hab) h.da hp' hi (by omega)
    · exact pw_get (fun a b hab => Ne.symm hab) h.da hp' hq' (by omega)

theorem Out.plays {σ : St} {es : List Ent} {c : Nat} (h7 : σ.m [7, 0] = some (.map (es.map Ent.kv))) (hes : EntOK es σ.m c) : Out σ (.mp [7, 0]) (.mp []) (playsMem (es.map Ent.play)) := by
  let f : Tok → Tok := fun t => match t with
    | [] => [7, 0]
    | [i + 1] => (es[i]?).elim [] Ent.t
    | [0, i] => (es[i]?).elim [] fun e => [32, e.a]
    | _ => []
  have hf1 : ∀ i (h : i < es.length), f [i + 1] = es[i].t := fun i h => by simp [f, h]
  have hf2 : ∀ i (h : i < es.length), f [0, i] = [32, es[i].a] := fun i h => by simp [f, h]
  have hm : ∀ t o, playsMem (es.map Ent.play) t = some o → (t = [] ∧ o = .map ((List.range es.length).map fun i => (iv ((es.map Ent.play).getD i (0, [])).1, .sl [i + 1] 5 0 ((es.map Ent.play).getD i (0, [])).2.length none))) ∨
      ∃ i, ∃ hi : i < es.length, t = [i + 1] ∧ o = .row [0, i] 53 (rowsL es[i].l) := fun t o h => by
    match t, h with
    | [], h => simp only [playsMem, List.length_map, Option.some.injEq] at h; exact .inl ⟨rfl, h.symm⟩
    | [0], h => exact absurd h (by simp [playsMem])
    | [i + 1], h =>
      simp only [playsMem, List.getElem?_map, Option.map_map, Option.map_eq_some_iff] at h
      obtain ⟨e, he, rfl⟩ := h
      obtain ⟨hi, rfl⟩ := List.getElem?_eq_some_iff.1 he
      exact .inr ⟨i, hi, rfl, rfl⟩
    | _ :: _ :: _, h => exact absurd h (by simp [playsMem])
  refine ⟨f, rfl, rfl, fun t o h => ?_, fun t t' o o' h h' hor => ?_⟩
  · rcases hm t o h with ⟨rfl, rfl⟩ | ⟨i, hi, rfl, rfl⟩
    · refine ⟨fun p hp => ?_, ?_⟩
      · obtain ⟨i, _, rfl⟩ := List.mem_map.1 hp
        exact ⟨rfl, rfl⟩
      · show σ.m [7, 0] = _
        rw [h7]
        simp only [HO.ren, List.map_map, Option.some.injEq, HO.map.injEq]
        apply List.ext_getElem
        · simp
        · intro i h1 h2
          have hi : i < es.length := by simpa using h1
          simp [Ent.kv, Ent.play, D.renA, D.renC, hi, hf1 i hi]
    · refine ⟨fun c hc d hd => ?_, ?_⟩
      · have := List.all_eq_true.1 (rowsL_flat es[i].l c hc) d hd
        cases d <;> simp [D.flatC, D.noFC] at this ⊢
      · rw [hf1 i hi, hes.at_ es[i] (List.getElem_mem hi)]
        simp [HO.ren, hf2 i hi]
  · rcases hm t o h with ⟨rfl, rfl⟩ | ⟨i, hi, rfl, rfl⟩ <;> rcases hm t' o' h' with ⟨rfl, rfl⟩ | ⟨j, hj, rfl, rfl⟩
    · rfl
    · exfalso
      rcases hor with h | ⟨h1, _⟩
      · rw [hf1 j hj] at h
        have h2 := hes.at_ es[j] (List.getElem_mem hj)
        rw [← h, show f [] = [7, 0] from rfl, h7] at h2
        cases h2
      · simp [HO.ren, HO.grp] at h1
    · exfalso
      rcases hor with h | ⟨_, h1⟩
      · rw [hf1 i hi] at h
        have h2 := hes.at_ es[i] (List.getElem_mem hi)
        rw [h, show f [] = [7, 0] from rfl, h7] at h2
        cases h2
      · simp [HO.ren, HO.grp] at h1
    · by_cases hij : i = j
      · rw [hij]
      · exfalso
        rcases hor with h | ⟨_, h1⟩
        · rw [hf1 i hi, hf1 j hj] at h
          exact pw_get (fun a b hab => Ne.symm hab) hes.dt hi hj hij h
        · simp only [HO.ren, HO.grp, Option.some.injEq, hf2 i hi, hf2 j hj] at h1
          exact pw_get (fun a b hab => Ne.symm hab) hes.da hi hj hij (by simpa using h1)
theorem c72 (m : Mv) (hm : m.rows.length ≤ 1000000) : VCq Try.prog 72 [.agg m.cells] (.mp []) (playsMem (playsOf m.rows)) := by
  refine wcontract_q sound0 mixed is72 (by rw [nt72]; simp) ?_
  simp [W72, Mv.cells, Mv.cellsW]
  refine wwp_loop (fun σ => ∃ (k : Nat) (es : List Ent), k ≤ m.rows.length ∧ σ.s 10 = iv k ∧ σ.s 9 = iv m.rows.length ∧ σ.s 8 = .list (rowsL m.rows) ∧ σ.s 3 = .mp [7, 0] ∧ σ.m [7, 0] = some (.map (es.map Ent.kv)) ∧ EntOK es σ.m (σ.c 31) ∧ es.map Ent.play = playsOf (m.rows.take k))
    (fun σ => cnt m.rows.length (σ.s 10)) ?_ ?_
  · exact ⟨0, [], by omega, by simp, by simp, by simp, by simp, by simp, ⟨by simp, by simp, by simp, by simp, by simp⟩, by simp [playsOf]⟩
  · rintro σ hw ⟨k, es, hk, h10, h9, h8, h3, m7, hes, hpl⟩
    simp [h10, h9]
    refine condK_dec (fun hlt => ?_) (fun hge => ?_)
    · simp [h8, h10, rowsL_at hlt, Row.cells]
      obtain ⟨x, hx⟩ : ∃ x, x = m.rows[k] := ⟨_, rfl⟩
      rw [← hx]
      refine condK_b (fun hb => ?_) (fun hb => ?_)
      · refine wwp_drw_h [22, 23, 24, 25, 26, 27, 28, 29, 30, 31] (by decide) ?_
        have hfind : findV [3] (iv x.s) (es.map Ent.kv) 0 = some (es.findIdx? (fun e => x.s == e.s)) := by
          have := findV_int x.s (es.map Ent.pair) 0
          rw [List.map_map, List.findIdx?_map] at this
          refine Eq.trans this ?_
          have hid : ∀ o : Option Nat, o.map (· + 0) = o := fun o => by cases o <;> rfl
          rw [hid]; rfl
        have hel : es.length < maxMade := by
          have h1 := playsOf_len (m.rows.take k)
          rw [← hpl, List.length_map, List.length_take] at h1
          unfold maxMade; omega
        cases hfi : es.findIdx? (fun e => x.s == e.s) with
        | none =>
          rw [hfi] at hfind
          simp [h3, h8, h9, h10, m7, hfind, one_made, hel, wrap_succ (show k ≤ 1000000000 by omega)]
          refine ⟨⟨k + 1, by omega, by omega, es ++ [⟨[32, σ.c 31], σ.c 31, x.s, [x]⟩], by simp [Ent.kv], hes.push (hw.tok 31) (fun e he => ?_) (by simp [rowsL, Row.cells]), ?_⟩, by omega⟩
          · have hme := hes.at_ e he
            have n1 := hw.ne hme 30 (σ.c 30) []
            have n2 := hw.ne hme 31 (σ.c 31) []
            have n3 := hw.ne hme 5 (σ.c 5) []
            have n4 : e.t ≠ [7, 0] := fun e2 => by rw [e2, m7] at hme; cases hme
            simp [n1, n2, n3, n4]
          · rw [playsOf_snoc hlt, ← hx, ← hpl, addPlay_ents, hfi]
            simp [played, hb, Ent.play]
        | some i =>
          rw [hfi] at hfind
          have hil : i < es.length := (List.findIdx?_eq_some_iff_getElem.1 hfi).1
          have hei : (es.map Ent.kv)[i]? = some es[i].kv := by simp [hil]
          have hmi := hes.at_ es[i] (List.getElem_mem hil)
          have hlen1 : es[i].l.length + 1 ≤ maxMade := by
            have h1 := playsOf_each (m.rows.take k) es[i].play (by rw [← hpl]; exact List.mem_map_of_mem (List.getElem_mem hil))
            rw [List.length_take] at h1
            simp only [Ent.play] at h1
            unfold maxMade; omega
          have n1 := hw.ne hmi 30 (σ.c 30) []
          have n2 := hw.ne hmi 31 (σ.c 31) []
          have n3 := hw.ne hmi 5 (σ.c 5) []
          simp [h3, h8, h9, h10, m7, hfind, one_made, hel, hei, Ent.kv, hil, hmi, n1, n3, hlen1, wrap_succ (show k ≤ 1000000000 by omega)]
          have hxs : x.s = es[i].s := by
            have := (List.findIdx?_eq_some_iff_getElem.1 hfi).2.1
            simpa using this
          refine ⟨⟨k + 1, by omega, by omega, es.set i { es[i] with t := [32, σ.c 31], l := es[i].l ++ [x] }, by simp [List.map_set, Ent.kv], hes.grow hil (x := x) (hw.tok 31) (fun j hj hne => ?_) ?_, ?_⟩, by omega⟩
          · have hme := hes.at_ es[j] (List.getElem_mem hj)
            have p1 := hw.ne hme 30 (σ.c 30) []
            have p2 := hw.ne hme 31 (σ.c 31) []
            have p3 := hw.ne hme 5 (σ.c 5) []
            have p4 : es[j].t ≠ [7, 0] := fun e2 => by rw [e2, m7] at hme; cases hme
            have p5 : es[j].a ≠ es[i].a := pw_get (fun a b hab => Ne.symm hab) hes.da hj hil hne
            simp [p1, p2, p3, p4, hme, p5]
          · rw [rowsL_append]
            simp [rowsL, Row.cells]
            try exact List.take_of_length_le (by simp)
          · rw [playsOf_snoc hlt, ← hx, ← hpl, addPlay_ents, hfi]
            simp [played, hb, Ent.play, List.map_set, hxs, hil]
      · simp [h3, h8, h9, h10, m7, wrap_succ (show k ≤ 1000000000 by omega)]
        refine ⟨⟨k + 1, by omega, by omega, es, rfl, hes.same fun e he => ?_, ?_⟩, by omega⟩
        · have hme := hes.at_ e he
          have p3 := hw.ne hme 5 (σ.c 5) []
          simp [p3]
        · rw [playsOf_snoc hlt, ← hx, ← hpl]
          simp [played, hb]
    · have hkn : k = m.rows.length := by omega
      subst hkn
      rw [List.take_length] at hpl
      simp [h3]
      rw [← hpl]
      exact Out.plays (by simpa using m7) (hes.same fun e he => by simp)
def S72 : List D → Option (D × Mem)
  | [.agg xs] => (asMv xs).bind fun m => if m.rows.length ≤ 1000000 then some (.mp [], playsMem (playsOf m.rows)) else none
  | _ => none
theorem s72 : OkQ 72 S72 := fun ds d mm h => by
  unfold S72 at h
  split at h
  · rw [Option.bind_eq_some_iff] at h
    obtain ⟨m, hm, h⟩ := h
    split at h <;> cases h
    rw [asMv_eq hm]
    exact c72 m (by assumption)
  · cases h
end Go.Proofs.Ytpmgaaalfdjikaa
