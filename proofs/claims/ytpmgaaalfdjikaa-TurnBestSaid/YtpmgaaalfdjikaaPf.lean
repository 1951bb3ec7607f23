/- Contracts: compare. Lemmas; no condition. -/
import Derived.Test.YtpmgaaalfdjikaaPe
namespace Go.Proofs.Ytpmgaaalfdjikaa
open Go.RowKit
set_option linter.unusedSimpArgs false
set_option linter.unusedVariables false

def W54 : WC × List VRes := ((.seq (.reg [(.stm (.eff (.box 1 (.t 0)) none)), (.set [(2, (.c (.v (.pointer none))))] [2])]) (.seq (.reg [(.set [(11, (.ap (.build (zrep 2500 (.v (.int .i64 0))) []) []))] [11]), (.stm (.eff (.box 12 (.t 11)) none)), (.set [(3, (.t 12))] [3])]) (.seq (.seq (.reg [(.set [(13, (.ap (.load 6 true) [(.t 1)]))] [13]), (.stm (.eff (.callq 14 72 [(.t 13)]) none)), (.stm (.eff (.rng 15 (.t 14)) none))]) (.block 0 (.loop (.seq (.seq (.reg []) (.seq (.nxt 16 (.t 15)) (.reg [(.set [(17, (.ap (.ext 0) [(.t 16)]))] [17])]))) (.seq (.cond (.t 17) .skip (.exit 0)) (.block 1 (.seq (.reg [(.set [(5, (.ap (.ext 1) [(.ap .ent [(.t 15)])]))] [18, 19, 5])]) (.seq (.reg [(.set [(20, (.t 5)), (21, (.ap .llen [(.t 5)])), (22, (.c (.v (.int .i64 0))))] [20, 21, 22])]) (.block 2 (.loop (.seq (.reg [(.set [(23, (.ap (.ibin .lss) [(.t 22), (.t 21)]))] [23])]) (.seq (.cond (.t 23) .skip (.exit 2)) (.seq (.block 3 (.seq (.reg [(.set [(25, (.ap (.load 5 true) [(.ap (.idx 53 5) [(.t 20), (.t 22)])]))] [24, 25]), (.stm (.eff (.box 7 (.c (.agg [(.v (.int .i64 0)), (.v (.int .i64 0)), (.v (.int .i64 0)), (.v (.int .i64 0)), (.v (.int .i64 0))]))) none)), (.stm (.eff (.store 5 (.t 7) (.t 25)) none))]) (.seq (.reg [(.set [(26, (.t 5)), (27, (.ap .llen [(.t 5)])), (28, (.c (.v (.int .i64 0))))] [26, 27, 28])]) (.block 4 (.loop (.seq (.reg [(.set [(29, (.ap (.ibin .lss) [(.t 28), (.t 27)]))] [29])]) (.seq (.cond (.t 29) .skip (.exit 4)) (.seq (.block 5 (.seq (.reg [(.set [(31, (.ap (.load 5 true) [(.ap (.idx 53 5) [(.t 26), (.t 28)])]))] [30, 31]), (.stm (.eff (.box 9 (.c (.agg [(.v (.int .i64 0)), (.v (.int .i64 0)), (.v (.int .i64 0)), (.v (.int .i64 0)), (.v (.int .i64 0))]))) none)), (.stm (.eff (.store 5 (.t 9) (.t 31)) none))]) (.seq (.seq (.reg [(.set [(34, (.ap (.aeq false [3, 3, 3, 3, 3]) [(.ap (.load 5 true) [(.t 7)]), (.ap (.load 5 true) [(.t 9)])]))] [32, 33, 34])]) (.cond (.t 34) (.seq (.reg [(.set [(47, (.ap (.ibin .add) [(.ap (.load 1 false) [(.ap (.aidx 50 1) [(.ap (.aidx 50 50) [(.ap .chk [(.t 3)]), (.ap (.load 1 false) [(.ap (.fld 2) [(.t 7)])])]), (.ap (.load 1 false) [(.ap (.fld 3) [(.t 7)])])])]), (.ap (.ibin .sub) [(.ap .llen [(.t 5)]), (.c (.v (.int .i64 1)))])])), (50, (.ap (.aidx 50 1) [(.ap (.aidx 50 50) [(.ap .chk [(.t 3)]), (.ap (.load 1 false) [(.ap (.fld 2) [(.t 7)])])]), (.ap (.load 1 false) [(.ap (.fld 3) [(.t 7)])])]))] [35, 36, 37, 38, 39, 40, 41, 42, 43, 44, 45, 46, 47, 48, 49, 50]), (.stm (.eff (.store 1 (.t 50) (.t 47)) none))]) (.seq (.reg [(.set [(63, (.ap (.ibin .add) [(.ap (.load 1 false) [(.ap (.aidx 50 1) [(.ap (.aidx 50 50) [(.ap .chk [(.t 3)]), (.ap (.load 1 false) [(.ap (.fld 3) [(.t 7)])])]), (.ap (.load 1 false) [(.ap (.fld 2) [(.t 7)])])])]), (.ap (.ibin .sub) [(.ap .llen [(.t 5)]), (.c (.v (.int .i64 1)))])])), (66, (.ap (.aidx 50 1) [(.ap (.aidx 50 50) [(.ap .chk [(.t 3)]), (.ap (.load 1 false) [(.ap (.fld 3) [(.t 7)])])]), (.ap (.load 1 false) [(.ap (.fld 2) [(.t 7)])])]))] [51, 52, 53, 54, 55, 56, 57, 58, 59, 60, 61, 62, 63, 64, 65, 66]), (.stm (.eff (.store 1 (.t 66) (.t 63)) none))]) (.exit 5))) .skip)) (.seq (.reg [(.set [(76, (.ap (.ibin .add) [(.ap (.load 1 false) [(.ap (.aidx 50 1) [(.ap (.aidx 50 50) [(.ap .chk [(.t 3)]), (.ap (.load 1 false) [(.ap (.fld 2) [(.t 7)])])]), (.ap (.load 1 false) [(.ap (.fld 2) [(.t 9)])])])]), (.c (.v (.int .i64 1)))])), (79, (.ap (.aidx 50 1) [(.ap (.aidx 50 50) [(.ap .chk [(.t 3)]), (.ap (.load 1 false) [(.ap (.fld 2) [(.t 7)])])]), (.ap (.load 1 false) [(.ap (.fld 2) [(.t 9)])])]))] [67, 68, 69, 70, 71, 72, 73, 74, 75, 76, 77, 78, 79]), (.stm (.eff (.store 1 (.t 79) (.t 76)) none))]) (.seq (.reg [(.set [(89, (.ap (.ibin .add) [(.ap (.load 1 false) [(.ap (.aidx 50 1) [(.ap (.aidx 50 50) [(.ap .chk [(.t 3)]), (.ap (.load 1 false) [(.ap (.fld 3) [(.t 7)])])]), (.ap (.load 1 false) [(.ap (.fld 3) [(.t 9)])])])]), (.c (.v (.int .i64 1)))])), (92, (.ap (.aidx 50 1) [(.ap (.aidx 50 50) [(.ap .chk [(.t 3)]), (.ap (.load 1 false) [(.ap (.fld 3) [(.t 7)])])]), (.ap (.load 1 false) [(.ap (.fld 3) [(.t 9)])])]))] [80, 81, 82, 83, 84, 85, 86, 87, 88, 89, 90, 91, 92]), (.stm (.eff (.store 1 (.t 92) (.t 89)) none))]) (.seq (.reg [(.set [(102, (.ap (.ibin .sub) [(.ap (.load 1 false) [(.ap (.aidx 50 1) [(.ap (.aidx 50 50) [(.ap .chk [(.t 3)]), (.ap (.load 1 false) [(.ap (.fld 2) [(.t 7)])])]), (.ap (.load 1 false) [(.ap (.fld 3) [(.t 9)])])])]), (.c (.v (.int .i64 1)))])), (105, (.ap (.aidx 50 1) [(.ap (.aidx 50 50) [(.ap .chk [(.t 3)]), (.ap (.load 1 false) [(.ap (.fld 2) [(.t 7)])])]), (.ap (.load 1 false) [(.ap (.fld 3) [(.t 9)])])]))] [93, 94, 95, 96, 97, 98, 99, 100, 101, 102, 103, 104, 105]), (.stm (.eff (.store 1 (.t 105) (.t 102)) none))]) (.reg [(.set [(115, (.ap (.ibin .sub) [(.ap (.load 1 false) [(.ap (.aidx 50 1) [(.ap (.aidx 50 50) [(.ap .chk [(.t 3)]), (.ap (.load 1 false) [(.ap (.fld 3) [(.t 7)])])]), (.ap (.load 1 false) [(.ap (.fld 2) [(.t 9)])])])]), (.c (.v (.int .i64 1)))])), (118, (.ap (.aidx 50 1) [(.ap (.aidx 50 50) [(.ap .chk [(.t 3)]), (.ap (.load 1 false) [(.ap (.fld 3) [(.t 7)])])]), (.ap (.load 1 false) [(.ap (.fld 2) [(.t 9)])])]))] [106, 107, 108, 109, 110, 111, 112, 113, 114, 115, 116, 117, 118]), (.stm (.eff (.store 1 (.t 118) (.t 115)) none))]))))))) (.reg [(.set [(28, (.ap (.ibin .add) [(.t 28), (.c (.v (.int .i64 1)))]))] [119, 28])]))))))))) (.reg [(.set [(22, (.ap (.ibin .add) [(.t 22), (.c (.v (.int .i64 1)))]))] [120, 22])])))))))))))))) (.seq (.seq (.reg [(.set [(10, (.c (.v (.int .i64 1))))] [10])]) (.block 6 (.loop (.seq (.seq (.reg [(.set [(122, (.ap (.ibin .leq) [(.t 10), (.c (.v (.int .i64 49)))]))] [121, 122])]) (.cond (.t 122) .skip (.exit 6))) (.seq (.block 7 (.reg [(.set [(130, (.ap (.aidx 50 1) [(.ap (.aidx 50 50) [(.ap .chk [(.t 3)]), (.t 10)]), (.t 10)]))] [125, 126, 127, 128, 129, 130]), (.stm (.eff (.store 1 (.t 130) (.c (.v (.int .i64 0)))) none))])) (.reg [(.set [(10, (.ap (.ibin .add) [(.t 10), (.c (.v (.int .i64 1)))]))] [123, 124, 10])])))))) (.seq (.reg [(.set [(2, (.t 3))] [131, 2])]) .ret))))), [(.t 2)])
theorem is54 : IsFn Try.prog frOf 54 Try.f54 W54 := ⟨by kernel_rfl, by kernel_rfl, by kernel_rfl⟩
theorem nt54 : Try.f54.ntmps = 132 := by kernel_rfl


def cellOf (p q : Int) : Nat := p.toNat * 50 + q.toNat
def hit (q i : Nat) (v : Int) : Int := if i = q then v else 0
/-- What two plays of a set give to the contests. -/
def contr (n : Int) (a b : Row) (i : Nat) : Int :=
  if a = b then hit (cellOf a.ns a.ew) i (n - 1) + hit (cellOf a.ew a.ns) i (n - 1)
  else hit (cellOf a.ns b.ns) i 1 + hit (cellOf a.ew b.ew) i 1 + hit (cellOf a.ns b.ew) i (-1) + hit (cellOf a.ew b.ns) i (-1)
def sumB (n : Int) (a : Row) (l : List Row) (i : Nat) : Int := (l.map fun b => contr n a b i).sum
def sumA (L l : List Row) (i : Nat) : Int := (l.map fun a => sumB L.length a L i).sum
def setSum (L : List Row) (i : Nat) : Int := sumA L L i
def allSum (ps : List (Int × List Row)) (i : Nat) : Int := (ps.map fun p => setSum p.2 i).sum
def seenSum (ps : List (Int × List Row)) (seen : List Nat) (i : Nat) : Int := (seen.map fun k => setSum (ps.getD k (0, [])).2 i).sum
theorem sumB_snoc (n : Int) (a : Row) {l : List Row} {k : Nat} (h : k < l.length) (i : Nat) : sumB n a (l.take (k + 1)) i = sumB n a (l.take k) i + contr n a l[k] i := by
  rw [List.take_succ_eq_append_getElem h, sumB, sumB, List.map_append, List.sum_append]; simp only [List.map_cons, List.map_nil, List.sum_cons, List.sum_nil, Int.add_zero]
theorem sumA_snoc (L : List Row) {l : List Row} {k : Nat} (h : k < l.length) (i : Nat) : sumA L (l.take (k + 1)) i = sumA L (l.take k) i + sumB L.length l[k] L i := by
  rw [List.take_succ_eq_append_getElem h, sumA, sumA, List.map_append, List.sum_append]; simp only [List.map_cons, List.map_nil, List.sum_cons, List.sum_nil, Int.add_zero]
theorem seenSum_snoc (ps : List (Int × List Row)) (seen : List Nat) (k i : Nat) : seenSum ps (seen ++ [k]) i = seenSum ps seen i + setSum (ps.getD k (0, [])).2 i := by simp [seenSum]
theorem perm_sum {l l' : List Int} (h : l.Perm l') : l.sum = l'.sum := by
  induction h with
  | nil => rfl
  | cons x _ ih => simp [ih]
  | swap x y l => simp; omega
  | trans _ _ h1 h2 => exact h1.trans h2
theorem seenSum_all {ps : List (Int × List Row)} {seen : List Nat} (hn : seen.Nodup) (hlt : ∀ i ∈ seen, i < ps.length) (hall : ∀ i, i < ps.length → i ∈ seen) (i : Nat) : seenSum ps seen i = allSum ps i := by
  have hp : seen.Perm (List.range ps.length) := (List.perm_ext_iff_of_nodup hn List.nodup_range).2 fun a => ⟨fun h => List.mem_range.2 (hlt a h), fun h => hall a (List.mem_range.1 h)⟩
  have e : (List.range ps.length).map (fun k => setSum (ps.getD k (0, [])).2 i) = ps.map fun p => setSum p.2 i := by
    apply List.ext_getElem
    · simp
    · intro j h1 h2
      have hj : j < ps.length := by simpa using h1
      simp [hj]
  unfold seenSum allSum
  rw [← e]
  exact perm_sum (hp.map _)

theorem wrap_wrap (x v : Int) : IntKind.i64.wrap (IntKind.i64.wrap x + v) = IntKind.i64.wrap (x + v) := by simp only [IntKind.wrap_i64]; omega
theorem upd_tab (S : Nat → Int) (q : Nat) (v : Int) : (tab 2500 fun i => if i = q then iv (IntKind.i64.wrap (IntKind.i64.wrap (S q) + v)) else iv (IntKind.i64.wrap (S i))) = tab 2500 fun i => iv (IntKind.i64.wrap (S i + hit q i v)) := by
  refine tab_congr fun i _ => ?_
  by_cases h : i = q
  · subst h; simp [hit, wrap_wrap]
  · simp [hit, h]

theorem upd_sub (S : Nat → Int) (q : Nat) : (tab 2500 fun i => if i = q then iv (IntKind.i64.wrap (IntKind.i64.wrap (S q) - 1)) else iv (IntKind.i64.wrap (S i))) = tab 2500 fun i => iv (IntKind.i64.wrap (S i + hit q i (-1))) := upd_tab S q (-1)
def mapOf (ps : List (Int × List Row)) : List (D × D) := (List.range ps.length).map fun i => (iv (ps.getD i (0, [])).1, .sl [15, 0, i + 1] 5 0 (ps.getD i (0, [])).2.length none)
theorem mapOf_len (ps : List (Int × List Row)) : (mapOf ps).length = ps.length := by simp [mapOf]
theorem playsOf_mem {l : List Row} : ∀ p ∈ playsOf l, ∀ x ∈ p.2, x ∈ l := by
  have key : ∀ (l : List Row) (ps : List (Int × List Row)) (S : List Row), (∀ p ∈ ps, ∀ x ∈ p.2, x ∈ S) → (∀ x ∈ l, x ∈ S) → ∀ p ∈ l.foldl addPlay ps, ∀ x ∈ p.2, x ∈ S := by
    intro l
    induction l with
    | nil => intro ps S h _; simpa using h
    | cons y l ih =>
      intro ps S h hl
      refine ih (addPlay ps y) S (fun q hq => ?_) fun x hx => hl x (List.mem_cons_of_mem _ hx)
      unfold addPlay at hq
      split at hq
      · rename_i i hi
        rcases List.mem_or_eq_of_mem_set hq with hq | rfl
        · exact h q hq
        · have hil : i < ps.length := (List.findIdx?_eq_some_iff_getElem.1 hi).1
          intro x hx
          simp only [List.getD, List.getElem?_eq_getElem hil, Option.getD_some, List.mem_append, List.mem_singleton] at hx
          rcases hx with hx | rfl
          · exact h ps[i] (List.getElem_mem hil) x hx
          · exact hl _ List.mem_cons_self
      · rcases List.mem_append.1 hq with hq | hq
        · exact h q hq
        · simp at hq; subst hq
          intro x hx
          simp at hx; subst hx
          exact hl _ List.mem_cons_self
  intro p hp x hx
  exact key (l.filter played) [] l (by simp) (fun x hx => (List.mem_filter.1 hx).1) p hp x hx
structure Fr (ps : List (Int × List Row)) (seen : List Nat) (E : Nat → Int) (σ : St) : Prop where
  s3 : σ.s 3 = .ptr [13, 0] 0
  s15 : σ.s 15 = .ptr [16, 0] 0
  m13 : σ.m [13, 0] = some (.box (tab 2500 fun i => iv (IntKind.i64.wrap (E i))))
  m16 : σ.m [16, 0] = some (.iter [15, 0] ps.length seen)
  m15 : σ.m [15, 0] = some (.map (mapOf ps))
  rows : ∀ i (h : i < ps.length), σ.m [15, 0, i + 1] = some (.row [15, 0, 0, i] 53 (rowsL ps[i].2))
def conT (m : Mv) (i : Nat) : Int := if i / 50 = i % 50 ∧ 1 ≤ i / 50 then 0 else IntKind.i64.wrap (allSum (playsOf m.rows) i)

def env54 : Env := mkEnv [] [(72, S72)] []
@[simp] theorem env54_q (f : Nat) (ds : List D) : env54.q f ds = (look [(72, S72)] f).bind fun s => s ds := rfl
theorem sound54 : Sound Try.prog env54 := sound_mk (by simp) (by simp [s72]) (by simp)
theorem c54 (m : Mv) (hm : m.rows.length ≤ 1000000) (hr : ∀ x ∈ m.rows, 0 ≤ x.ns ∧ x.ns ≤ 49 ∧ 0 ≤ x.ew ∧ x.ew ≤ 49) :
    VCq Try.prog 54 [.agg m.cells] (.ptr [] 0) (boxMem (tab 2500 fun i => iv (conT m i))) := by
  refine wcontract_q sound54 mixed is54 (by rw [nt54]; simp) ?_
  obtain ⟨ps, hps⟩ : ∃ ps, ps = playsOf m.rows := ⟨_, rfl⟩
  simp [W54, Mv.cells, Mv.cellsW, S72, hm, playsMem]
  refine wwp_loop (fun σ => ∃ seen : List Nat, seen.Nodup ∧ (∀ i ∈ seen, i < ps.length) ∧ Fr ps seen (seenSum ps seen) σ) (fun σ => match σ.m [16, 0] with | some (.iter _ n seen) => n - seen.length | _ => 0) ?_ ?_
  · rw [← hps]
    refine ⟨[], by simp, by simp, ⟨by simp, by simp, by simp [seenSum], by simp, ?_, fun i hi => ?_⟩⟩
    · simp [playsMem, mapOf, List.map_map, Function.comp_def, D.renA]
    · simp [playsMem, hi]
  · rintro σ hw ⟨seen, hn, hlt, hf⟩
    simp [hf.s15]
    refine ⟨[16, 0], [15, 0], ps.length, seen, mapOf ps, rfl, hf.m16, hf.m15, by simp [mapOf], fun hall => ?_, fun i p hp hi => ?_⟩
    · simp
      have hsum : ∀ c, seenSum ps seen c = allSum ps c := seenSum_all hn hlt hall
      refine wwp_loop (fun σ' => ∃ p : Nat, 1 ≤ p ∧ p ≤ 50 ∧ σ'.s 10 = iv p ∧ σ'.s 3 = .ptr [13, 0] 0 ∧ σ'.m [13, 0] = some (.box (tab 2500 fun c => iv (if c / 50 = c % 50 ∧ 1 ≤ c / 50 ∧ c / 50 < p then 0 else IntKind.i64.wrap (allSum ps c))))) (fun σ' => cnt 50 (σ'.s 10)) ?_ ?_
      · refine ⟨1, by omega, by omega, by simp, by simp [hf.s3], ?_⟩
        simp [hf.m13]
        refine tab_congr fun c _ => ?_
        rw [hsum, if_neg (by omega)]
      · rintro σ' hw' ⟨p, hp1, hp50, e10, e3, n13⟩
        simp [e10]
        refine condK_dec (fun hlt => ?_) (fun hge => ?_)
        · have q1 : p * 50 + p < 2500 := by omega
          have q2 : p * 50 + p ≤ 2499 := by omega
          have q3 : (p : Int) < 50 := by omega
          simp [e10, e3, n13, q1, q2, q3, tab_put q1, wrap_succ (show p ≤ 1000000000 by omega)]
          refine ⟨⟨p + 1, by omega, by omega, by omega, ?_⟩, by omega⟩
          refine tab_congr fun c _ => ?_
          by_cases hc : c = p * 50 + p
          · rw [if_pos hc, if_pos (by omega)]
          · rw [if_neg hc]
            refine congrArg (fun z => iv z) (ite_iff ?_)
            omega
        · simp [e3, n13]
          have hp : p = 50 := by omega
          subst hp
          have e : (tab 2500 fun c => iv (if c / 50 = c % 50 ∧ 1 ≤ c / 50 ∧ c / 50 < 50 then 0 else IntKind.i64.wrap (allSum ps c))) = tab 2500 fun c => iv (conT m c) := by
            refine tab_congr fun c hc => ?_
            rw [hps]
            unfold conT
            refine congrArg (fun z => iv z) (ite_iff ?_)
            omega
          rw [e] at n13
          exact Out.box (by simp [n13]) (fun d hd => by obtain ⟨c, _, rfl⟩ := List.mem_map.1 hd; rfl)
    · have hil : i < ps.length := by
        have := (List.getElem?_eq_some_iff.1 hp).1
        simpa [mapOf] using this
      have hpe : p = (iv ps[i].1, .sl [15, 0, i + 1] 5 0 ps[i].2.length none) := by
        simp [mapOf, hil] at hp
        exact hp.symm
      subst hpe
      have hf15 := hf.m15
      have hml : (mapOf ps).length = ps.length := by simp [mapOf]
      obtain ⟨L, hL⟩ : ∃ L, L = ps[i].2 := ⟨_, rfl⟩
      have hLb : ∀ x ∈ L, 0 ≤ x.ns ∧ x.ns ≤ 49 ∧ 0 ≤ x.ew ∧ x.ew ≤ 49 := fun x hx => hr x (by
        refine playsOf_mem ps[i] ?_ x (by rw [← hL]; exact hx)
        rw [← hps]; exact List.getElem_mem hil)
      have hLn : L.length ≤ 1000000 := by
        have := playsOf_each m.rows ps[i] (by rw [← hps]; exact List.getElem_mem hil)
        rw [← hL] at this; omega
      rw [← hL] at hp ⊢
      simp [hf.s15, hf15, hml, hp]
      refine wwp_loop (fun σ' => ∃ ja : Nat, ja ≤ L.length ∧ σ'.s 22 = iv ja ∧ σ'.s 21 = iv L.length ∧ σ'.s 20 = .sl [15, 0, i + 1] 5 0 L.length none ∧ σ'.s 5 = .sl [15, 0, i + 1] 5 0 L.length none ∧
        Fr ps (seen ++ [i]) (fun c => seenSum ps seen c + sumA L (L.take ja) c) σ') (fun σ' => cnt L.length (σ'.s 22)) ?_ ?_
      · refine ⟨0, by omega, by simp, by simp, by simp, by simp, ⟨by simp [hf.s3], by simp [hf.s15], ?_, by simp, by simp [hf15], fun j hj => by simp [hf.rows j hj]⟩⟩
        simp [hf.m13, sumA]
      · rintro σ1 hw1 ⟨ja, hja, e22, e21, e20, e5, f1⟩
        have hrow := f1.rows i hil
        rw [← hL] at hrow
        simp [e21, e22]
        refine condK_dec (fun hlt1 => ?_) (fun hge1 => ?_)
        · simp [e20, e22, e5, hlt1, hrow, rowsL_at hlt1, Row.cells]
          obtain ⟨a, ha⟩ : ∃ a, a = L[ja] := ⟨_, rfl⟩
          have hab := hLb a (by rw [ha]; exact List.getElem_mem hlt1)
          obtain ⟨a1, a2, a3, a4⟩ := hab
          rw [← ha]
          refine wwp_loop (fun σ' => ∃ jb : Nat, jb ≤ L.length ∧ σ'.s 28 = iv jb ∧ σ'.s 27 = iv L.length ∧ σ'.s 26 = .sl [15, 0, i + 1] 5 0 L.length none ∧ σ'.s 22 = iv ja ∧ σ'.s 21 = iv L.length ∧ σ'.s 20 = .sl [15, 0, i + 1] 5 0 L.length none ∧
            σ'.s 5 = .sl [15, 0, i + 1] 5 0 L.length none ∧ σ'.s 7 = .ptr [8, σ1.c 7] 0 ∧ σ'.m [8, σ1.c 7] = some (.box [iv a.r, iv a.t, iv a.ns, iv a.ew, iv a.s]) ∧
            Fr ps (seen ++ [i]) (fun c => seenSum ps seen c + sumA L (L.take ja) c + sumB L.length a (L.take jb) c) σ') (fun σ' => cnt L.length (σ'.s 28)) ?_ ?_
          · refine ⟨0, by omega, by simp, by simp, by simp, by simp [e22], by simp [e21], by simp [e20], by simp [e5], by simp, by simp, ⟨by simp [f1.s3], by simp [f1.s15], ?_, by simp [f1.m16], by simp [f1.m15], fun j hj => by simp [f1.rows j hj]⟩⟩
            simp [f1.m13, sumB]
          · rintro σ2 hw2 ⟨jb, hjb, g28, g27, g26, g22, g21, g20, g5, g7, n8, f2⟩
            have hrow2 := f2.rows i hil
            rw [← hL] at hrow2
            simp [g28, g27]
            refine condK_dec (fun hlt2 => ?_) (fun hge2 => ?_)
            · simp [g26, g28, g7, n8, hlt2, hrow2, rowsL_at hlt2, Row.cells]
              obtain ⟨b, hb⟩ : ∃ b, b = L[jb] := ⟨_, rfl⟩
              have hbb := hLb b (by rw [hb]; exact List.getElem_mem hlt2)
              obtain ⟨b1, b2, b3, b4⟩ := hbb
              rw [← hb]
              obtain ⟨S, hS⟩ : ∃ S : Nat → Int, S = fun c => seenSum ps seen c + sumA L (L.take ja) c + sumB L.length a (L.take jb) c := ⟨_, rfl⟩
              have f13 := f2.m13
              have hSe : ∀ c, seenSum ps seen c + sumA L (L.take ja) c + sumB L.length a (L.take jb) c = S c := fun c => by rw [hS]
              simp only [hSe] at f13
              have hS2 : ∀ c, seenSum ps seen c + sumA L (L.take ja) c + sumB L.length a (L.take (jb + 1)) c = S c + contr L.length a b c := fun c => by rw [sumB_snoc _ _ hlt2, ← hb, ← hSe]; omega
              have w1 : IntKind.i64.wrap ((L.length : Int) - 1) = (L.length : Int) - 1 := wrap_in (by omega) (by omega)
              have x1 : a.ns < 50 := by omega
              have x2 : a.ew < 50 := by omega
              have x3 : b.ns < 50 := by omega
              have x4 : b.ew < 50 := by omega
              by_cases hab : a = b
              · subst hab
                have q1 : a.ns.toNat * 50 + a.ew.toNat < 2500 := by omega
                have q1' : a.ns.toNat * 50 + a.ew.toNat ≤ 2499 := by omega
                have q2 : a.ew.toNat * 50 + a.ns.toNat < 2500 := by omega
                have q2' : a.ew.toNat * 50 + a.ns.toNat ≤ 2499 := by omega
                simp [g28, g27, g26, g22, g21, g20, g5, g7, n8, f2.s3, f13, a1, a3, x1, x2, q1, q1', q2, q2', w1, tab_put q1, tab_put q2, upd_tab S (a.ns.toNat * 50 + a.ew.toNat) ((L.length : Int) - 1),
                  upd_tab (fun i => S i + hit (a.ns.toNat * 50 + a.ew.toNat) i ((L.length : Int) - 1)) (a.ew.toNat * 50 + a.ns.toNat) ((L.length : Int) - 1), wrap_succ (show jb ≤ 1000000000 by omega)]
                refine ⟨⟨jb + 1, by omega, by omega, ⟨by simp [f2.s3], by simp [f2.s15], ?_, by simp [f2.m16], by simp [f2.m15], fun j hj => by simp [f2.rows j hj]⟩⟩, by omega⟩
                simp
                refine tab_congr fun c _ => ?_
                rw [hS2]
                simp only [contr, if_true, cellOf]
                refine congrArg (fun z => iv (IntKind.i64.wrap z)) ?_
                omega
              · have hne : (a.r == b.r && (a.t == b.t && (a.ns == b.ns && (a.ew == b.ew && a.s == b.s)))) = false := by
                  cases h : (a.r == b.r && (a.t == b.t && (a.ns == b.ns && (a.ew == b.ew && a.s == b.s))))
                  · rfl
                  · simp only [Bool.and_eq_true, beq_iff_eq] at h
                    exact absurd (by cases a; cases b; simp_all) hab
                have q1 : a.ns.toNat * 50 + b.ns.toNat < 2500 := by omega
                have q1' : a.ns.toNat * 50 + b.ns.toNat ≤ 2499 := by omega
                have q2 : a.ew.toNat * 50 + b.ew.toNat < 2500 := by omega
                have q2' : a.ew.toNat * 50 + b.ew.toNat ≤ 2499 := by omega
                have q3 : a.ns.toNat * 50 + b.ew.toNat < 2500 := by omega
                have q3' : a.ns.toNat * 50 + b.ew.toNat ≤ 2499 := by omega
                have q4 : a.ew.toNat * 50 + b.ns.toNat < 2500 := by omega
                have q4' : a.ew.toNat * 50 + b.ns.toNat ≤ 2499 := by omega
                simp [hne, g28, g27, g26, g22, g21, g20, g5, g7, n8, f2.s3, f13, a1, a3, b1, b3, x1, x2, x3, x4, q1, q1', q2, q2', q3, q3', q4, q4', tab_put q1, tab_put q2, tab_put q3, tab_put q4,
                  upd_tab S (a.ns.toNat * 50 + b.ns.toNat) 1,
                  upd_tab (fun i => S i + hit (a.ns.toNat * 50 + b.ns.toNat) i 1) (a.ew.toNat * 50 + b.ew.toNat) 1,
                  upd_sub (fun i => S i + hit (a.ns.toNat * 50 + b.ns.toNat) i 1 + hit (a.ew.toNat * 50 + b.ew.toNat) i 1) (a.ns.toNat * 50 + b.ew.toNat),
                  upd_sub (fun i => S i + hit (a.ns.toNat * 50 + b.ns.toNat) i 1 + hit (a.ew.toNat * 50 + b.ew.toNat) i 1 + hit (a.ns.toNat * 50 + b.ew.toNat) i (-1)) (a.ew.toNat * 50 + b.ns.toNat), wrap_succ (show jb ≤ 1000000000 by omega)]
                refine ⟨⟨jb + 1, by omega, by omega, ⟨by simp [f2.s3], by simp [f2.s15], ?_, by simp [f2.m16], by simp [f2.m15], fun j hj => by simp [f2.rows j hj]⟩⟩, by omega⟩
                simp
                refine tab_congr fun c _ => ?_
                rw [hS2]
                simp only [contr, if_neg hab, cellOf]
                refine congrArg (fun z => iv (IntKind.i64.wrap z)) ?_
                omega
            · have hjb : jb = L.length := by omega
              subst hjb
              simp [g22, g21, g20, g5, wrap_succ (show ja ≤ 1000000000 by omega)]
              refine ⟨⟨ja + 1, by omega, by omega, ⟨by simp [f2.s3], by simp [f2.s15], ?_, by simp [f2.m16], by simp [f2.m15], fun j hj => by simp [f2.rows j hj]⟩⟩, by omega⟩
              simp [f2.m13]
              refine tab_congr fun c _ => ?_
              rw [sumA_snoc L hlt1, ← ha]
              refine congrArg (fun z => iv (IntKind.i64.wrap z)) ?_
              omega
        · have hja' : ja = L.length := by omega
          subst hja'
          simp
          have hnd : (seen ++ [i]).Nodup := List.nodup_append.2 ⟨hn, by simp, fun x hx y hy => by simp at hy; subst hy; exact fun e => hi (e ▸ hx)⟩
          have hlt' : ∀ x ∈ seen ++ [i], x < ps.length := fun x hx => by
            rcases List.mem_append.1 hx with hx | hx
            · exact hlt x hx
            · simp at hx; omega
          refine ⟨⟨seen ++ [i], hnd, hlt', ⟨by simp [f1.s3], by simp [f1.s15], ?_, by simp [f1.m16], by simp [f1.m15], fun j hj => by simp [f1.rows j hj]⟩⟩, ?_⟩
          · simp [f1.m13]
            refine tab_congr fun c _ => ?_
            rw [seenSum_snoc]
            simp [setSum, hil, ← hL]
          · have := nodup_bound _ _ hnd hlt'
            simp at this
            simp [f1.m16, hf.m16]
            omega
def inPairs (l : List Row) : Bool := l.all fun x => decide (0 ≤ x.ns) && decide (x.ns ≤ 49) && decide (0 ≤ x.ew) && decide (x.ew ≤ 49)
theorem inPairs_mem {l : List Row} (h : inPairs l = true) : ∀ x ∈ l, 0 ≤ x.ns ∧ x.ns ≤ 49 ∧ 0 ≤ x.ew ∧ x.ew ≤ 49 := fun x hx => by
  have := List.all_eq_true.1 h x hx
  simp only [Bool.and_eq_true, decide_eq_true_eq] at this
  exact ⟨this.1.1.1, this.1.1.2, this.1.2, this.2⟩
def S54 : List D → Option (D × Mem)
  | [.agg xs] => (asMv xs).bind fun m => if m.rows.length ≤ 1000000 ∧ inPairs m.rows = true then some (.ptr [] 0, boxMem (tab 2500 fun i => iv (conT m i))) else none
  | _ => none
theorem s54 : OkQ 54 S54 := fun ds d mm h => by
  unfold S54 at h
  split at h
  · rw [Option.bind_eq_some_iff] at h
    obtain ⟨m, hm, h⟩ := h
    split at h <;> cases h
    rename_i hc
    rw [asMv_eq hm]
    exact c54 m hc.1 (inPairs_mem hc.2)
  · cases h
end Go.Proofs.Ytpmgaaalfdjikaa
