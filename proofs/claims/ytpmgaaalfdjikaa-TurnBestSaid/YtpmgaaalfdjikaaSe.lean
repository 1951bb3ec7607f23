/- Contract: the law's own count of plays. Lemmas; no condition. -/
import Derived.Test.YtpmgaaalfdjikaaSd
namespace Go.Proofs.Ytpmgaaalfdjikaa
open Go.RowKit
set_option linter.unusedSimpArgs false
set_option linter.unusedVariables false

def W31 : WC × List VRes := ((.seq (.reg [(.stm (.eff (.box 2 (.t 0)) none)), (.set [(4, (.c (.v (.int .i64 0)))), (5, (.c (.v (.bool false))))] [4, 5])]) (.seq (.reg [(.set [(6, (.c (.v (.int .i64 0)))), (7, (.c (.v (.bool true))))] [6, 7])]) (.seq (.seq (.reg [(.set [(14, (.ap (.load 1 false) [(.ap (.fld 5) [(.t 2)])])), (15, (.ap .llen [(.ap (.load 1 false) [(.ap (.fld 5) [(.t 2)])])])), (16, (.c (.v (.int .i64 0))))] [13, 14, 15, 16])]) (.block 0 (.loop (.seq (.reg [(.set [(17, (.ap (.ibin .lss) [(.t 16), (.t 15)]))] [17])]) (.seq (.cond (.t 17) .skip (.exit 0)) (.seq (.block 1 (.seq (.reg [(.set [(19, (.ap (.load 5 true) [(.ap (.idx 53 5) [(.t 14), (.t 16)])]))] [18, 19]), (.stm (.eff (.box 9 (.c (.agg [(.v (.int .i64 0)), (.v (.int .i64 0)), (.v (.int .i64 0)), (.v (.int .i64 0)), (.v (.int .i64 0))]))) none)), (.stm (.eff (.store 5 (.t 9) (.t 19)) none))]) (.seq (.seq (.reg [(.set [(39, (.ite (.ite (.ap (.ibin .eql) [(.ap (.load 1 false) [(.ap (.fld 2) [(.t 9)])]), (.c (.v (.int .i64 0)))]) (.c (.v (.bool true))) (.ap (.ibin .eql) [(.ap (.load 1 false) [(.ap (.fld 3) [(.t 9)])]), (.c (.v (.int .i64 0)))])) (.c (.v (.bool true))) (.ite (.ap (.ibin .neq) [(.ap (.load 1 false) [(.ap (.fld 2) [(.t 9)])]), (.t 1)]) (.ap (.ibin .neq) [(.ap (.load 1 false) [(.ap (.fld 3) [(.t 9)])]), (.t 1)]) (.c (.v (.bool false))))))] [20, 21, 22, 23, 24, 25, 26, 27, 28, 29, 30, 31, 32, 33, 34, 35, 36, 37, 38, 39])]) (.cond (.t 39) (.exit 1) .skip)) (.seq (.reg [(.stm (.eff (.mks 40 3 1 [(.v (.int .i64 0))] (.c (.v (.int .i64 50))) (.c (.v (.int .i64 50)))) none)), (.set [(10, (.t 40))] [10])]) (.seq (.seq (.reg [(.set [(42, (.ap (.load 1 false) [(.ap (.fld 5) [(.t 2)])])), (43, (.ap .llen [(.ap (.load 1 false) [(.ap (.fld 5) [(.t 2)])])])), (44, (.c (.v (.int .i64 0))))] [41, 42, 43, 44])]) (.block 2 (.loop (.seq (.reg [(.set [(45, (.ap (.ibin .lss) [(.t 44), (.t 43)]))] [45])]) (.seq (.cond (.t 45) .skip (.exit 2)) (.seq (.block 3 (.seq (.reg [(.set [(47, (.ap (.load 5 true) [(.ap (.idx 53 5) [(.t 42), (.t 44)])]))] [46, 47]), (.stm (.eff (.box 12 (.c (.agg [(.v (.int .i64 0)), (.v (.int .i64 0)), (.v (.int .i64 0)), (.v (.int .i64 0)), (.v (.int .i64 0))]))) none)), (.stm (.eff (.store 5 (.t 12) (.t 47)) none))]) (.seq (.reg [(.set [(62, (.ite (.ite (.ap (.ibin .eql) [(.ap (.load 1 false) [(.ap (.fld 4) [(.t 12)])]), (.ap (.load 1 false) [(.ap (.fld 4) [(.t 9)])])]) (.ap (.ibin .gtr) [(.ap (.load 1 false) [(.ap (.fld 2) [(.t 12)])]), (.c (.v (.int .i64 0)))]) (.c (.v (.bool false)))) (.ap (.ibin .gtr) [(.ap (.load 1 false) [(.ap (.fld 3) [(.t 12)])]), (.c (.v (.int .i64 0)))]) (.c (.v (.bool false)))))] [48, 49, 50, 51, 52, 53, 54, 55, 56, 57, 58, 59, 60, 61, 62])]) (.cond (.t 62) (.seq (.reg [(.set [(6, (.ap (.ibin .add) [(.t 6), (.c (.v (.int .i64 1)))]))] [63, 64, 6])]) (.seq (.reg [(.set [(70, (.ap (.ibin .add) [(.ap (.load 1 false) [(.ap (.idx 3 1) [(.t 10), (.ap (.load 1 false) [(.ap (.fld 2) [(.t 12)])])])]), (.c (.v (.int .i64 1)))])), (71, (.ap (.idx 3 1) [(.t 10), (.ap (.load 1 false) [(.ap (.fld 2) [(.t 12)])])]))] [65, 66, 67, 68, 69, 70, 71]), (.stm (.eff (.store 1 (.t 71) (.t 70)) none))]) (.reg [(.set [(77, (.ap (.ibin .add) [(.ap (.load 1 false) [(.ap (.idx 3 1) [(.t 10), (.ap (.load 1 false) [(.ap (.fld 3) [(.t 12)])])])]), (.c (.v (.int .i64 1)))])), (78, (.ap (.idx 3 1) [(.t 10), (.ap (.load 1 false) [(.ap (.fld 3) [(.t 12)])])]))] [72, 73, 74, 75, 76, 77, 78]), (.stm (.eff (.store 1 (.t 78) (.t 77)) none))]))) .skip)))) (.reg [(.set [(44, (.ap (.ibin .add) [(.t 44), (.c (.v (.int .i64 1)))]))] [79, 44])]))))))) (.seq (.reg [(.set [(6, (.ap (.ibin .sub) [(.t 6), (.c (.v (.int .i64 1)))]))] [80, 81, 6])]) (.reg [(.set [(7, (.ite (.t 7) (.ap (.ibin .eql) [(.ap (.call 57) [(.t 10)]), (.c (.v (.int .i64 1)))]) (.c (.v (.bool false)))))] [82, 83, 84, 85, 86, 87, 7])]))))))) (.reg [(.set [(16, (.ap (.ibin .add) [(.t 16), (.c (.v (.int .i64 1)))]))] [88, 16])]))))))) (.seq (.reg [(.set [(4, (.t 6)), (5, (.t 7))] [89, 90, 4, 5])]) .ret)))), [(.t 4), (.t 5)])
theorem is31 : IsFn Try.prog frOf 31 Try.f31 W31 := ⟨by kernel_rfl, by kernel_rfl, by kernel_rfl⟩
theorem nt31 : Try.f31.ntmps = 91 := by kernel_rfl


def isOne (a : Int) (i : Nat) : Int := if a.toNat = i then 1 else 0
def metAt (l : List Row) (s : Int) (i : Nat) : Int := (l.map fun x => if x.s = s ∧ played x = true then isOne x.ns i + isOne x.ew i else 0).sum
def metL (l : List Row) (s : Int) : List Int := (List.range 50).map fun i => metAt l s i
theorem metL_len (l : List Row) (s : Int) : (metL l s).length = 50 := by simp [metL]
theorem metL_at (l : List Row) (s : Int) (i : Nat) (h : i < (metL l s).length) : (metL l s)[i] = metAt l s i := by simp [metL]
def cntS (l : List Row) (s : Int) : Nat := (l.filter fun x => decide (x.s = s) && played x).length
theorem metAt_snoc {l : List Row} {k : Nat} (h : k < l.length) (s : Int) (i : Nat) : metAt (l.take (k + 1)) s i = metAt (l.take k) s i + if l[k].s = s ∧ played l[k] = true then isOne l[k].ns i + isOne l[k].ew i else 0 := by
  rw [List.take_succ_eq_append_getElem h, metAt, metAt, List.map_append, List.sum_append]; simp
theorem cntS_snoc {l : List Row} {k : Nat} (h : k < l.length) (s : Int) : cntS (l.take (k + 1)) s = cntS (l.take k) s + if l[k].s = s ∧ played l[k] = true then 1 else 0 := by
  rw [List.take_succ_eq_append_getElem h, cntS, cntS, List.filter_append, List.length_append]
  by_cases h1 : l[k].s = s ∧ played l[k] = true
  · rw [if_pos h1]; simp [List.filter_cons, h1]
  · rw [if_neg h1]
    have : (decide (l[k].s = s) && played l[k]) = false := by
      rw [Bool.and_eq_false_iff, decide_eq_false_iff_not]
      by_cases h2 : l[k].s = s
      · exact .inr (by simpa using fun h3 => h1 ⟨h2, h3⟩)
      · exact .inl h2
    simp [List.filter_cons, this]
theorem metL_skip {l : List Row} {k : Nat} (h : k < l.length) {s : Int} (hn : ¬ (l[k].s = s ∧ played l[k] = true)) : metL (l.take (k + 1)) s = metL (l.take k) s :=
  List.map_congr_left fun i _ => by rw [metAt_snoc h, if_neg hn]; omega
theorem metL_play {l : List Row} {k : Nat} (h : k < l.length) {s : Int} (hp : l[k].s = s ∧ played l[k] = true) (hb : l[k].ns ≤ 49 ∧ l[k].ew ≤ 49) :
    metL (l.take (k + 1)) s = ((metL (l.take k) s).set l[k].ns.toNat (metAt (l.take k) s l[k].ns.toNat + 1)).set l[k].ew.toNat (metAt (l.take k) s l[k].ew.toNat + isOne l[k].ns l[k].ew.toNat + 1) := by
  apply List.ext_getElem (by simp [metL])
  intro i h1 h2
  rw [metL_at, metAt_snoc h, if_pos hp, List.getElem_set, List.getElem_set, metL_at]
  obtain ⟨a, ha⟩ : ∃ a, a = l[k].ns.toNat := ⟨_, rfl⟩
  obtain ⟨b, hb'⟩ : ∃ b, b = l[k].ew.toNat := ⟨_, rfl⟩
  unfold isOne
  rw [← ha, ← hb']
  by_cases e2 : b = i
  · subst e2
    rw [if_pos rfl, if_pos rfl]
    omega
  · rw [if_neg e2, if_neg e2]
    by_cases e1 : a = i
    · subst e1
      rw [if_pos rfl, if_pos rfl]
      omega
    · rw [if_neg e1, if_neg e1]
      omega
def onSeat (p : Int) (x : Row) : Bool := !(x.ns == 0 || x.ew == 0 || (x.ns != p && x.ew != p))
def playSum (all l : List Row) (p : Int) : Int := ((l.filter (onSeat p)).map fun x => (cntS all x.s : Int) - 1).sum
def playOnce (all l : List Row) (p : Int) : Bool := (l.filter (onSeat p)).all fun x => maxL (metL all x.s) == 1
theorem playSum_snoc {l : List Row} {k : Nat} (h : k < l.length) (all : List Row) (p : Int) : playSum all (l.take (k + 1)) p = playSum all (l.take k) p + if onSeat p l[k] = true then (cntS all l[k].s : Int) - 1 else 0 := by
  rw [List.take_succ_eq_append_getElem h, playSum, playSum, List.filter_append, List.map_append, List.sum_append]
  cases h1 : onSeat p l[k] <;> simp [List.filter_cons, h1]
theorem playOnce_snoc {l : List Row} {k : Nat} (h : k < l.length) (all : List Row) (p : Int) : playOnce all (l.take (k + 1)) p = (playOnce all (l.take k) p && (!(onSeat p l[k]) || maxL (metL all l[k].s) == 1)) := by
  rw [List.take_succ_eq_append_getElem h, playOnce, playOnce, List.filter_append, List.all_append]
  cases h1 : onSeat p l[k] <;> simp [List.filter_cons, h1]
theorem playSum_bound (all : List Row) (p : Int) (ha : all.length ≤ 60) : ∀ l : List Row, l.length ≤ 60 → -3600 ≤ playSum all l p ∧ playSum all l p ≤ 3600 := fun l hl => by
  have h1 := sum_bound (fun x : Row => (cntS all x.s : Int) - 1) 60 (l.filter (onSeat p)) fun x _ => by
    have : cntS all x.s ≤ all.length := List.length_filter_le _ _
    omega
  have h2 := List.length_filter_le (onSeat p) l
  have h3 : (l.filter (onSeat p)).length * 60 ≤ 60 * 60 := Nat.mul_le_mul_right _ (by omega)
  unfold playSum
  omega
theorem metAt_bound (s : Int) (i : Nat) {l : List Row} (hl : l.length ≤ 60) : 0 ≤ metAt l s i ∧ metAt l s i ≤ 120 := by
  have h := sum_nonneg (fun x : Row => if x.s = s ∧ played x = true then isOne x.ns i + isOne x.ew i else 0) 2 l fun x _ => by
    unfold isOne
    split
    · split <;> split <;> omega
    · omega
  have : l.length * 2 ≤ 60 * 2 := Nat.mul_le_mul_right _ hl
  unfold metAt
  omega
theorem c31w (p57 : FP) (m : Mv) (p : Int) (hl : m.rows.length ≤ 60) (hin : inPairs m.rows = true) (h57 : ∀ l : List Int, l.length = 50 → p57 [.list (ints l)] = some (iv (maxL l))) :
    wwp (mkEnv [(57, p57)] [] []) W31.1 (fun e s => okExit e ∧ resV W31.2 s = some (.tup [iv (playSum m.rows m.rows p), bv (playOnce m.rows m.rows p)])) (initV [.agg m.cells, iv p]) := by
  simp only [W31]
  refine wwp_cutW (wf_init _) (fun σ => σ.s 1 = iv p ∧ σ.s 2 = .ptr [3, 0] 0 ∧ σ.m [3, 0] = some (.box [iv m.t, iv m.r, iv m.s, iv m.c, iv m.w, .list (rowsL m.rows)])) (by simp [Mv.cells, Mv.cellsW]) ?_
  rintro σ W ⟨h1, h2, m3⟩
  refine wwp_cutW W (fun σ => σ.s 1 = iv p ∧ σ.s 2 = .ptr [3, 0] 0 ∧ σ.m [3, 0] = some (.box [iv m.t, iv m.r, iv m.s, iv m.c, iv m.w, .list (rowsL m.rows)]) ∧ σ.s 6 = iv 0 ∧ σ.s 7 = bv true) (by simp [h1, h2, m3]) ?_
  clear W h1 h2 m3 σ
  rintro σ W ⟨h1, h2, m3, h6, h7⟩
  refine wwp_cutG (fun σ => σ.s 6 = iv (playSum m.rows m.rows p) ∧ σ.s 7 = bv (playOnce m.rows m.rows p)) ?_ ?_
  · refine wwp_cutW W (fun σ => σ.s 1 = iv p ∧ σ.s 2 = .ptr [3, 0] 0 ∧ σ.m [3, 0] = some (.box [iv m.t, iv m.r, iv m.s, iv m.c, iv m.w, .list (rowsL m.rows)]) ∧ σ.s 6 = iv 0 ∧ σ.s 7 = bv true ∧ σ.s 14 = .list (rowsL m.rows) ∧ σ.s 15 = iv m.rows.length ∧ σ.s 16 = iv 0) (by simp [h1, h2, m3, h6, h7]) ?_
    clear W h1 h2 m3 h6 h7 σ
    rintro σ W ⟨h1, h2, m3, h6, h7, h14, h15, h16⟩
    simp only [wwp_block]
    refine wwp_loop (fun σ => ∃ k : Nat, k ≤ m.rows.length ∧ σ.s 1 = iv p ∧ σ.s 2 = .ptr [3, 0] 0 ∧ σ.m [3, 0] = some (.box [iv m.t, iv m.r, iv m.s, iv m.c, iv m.w, .list (rowsL m.rows)]) ∧ σ.s 6 = iv (playSum m.rows (m.rows.take k) p) ∧ σ.s 7 = bv (playOnce m.rows (m.rows.take k) p) ∧
      σ.s 14 = .list (rowsL m.rows) ∧ σ.s 15 = iv m.rows.length ∧ σ.s 16 = iv k) (fun σ => cnt m.rows.length (σ.s 16)) ?_ ?_
    · exact ⟨0, by omega, h1, h2, m3, by simpa [playSum] using h6, by simpa [playOnce] using h7, h14, h15, h16⟩
    · clear W h1 h2 m3 h6 h7 h14 h15 h16 σ
      rintro σ W ⟨k, hk, h1, h2, m3, h6, h7, h14, h15, h16⟩
      by_cases hlt : k < m.rows.length
      · have hmu : cnt m.rows.length (σ.s 16) = m.rows.length - k := by simp [h16]
        simp only [hmu]
        clear hmu
        have ek := rowsL_at hlt
        obtain ⟨x, hx⟩ : ∃ x, x = m.rows[k] := ⟨_, rfl⟩
        have hb := inPairs_mem hin m.rows[k] (List.getElem_mem hlt)
        have e1 := playSum_snoc hlt m.rows p
        have e2 := playOnce_snoc hlt m.rows p
        have hps := playSum_bound m.rows p hl (m.rows.take k) (by rw [List.length_take]; omega)
        rw [← hx] at ek hb e1 e2
        refine wwp_on (fun σ => WF σ ∧ σ.s 1 = iv p ∧ σ.s 2 = .ptr [3, 0] 0 ∧ σ.m [3, 0] = some (.box [iv m.t, iv m.r, iv m.s, iv m.c, iv m.w, .list (rowsL m.rows)]) ∧ σ.s 6 = iv (playSum m.rows (m.rows.take k) p) ∧ σ.s 7 = bv (playOnce m.rows (m.rows.take k) p) ∧
          σ.s 14 = .list (rowsL m.rows) ∧ σ.s 15 = iv m.rows.length ∧ σ.s 16 = iv k) (by simp [h1, h2, m3, h6, h7, h14, h15, h16, hlt]; exact W) ?_
        clear W h1 h2 m3 h6 h7 h14 h15 h16 σ
        rintro σ ⟨W, h1, h2, m3, h6, h7, h14, h15, h16⟩
        refine wwp_body (fun σ => σ.s 1 = iv p ∧ σ.s 2 = .ptr [3, 0] 0 ∧ σ.m [3, 0] = some (.box [iv m.t, iv m.r, iv m.s, iv m.c, iv m.w, .list (rowsL m.rows)]) ∧ σ.s 6 = iv (playSum m.rows (m.rows.take (k + 1)) p) ∧ σ.s 7 = bv (playOnce m.rows (m.rows.take (k + 1)) p) ∧
          σ.s 14 = .list (rowsL m.rows) ∧ σ.s 15 = iv m.rows.length ∧ σ.s 16 = iv k) ?_ ?_
        · refine wwp_cutW W (fun σ => σ.s 1 = iv p ∧ σ.s 2 = .ptr [3, 0] 0 ∧ σ.m [3, 0] = some (.box [iv m.t, iv m.r, iv m.s, iv m.c, iv m.w, .list (rowsL m.rows)]) ∧ σ.s 6 = iv (playSum m.rows (m.rows.take k) p) ∧ σ.s 7 = bv (playOnce m.rows (m.rows.take k) p) ∧
            σ.s 14 = .list (rowsL m.rows) ∧ σ.s 15 = iv m.rows.length ∧ σ.s 16 = iv k ∧ ∃ i, σ.s 9 = .ptr [10, i] 0 ∧ σ.m [10, i] = some (.box x.cells)) (by simp [h1, h2, m3, h6, h7, h14, h15, h16, ek, Row.cells]) ?_
          clear W h1 h2 m3 h6 h7 h14 h15 h16 σ
          rintro σ W ⟨h1, h2, m3, h6, h7, h14, h15, h16, i, h9, m10⟩
          cases hon : onSeat p x with
          | false =>
            have hc : (x.ns == 0 || x.ew == 0 || (x.ns != p && x.ew != p)) = true := by unfold onSeat at hon; simpa only [Bool.not_eq_false'] using hon
            rw [hon] at e1 e2
            simp only [Bool.false_eq_true, if_false, Int.add_zero, Bool.not_false, Bool.true_or, Bool.and_true] at e1 e2
            rw [e1, e2]
            simp [h1, h2, m3, h6, h7, h14, h15, h16, h9, m10, Row.cells]
            rw [hc]
            simp [h1, h2, m3, h6, h7, h14, h15, h16]
          | true =>
            have hc : (x.ns == 0 || x.ew == 0 || (x.ns != p && x.ew != p)) = false := by unfold onSeat at hon; simpa only [Bool.not_eq_true'] using hon
            rw [hon] at e1 e2
            simp only [if_true, Bool.not_true, Bool.false_or] at e1 e2
            rw [e1, e2]
            refine wwp_condx W (fun σ => σ.s 1 = iv p ∧ σ.s 2 = .ptr [3, 0] 0 ∧ σ.m [3, 0] = some (.box [iv m.t, iv m.r, iv m.s, iv m.c, iv m.w, .list (rowsL m.rows)]) ∧ σ.s 6 = iv (playSum m.rows (m.rows.take k) p) ∧ σ.s 7 = bv (playOnce m.rows (m.rows.take k) p) ∧
              σ.s 14 = .list (rowsL m.rows) ∧ σ.s 15 = iv m.rows.length ∧ σ.s 16 = iv k ∧ ∃ i, σ.s 9 = .ptr [10, i] 0 ∧ σ.m [10, i] = some (.box x.cells)) ?_ ?_
            · simp [h1, h2, m3, h6, h7, h14, h15, h16, h9, m10, Row.cells, hc]
            clear W h1 h2 m3 h6 h7 h14 h15 h16 h9 m10 i σ
            rintro σ W ⟨h1, h2, m3, h6, h7, h14, h15, h16, i, h9, m10⟩
            refine wwp_cutW W (fun σ => σ.s 1 = iv p ∧ σ.s 2 = .ptr [3, 0] 0 ∧ σ.m [3, 0] = some (.box [iv m.t, iv m.r, iv m.s, iv m.c, iv m.w, .list (rowsL m.rows)]) ∧ σ.s 6 = iv (playSum m.rows (m.rows.take k) p) ∧ σ.s 7 = bv (playOnce m.rows (m.rows.take k) p) ∧
              σ.s 14 = .list (rowsL m.rows) ∧ σ.s 15 = iv m.rows.length ∧ σ.s 16 = iv k ∧ (∃ i, σ.s 9 = .ptr [10, i] 0 ∧ σ.m [10, i] = some (.box x.cells)) ∧ ∃ i g, σ.s 10 = .sl [41, i] 1 0 50 none ∧ σ.m [41, i] = some (.row g 3 (ints (metL [] x.s)))) ?_ ?_
            · have h50 : (50 : Int) ≤ (maxMade : Int) := by unfold maxMade; omega
              have hz : ints (metL [] x.s) = List.replicate 50 [iv 0] := rfl
              simp [h1, h2, m3, h6, h7, h14, h15, h16, h9, m10, Row.cells, h50, hz]
            clear W h1 h2 m3 h6 h7 h14 h15 h16 h9 m10 i σ
            rintro σ W ⟨h1, h2, m3, h6, h7, h14, h15, h16, ⟨i, h9, m10⟩, j, g, h10, m41⟩
            refine wwp_cutG (fun σ => (σ.s 1 = iv p ∧ σ.s 2 = .ptr [3, 0] 0 ∧ σ.m [3, 0] = some (.box [iv m.t, iv m.r, iv m.s, iv m.c, iv m.w, .list (rowsL m.rows)]) ∧ σ.s 7 = bv (playOnce m.rows (m.rows.take k) p) ∧ σ.s 14 = .list (rowsL m.rows) ∧ σ.s 15 = iv m.rows.length ∧ σ.s 16 = iv k ∧ (∃ i, σ.s 9 = .ptr [10, i] 0 ∧ σ.m [10, i] = some (.box x.cells))) ∧ σ.s 6 = iv (playSum m.rows (m.rows.take k) p + cntS m.rows x.s) ∧ ∃ i g, σ.s 10 = .sl [41, i] 1 0 50 none ∧ σ.m [41, i] = some (.row g 3 (ints (metL m.rows x.s)))) ?_ ?_
            · refine wwp_cutW W (fun σ => (σ.s 1 = iv p ∧ σ.s 2 = .ptr [3, 0] 0 ∧ σ.m [3, 0] = some (.box [iv m.t, iv m.r, iv m.s, iv m.c, iv m.w, .list (rowsL m.rows)]) ∧ σ.s 7 = bv (playOnce m.rows (m.rows.take k) p) ∧ σ.s 14 = .list (rowsL m.rows) ∧ σ.s 15 = iv m.rows.length ∧ σ.s 16 = iv k ∧ (∃ i, σ.s 9 = .ptr [10, i] 0 ∧ σ.m [10, i] = some (.box x.cells))) ∧ σ.s 6 = iv (playSum m.rows (m.rows.take k) p) ∧ (∃ i g, σ.s 10 = .sl [41, i] 1 0 50 none ∧ σ.m [41, i] = some (.row g 3 (ints (metL [] x.s)))) ∧ σ.s 42 = .list (rowsL m.rows) ∧ σ.s 43 = iv m.rows.length ∧ σ.s 44 = iv 0) (by simp [h1, h2, m3, h6, h7, h14, h15, h16, h9, m10, h10, m41]) ?_
              clear W h1 h2 m3 h6 h7 h14 h15 h16 h9 m10 h10 m41 i j g σ
              rintro σ W ⟨⟨h1, h2, m3, h7, h14, h15, h16, h9⟩, h6, h10, h42, h43, h44⟩
              simp only [wwp_block]
              refine wwp_loop (fun σ => ∃ q : Nat, q ≤ m.rows.length ∧ (σ.s 1 = iv p ∧ σ.s 2 = .ptr [3, 0] 0 ∧ σ.m [3, 0] = some (.box [iv m.t, iv m.r, iv m.s, iv m.c, iv m.w, .list (rowsL m.rows)]) ∧ σ.s 7 = bv (playOnce m.rows (m.rows.take k) p) ∧ σ.s 14 = .list (rowsL m.rows) ∧ σ.s 15 = iv m.rows.length ∧ σ.s 16 = iv k ∧ (∃ i, σ.s 9 = .ptr [10, i] 0 ∧ σ.m [10, i] = some (.box x.cells))) ∧ σ.s 6 = iv (playSum m.rows (m.rows.take k) p + cntS (m.rows.take q) x.s) ∧ (∃ i g, σ.s 10 = .sl [41, i] 1 0 50 none ∧ σ.m [41, i] = some (.row g 3 (ints (metL (m.rows.take q) x.s)))) ∧ σ.s 42 = .list (rowsL m.rows) ∧ σ.s 43 = iv m.rows.length ∧ σ.s 44 = iv q) (fun σ => cnt m.rows.length (σ.s 44)) ?_ ?_
              · exact ⟨0, by omega, ⟨h1, h2, m3, h7, h14, h15, h16, h9⟩, by simpa [cntS] using h6, by simpa using h10, h42, h43, h44⟩
              · clear W h1 h2 m3 h6 h7 h14 h15 h16 h9 h10 h42 h43 h44 σ
                rintro σ W ⟨q, hq, ⟨h1, h2, m3, h7, h14, h15, h16, i, h9, m10⟩, h6, ⟨j, g, h10, m41⟩, h42, h43, h44⟩
                by_cases hqt : q < m.rows.length
                · have hmu : cnt m.rows.length (σ.s 44) = m.rows.length - q := by simp [h44]
                  simp only [hmu]
                  clear hmu
                  have eq' := rowsL_at hqt
                  obtain ⟨y, hy⟩ : ∃ y, y = m.rows[q] := ⟨_, rfl⟩
                  have hyb := inPairs_mem hin m.rows[q] (List.getElem_mem hqt)
                  have f1 := cntS_snoc hqt x.s
                  have hcq : cntS (m.rows.take q) x.s ≤ 60 := Nat.le_trans (List.length_filter_le _ _) (by rw [List.length_take]; omega)
                  have f2 := fun h => metL_skip (s := x.s) hqt h
                  have f3 := fun h => metL_play (s := x.s) hqt h (by omega)
                  rw [← hy] at eq' hyb f1 f2 f3
                  refine wwp_on (fun σ => WF σ ∧ (σ.s 1 = iv p ∧ σ.s 2 = .ptr [3, 0] 0 ∧ σ.m [3, 0] = some (.box [iv m.t, iv m.r, iv m.s, iv m.c, iv m.w, .list (rowsL m.rows)]) ∧ σ.s 7 = bv (playOnce m.rows (m.rows.take k) p) ∧ σ.s 14 = .list (rowsL m.rows) ∧ σ.s 15 = iv m.rows.length ∧ σ.s 16 = iv k ∧ (∃ i, σ.s 9 = .ptr [10, i] 0 ∧ σ.m [10, i] = some (.box x.cells))) ∧ σ.s 6 = iv (playSum m.rows (m.rows.take k) p + cntS (m.rows.take q) x.s) ∧ (∃ i g, σ.s 10 = .sl [41, i] 1 0 50 none ∧ σ.m [41, i] = some (.row g 3 (ints (metL (m.rows.take q) x.s)))) ∧ σ.s 42 = .list (rowsL m.rows) ∧ σ.s 43 = iv m.rows.length ∧ σ.s 44 = iv q) (by simp [h1, h2, m3, h6, h7, h14, h15, h16, h9, m10, h10, m41, h42, h43, h44, hqt]; exact W) ?_
                  clear W h1 h2 m3 h6 h7 h14 h15 h16 h9 m10 i h10 m41 j g h42 h43 h44 σ
                  rintro σ ⟨W, ⟨h1, h2, m3, h7, h14, h15, h16, i, h9, m10⟩, h6, ⟨j, g, h10, m41⟩, h42, h43, h44⟩
                  refine wwp_body (fun σ => (σ.s 1 = iv p ∧ σ.s 2 = .ptr [3, 0] 0 ∧ σ.m [3, 0] = some (.box [iv m.t, iv m.r, iv m.s, iv m.c, iv m.w, .list (rowsL m.rows)]) ∧ σ.s 7 = bv (playOnce m.rows (m.rows.take k) p) ∧ σ.s 14 = .list (rowsL m.rows) ∧ σ.s 15 = iv m.rows.length ∧ σ.s 16 = iv k ∧ (∃ i, σ.s 9 = .ptr [10, i] 0 ∧ σ.m [10, i] = some (.box x.cells))) ∧ σ.s 6 = iv (playSum m.rows (m.rows.take k) p + cntS (m.rows.take (q + 1)) x.s) ∧ (∃ i g, σ.s 10 = .sl [41, i] 1 0 50 none ∧ σ.m [41, i] = some (.row g 3 (ints (metL (m.rows.take (q + 1)) x.s)))) ∧ σ.s 42 = .list (rowsL m.rows) ∧ σ.s 43 = iv m.rows.length ∧ σ.s 44 = iv q) ?_ ?_
                  · refine wwp_cutW W (fun σ => (σ.s 1 = iv p ∧ σ.s 2 = .ptr [3, 0] 0 ∧ σ.m [3, 0] = some (.box [iv m.t, iv m.r, iv m.s, iv m.c, iv m.w, .list (rowsL m.rows)]) ∧ σ.s 7 = bv (playOnce m.rows (m.rows.take k) p) ∧ σ.s 14 = .list (rowsL m.rows) ∧ σ.s 15 = iv m.rows.length ∧ σ.s 16 = iv k ∧ (∃ i, σ.s 9 = .ptr [10, i] 0 ∧ σ.m [10, i] = some (.box x.cells))) ∧ σ.s 6 = iv (playSum m.rows (m.rows.take k) p + cntS (m.rows.take q) x.s) ∧ (∃ i g, σ.s 10 = .sl [41, i] 1 0 50 none ∧ σ.m [41, i] = some (.row g 3 (ints (metL (m.rows.take q) x.s)))) ∧ σ.s 42 = .list (rowsL m.rows) ∧ σ.s 43 = iv m.rows.length ∧ σ.s 44 = iv q ∧ ∃ i, σ.s 12 = .ptr [13, i] 0 ∧ σ.m [13, i] = some (.box y.cells))
                      (by simp [h1, h2, m3, h6, h7, h14, h15, h16, h9, m10, h10, m41, h42, h43, h44, eq', Row.cells]) ?_
                    clear W h1 h2 m3 h6 h7 h14 h15 h16 h9 m10 i h10 m41 j g h42 h43 h44 σ
                    rintro σ W ⟨⟨h1, h2, m3, h7, h14, h15, h16, i, h9, m10⟩, h6, ⟨j, g, h10, m41⟩, h42, h43, h44, l, h12, m13⟩
                    by_cases hp : y.s = x.s ∧ played y = true
                    · have hp2 : 0 < y.ns ∧ 0 < y.ew := by simpa [played] using hp.2
                      rw [if_pos hp] at f1
                      have f3 := f3 hp
                      rw [f1, f3, ints_set, ints_set]
                      have n1 : ¬ y.ns < 0 := by omega
                      have n2 : y.ns < 50 := by omega
                      have n3 : ¬ y.ew < 0 := by omega
                      have n4 : y.ew < 50 := by omega
                      have bd1 := metAt_bound x.s y.ns.toNat (l := m.rows.take q) (by rw [List.length_take]; omega)
                      have bd2 := metAt_bound x.s y.ew.toNat (l := m.rows.take q) (by rw [List.length_take]; omega)
                      have bd3 : 0 ≤ isOne y.ns y.ew.toNat ∧ isOne y.ns y.ew.toNat ≤ 1 := by unfold isOne; split <;> omega
                      have g1 : (ints (metL (m.rows.take q) x.s))[y.ns.toNat]? = some [iv (metAt (m.rows.take q) x.s y.ns.toNat)] := by
                        rw [ints_at (by rw [metL_len]; omega), metL_at]
                      have g2 : ((ints (metL (m.rows.take q) x.s)).set y.ns.toNat [iv (metAt (m.rows.take q) x.s y.ns.toNat + 1)])[y.ew.toNat]? = some [iv (metAt (m.rows.take q) x.s y.ew.toNat + isOne y.ns y.ew.toNat)] := by
                        rw [← ints_set, ints_at (by rw [List.length_set, metL_len]; omega), List.getElem_set]
                        unfold isOne
                        by_cases e : y.ns.toNat = y.ew.toNat
                        · rw [if_pos e, if_pos e, e]
                        · rw [if_neg e, if_neg e, metL_at, Int.add_zero]
                      have w1 : IntKind.i64.wrap (playSum m.rows (m.rows.take k) p + (cntS (m.rows.take q) x.s : Int) + 1) = playSum m.rows (m.rows.take k) p + (cntS (m.rows.take q) x.s : Int) + 1 := wrap_in (by omega) (by omega)
                      have w2 : IntKind.i64.wrap (metAt (m.rows.take q) x.s y.ns.toNat + 1) = metAt (m.rows.take q) x.s y.ns.toNat + 1 := wrap_in (by omega) (by omega)
                      have w3 : IntKind.i64.wrap (metAt (m.rows.take q) x.s y.ew.toNat + isOne y.ns y.ew.toNat + 1) = metAt (m.rows.take q) x.s y.ew.toNat + isOne y.ns y.ew.toNat + 1 := wrap_in (by omega) (by omega)
                      simp [h1, h2, m3, h6, h7, h14, h15, h16, h9, m10, h10, m41, h42, h43, h44, h12, m13, Row.cells, hp.1, hp2.1, hp2.2, n1, n2, n3, n4, g1, g2, w1, w2, w3]
                      omega
                    · rw [if_neg hp] at f1
                      rw [f1, f2 hp]
                      have hc : (y.s == x.s && decide (0 < y.ns) && decide (0 < y.ew)) = false := by
                        cases hh : (y.s == x.s && decide (0 < y.ns) && decide (0 < y.ew)) with
                        | false => rfl
                        | true =>
                          simp only [Bool.and_eq_true, beq_iff_eq, decide_eq_true_eq] at hh
                          exact absurd ⟨hh.1.1, by simp [played, hh.1.2, hh.2]⟩ hp
                      simp [h1, h2, m3, h6, h7, h14, h15, h16, h9, m10, h10, m41, h42, h43, h44, h12, m13, Row.cells]
                      rw [hc]
                      simp [h1, h2, m3, h6, h7, h14, h15, h16, h9, m10, h10, m41, h42, h43, h44, Row.cells]
                  · clear W h1 h2 m3 h6 h7 h14 h15 h16 h9 m10 i h10 m41 j g h42 h43 h44 σ
                    rintro σ ⟨⟨h1, h2, m3, h7, h14, h15, h16, i, h9, m10⟩, h6, ⟨j, g, h10, m41⟩, h42, h43, h44⟩
                    simp [h1, h2, m3, h6, h7, h14, h15, h16, h9, m10, h10, m41, h42, h43, h44, wrap_succ (show q ≤ 1000000000 by omega)]
                    exact ⟨⟨q + 1, by omega, rfl, rfl, by omega⟩, by omega⟩
                · have hqe : q = m.rows.length := by omega
                  subst hqe
                  rw [List.take_length] at h6 m41
                  refine wwp_off ?_
                  simp [h1, h2, m3, h6, h7, h14, h15, h16, h9, m10, h10, m41, h43, h44]
            · clear W h1 h2 m3 h6 h7 h14 h15 h16 h9 m10 h10 m41 i j g σ
              rintro σ ⟨⟨h1, h2, m3, h7, h14, h15, h16, i, h9, m10⟩, h6, j, g, h10, m41⟩
              have hcn : cntS m.rows x.s ≤ 60 := Nat.le_trans (List.length_filter_le _ _) hl
              have w1 : IntKind.i64.wrap (playSum m.rows (m.rows.take k) p + (cntS m.rows x.s : Int) - 1) = playSum m.rows (m.rows.take k) p + ((cntS m.rows x.s : Int) - 1) := by rw [wrap_in (by omega) (by omega)]; omega
              have e57 := h57 (metL m.rows x.s) (metL_len _ _)
              cases ho : playOnce m.rows (m.rows.take k) p with
              | false =>
                rw [ho] at h7
                simp [h1, h2, m3, h6, h7, h14, h15, h16, h10, m41, w1, e57, metL_len]
              | true =>
                rw [ho] at h7
                have htk : (ints (metL m.rows x.s)).take 50 = ints (metL m.rows x.s) := List.take_of_length_le (by rw [ints_len, metL_len]; omega)
                simp [h1, h2, m3, h6, h7, h14, h15, h16, h10, m41, w1, e57, metL_len, htk]
        · clear W h1 h2 m3 h6 h7 h14 h15 h16 σ
          rintro σ ⟨h1, h2, m3, h6, h7, h14, h15, h16⟩
          simp [h1, h2, m3, h6, h7, h14, h15, h16, wrap_succ (show k ≤ 1000000000 by omega)]
          exact ⟨⟨k + 1, by omega, rfl, rfl, by omega⟩, by omega⟩
      · have hkl : k = m.rows.length := by omega
        rw [List.take_of_length_le (by omega)] at h6 h7
        refine wwp_off ?_
        simp [h6, h7, h15, h16]
        omega
  · rintro σ' ⟨h6, h7⟩
    simp [h6, h7]
theorem sound31 : Sound Try.prog (mkEnv [(57, S57)] [] []) := sound_mk (by simp [s57]) (by simp) (by simp)
theorem c31 (m : Mv) (p : Int) (hl : m.rows.length ≤ 60) (hin : inPairs m.rows = true) : VCp Try.prog 31 [.agg m.cells, iv p] (.tup [iv (playSum m.rows m.rows p), bv (playOnce m.rows m.rows p)]) :=
  wcontract_p sound31 mixed is31 (by rw [nt31]; simp) (c31w S57 m p hl hin fun l h => S57_at l (by omega) (by cases l with | nil => simp at h | cons => rfl)) rfl
def S31 : List D → Option D
  | [.agg xs, .v (.int .i64 p)] => (asMv xs).bind fun m => if m.rows.length ≤ 60 ∧ inPairs m.rows = true then some (.tup [iv (playSum m.rows m.rows p), bv (playOnce m.rows m.rows p)]) else none
  | _ => none
theorem s31 : OkP 31 S31 := fun ds d h => by
  unfold S31 at h
  split at h
  · rw [Option.bind_eq_some_iff] at h
    obtain ⟨m, hm, h⟩ := h
    split at h <;> cases h
    rename_i hc
    rw [asMv_eq hm]
    exact c31 m _ hc.1 hc.2
  · cases h
theorem S31_at (m : Mv) (p : Int) (hl : m.rows.length ≤ 60) (hin : inPairs m.rows = true) : S31 [.agg m.cells, iv p] = some (.tup [iv (playSum m.rows m.rows p), bv (playOnce m.rows m.rows p)]) := by
  rw [S31, asMv_self, Option.bind_some, if_pos ⟨hl, hin⟩]
end Go.Proofs.Ytpmgaaalfdjikaa
