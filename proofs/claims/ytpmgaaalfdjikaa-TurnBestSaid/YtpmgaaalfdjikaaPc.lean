/- Contracts: exchange. Lemmas; no condition. -/
import Derived.Test.YtpmgaaalfdjikaaPb
namespace Go.Proofs.Ytpmgaaalfdjikaa
open Go.RowKit
set_option linter.unusedSimpArgs false
set_option linter.unusedVariables false

def W41 : WC × List VRes := ((.seq (.reg [(.stm (.eff (.box 2 (.t 0)) none)), (.stm (.eff (.box 3 (.t 1)) none)), (.stm (.eff (.box 4 (.c (.agg [(.v (.int .i64 0)), (.v (.int .i64 0)), (.v (.int .i64 0)), (.v (.int .i64 0)), (.v (.int .i64 0)), .nil]))) none))]) (.seq (.reg [(.set [(5, (.ap (.clo 62) [(.t 3)]))] [8, 5])]) (.seq (.reg [(.set [(10, (.ap (.load 1 false) [(.ap (.fld 5) [(.t 2)])]))] [9, 10]), (.stm (.eff (.callq 11 24 [(.t 10)]) none)), (.set [(12, (.ap (.fld 5) [(.t 2)]))] [12]), (.stm (.eff (.store 1 (.t 12) (.t 11)) none))]) (.seq (.seq (.reg [(.set [(14, (.ap (.load 1 false) [(.ap (.fld 5) [(.t 2)])])), (15, (.ap .llen [(.ap (.load 1 false) [(.ap (.fld 5) [(.t 2)])])])), (16, (.c (.v (.int .i64 0))))] [13, 14, 15, 16])]) (.block 0 (.loop (.seq (.reg [(.set [(17, (.ap (.ibin .lss) [(.t 16), (.t 15)]))] [17])]) (.seq (.cond (.t 17) .skip (.exit 0)) (.seq (.block 1 (.seq (.reg [(.set [(18, (.t 16)), (20, (.ap (.load 5 true) [(.ap (.idx 53 5) [(.t 14), (.t 16)])]))] [18, 19, 20]), (.stm (.eff (.box 7 (.c (.agg [(.v (.int .i64 0)), (.v (.int .i64 0)), (.v (.int .i64 0)), (.v (.int .i64 0)), (.v (.int .i64 0))]))) none)), (.set [(6, (.t 18))] [6]), (.stm (.eff (.store 5 (.t 7) (.t 20)) none))]) (.seq (.reg [(.set [(24, (.ap .ccall [(.t 5), (.ap (.load 1 false) [(.ap (.fld 0) [(.t 7)])])]))] [21, 22, 23, 24])]) (.cond (.t 24) (.drw [[(.op 25 (.fld 5) [(.t 2)] none), (.op 26 (.load 1 false) [(.t 25)] none), (.op 27 .mv [(.t 6)] none), (.op 28 (.fld 5) [(.t 2)] none), (.op 30 .mv [(.t 6)] none), (.op 31 (.fld 3) [(.t 7)] none), (.op 32 (.load 1 false) [(.t 31)] none), (.op 33 (.fld 2) [(.t 7)] none), (.op 35 (.idx 53 5) [(.t 26), (.t 27)] none), (.op 36 (.fld 2) [(.t 35)] none), (.op 29 (.load 1 false) [(.t 28)] none), (.op 34 (.load 1 false) [(.t 33)] none), (.eff (.store 1 (.t 36) (.t 32)) none), (.op 37 (.idx 53 5) [(.t 29), (.t 30)] none), (.op 38 (.fld 3) [(.t 37)] none), (.eff (.store 1 (.t 38) (.t 34)) none)], [(.op 25 (.fld 5) [(.t 2)] none), (.op 26 (.load 1 false) [(.t 25)] none), (.op 27 .mv [(.t 6)] none), (.op 28 (.fld 5) [(.t 2)] none), (.op 30 .mv [(.t 6)] none), (.op 31 (.fld 3) [(.t 7)] none), (.op 32 (.load 1 false) [(.t 31)] none), (.op 33 (.fld 2) [(.t 7)] none), (.op 35 (.idx 53 5) [(.t 26), (.t 27)] none), (.op 36 (.fld 2) [(.t 35)] none), (.op 29 (.load 1 false) [(.t 28)] none), (.eff (.store 1 (.t 36) (.t 32)) none), (.op 34 (.load 1 false) [(.t 33)] none), (.op 37 (.idx 53 5) [(.t 29), (.t 30)] none), (.op 38 (.fld 3) [(.t 37)] none), (.eff (.store 1 (.t 38) (.t 34)) none)], [(.op 25 (.fld 5) [(.t 2)] none), (.op 26 (.load 1 false) [(.t 25)] none), (.op 27 .mv [(.t 6)] none), (.op 28 (.fld 5) [(.t 2)] none), (.op 30 .mv [(.t 6)] none), (.op 31 (.fld 3) [(.t 7)] none), (.op 32 (.load 1 false) [(.t 31)] none), (.op 33 (.fld 2) [(.t 7)] none), (.op 35 (.idx 53 5) [(.t 26), (.t 27)] none), (.op 36 (.fld 2) [(.t 35)] none), (.op 34 (.load 1 false) [(.t 33)] none), (.op 29 (.load 1 false) [(.t 28)] none), (.eff (.store 1 (.t 36) (.t 32)) none), (.op 37 (.idx 53 5) [(.t 29), (.t 30)] none), (.op 38 (.fld 3) [(.t 37)] none), (.eff (.store 1 (.t 38) (.t 34)) none)], [(.op 25 (.fld 5) [(.t 2)] none), (.op 26 (.load 1 false) [(.t 25)] none), (.op 27 .mv [(.t 6)] none), (.op 28 (.fld 5) [(.t 2)] none), (.op 30 .mv [(.t 6)] none), (.op 31 (.fld 3) [(.t 7)] none), (.op 32 (.load 1 false) [(.t 31)] none), (.op 33 (.fld 2) [(.t 7)] none), (.op 35 (.idx 53 5) [(.t 26), (.t 27)] none), (.op 36 (.fld 2) [(.t 35)] none), (.op 34 (.load 1 false) [(.t 33)] none), (.eff (.store 1 (.t 36) (.t 32)) none), (.op 29 (.load 1 false) [(.t 28)] none), (.op 37 (.idx 53 5) [(.t 29), (.t 30)] none), (.op 38 (.fld 3) [(.t 37)] none), (.eff (.store 1 (.t 38) (.t 34)) none)], [(.op 25 (.fld 5) [(.t 2)] none), (.op 26 (.load 1 false) [(.t 25)] none), (.op 27 .mv [(.t 6)] none), (.op 28 (.fld 5) [(.t 2)] none), (.op 30 .mv [(.t 6)] none), (.op 31 (.fld 3) [(.t 7)] none), (.op 32 (.load 1 false) [(.t 31)] none), (.op 33 (.fld 2) [(.t 7)] none), (.op 35 (.idx 53 5) [(.t 26), (.t 27)] none), (.op 36 (.fld 2) [(.t 35)] none), (.eff (.store 1 (.t 36) (.t 32)) none), (.op 29 (.load 1 false) [(.t 28)] none), (.op 34 (.load 1 false) [(.t 33)] none), (.op 37 (.idx 53 5) [(.t 29), (.t 30)] none), (.op 38 (.fld 3) [(.t 37)] none), (.eff (.store 1 (.t 38) (.t 34)) none)]]) .skip)))) (.reg [(.set [(16, (.ap (.ibin .add) [(.t 16), (.c (.v (.int .i64 1)))]))] [39, 16])]))))))) (.seq (.seq (.reg [(.set [(42, (.ap (.ibin .gtr) [(.ap .llen [(.ap (.load 1 false) [(.t 3)])]), (.c (.v (.int .i64 0)))]))] [40, 41, 42])]) (.cond (.t 42) (.reg [(.set [(43, (.ap (.fld 4) [(.t 2)]))] [43]), (.stm (.eff (.store 1 (.t 43) (.c (.v (.int .i64 1)))) none))]) .skip)) (.seq (.reg [(.set [(44, (.ap (.load 6 true) [(.t 2)]))] [44]), (.stm (.eff (.store 6 (.t 4) (.t 44)) none))]) .ret)))))), [(.cell 4 6 true)])
theorem is41 : IsFn Try.prog frOf 41 Try.f41 W41 := ⟨by kernel_rfl, by kernel_rfl, by kernel_rfl⟩
theorem nt41 : Try.f41.ntmps = 45 := by kernel_rfl


def turnRow (L : List Int) (x : Row) : Row := if L.contains x.r then { x with ns := x.ew, ew := x.ns } else x
def exch (m : Mv) (L : List Int) : Mv := { m with w := if L.isEmpty then m.w else 1, rows := m.rows.map (turnRow L) }
def half (L : List Int) (k : Nat) (l : List Row) : List Row := (l.take k).map (turnRow L) ++ l.drop k

theorem half_len (L : List Int) (k : Nat) (l : List Row) : (half L k l).length = l.length := by simp [half]; omega
theorem half_get {L : List Int} {k : Nat} {l : List Row} (h : k < l.length) : (half L k l)[k]? = some l[k] := by
  unfold half
  rw [List.getElem?_append_right (by simp; omega)]
  have : k - ((l.take k).map (turnRow L)).length = 0 := by simp; omega
  rw [this, List.getElem?_drop, Nat.add_zero, List.getElem?_eq_getElem h]
theorem half_at {L : List Int} {k : Nat} {l : List Row} (h : k < l.length) : (rowsL (half L k l))[k]? = some l[k].cells := by
  simp [rowsL, half_get h]
theorem half_succ {L : List Int} {k : Nat} {l : List Row} (h : k < l.length) : half L (k + 1) l = (half L k l).set k (turnRow L l[k]) := by
  unfold half
  rw [List.set_append_right _ _ (by simp; omega), List.take_succ_eq_append_getElem h, List.map_append]
  have e : k - ((l.take k).map (turnRow L)).length = 0 := by simp; omega
  rw [e, List.drop_eq_getElem_cons h, List.set_cons_zero, List.append_assoc]
  rfl
theorem half_all (L : List Int) (l : List Row) : half L l.length l = l.map (turnRow L) := by simp [half]
def env41 : Env := mkEnv [(62, S62)] [(24, S24)] []
@[simp] theorem env41_p (f : Nat) (ds : List D) : env41.p f ds = (look [(62, S62)] f).bind fun s => s ds := rfl
@[simp] theorem env41_q (f : Nat) (ds : List D) : env41.q f ds = (look [(24, S24)] f).bind fun s => s ds := rfl
theorem sound41 : Sound Try.prog env41 := sound_mk (by simp [s62]) (by simp [s24]) (by simp)
theorem c41 (m : Mv) (L : List Int) (hm : m.rows.length ≤ 1000000) (h0 : m.rows ≠ []) (hL : L.length ≤ 1000000) (hs : rises L = true) :
    VCq Try.prog 41 [.agg m.cells, .list (ints L)] (.agg ((exch m L).cellsW (.sl [] 5 0 m.rows.length none))) (rowMem 53 (rowsL (exch m L).rows)) := by
  refine wcontract_q sound41 mixed is41 (by rw [nt41]; simp) ?_
  simp [W41, Mv.cells, Mv.cellsW, S24, hm, h0]
  refine wwp_loop (fun σ => ∃ k : Nat, k ≤ m.rows.length ∧ σ.s 16 = iv k ∧ σ.s 15 = iv m.rows.length ∧ σ.s 14 = .sl [12, 0] 5 0 m.rows.length none ∧ σ.s 5 = .clo 62 [.ptr [4, 0] 0] ∧ σ.s 2 = .ptr [3, 0] 0 ∧ σ.s 3 = .ptr [4, 0] 0 ∧ σ.s 4 = .ptr [5, 0] 0 ∧
    σ.m [3, 0] = some (.box [iv m.t, iv m.r, iv m.s, iv m.c, iv m.w, .sl [12, 0] 5 0 m.rows.length none]) ∧ σ.m [4, 0] = some (.box [.list (ints L)]) ∧ σ.m [5, 0] = some (.box [iv 0, iv 0, iv 0, iv 0, iv 0, .nil]) ∧
    σ.m [12, 0] = some (.row [12, 0, 0] 53 (rowsL (half L k m.rows)))) (fun σ => cnt m.rows.length (σ.s 16)) ?_ ?_
  · exact ⟨0, by simp, by simp, by simp, by simp, by simp, by simp, by simp, by simp, by simp, by simp, by simp, by simp [half]⟩
  · rintro σ hw ⟨k, hk, h16, h15, h14, h5, h2, h3, h4, m3, m4, m5, m12⟩
    simp [h15, h16]
    refine condK_dec (fun hlt => ?_) (fun hge => ?_)
    · have hat : (rowsL (half L k m.rows))[k]? = some m.rows[k].cells := half_at hlt
      have hhl : (half L k m.rows).length = m.rows.length := half_len _ _ _
      simp [h14, h16, h5, m12, m4, hlt, hat, Row.cells, S62, hL, hs]
      refine condK_dec (fun hx => ?_) (fun hx => ?_)
      · refine wwp_drw_h [25, 26, 27, 28, 29, 30, 31, 32, 33, 34, 35, 36, 37, 38] (by decide) ?_
        simp [h2, h3, h4, h5, h14, h15, h16, m3, m4, m5, m12, hlt, hat, hhl, Row.cells, wrap_succ (show k ≤ 1000000000 by omega)]
        refine ⟨⟨k + 1, by omega, by omega, ?_⟩, by omega⟩
        have hget : (half L k m.rows)[k]'(by omega) = m.rows[k] := by
          have := half_get (L := L) hlt
          rw [List.getElem?_eq_getElem (by omega)] at this
          exact Option.some.inj this
        rw [half_succ hlt, rowsL_set, hget]
        simp [turnRow, hx, Row.cells]
      · simp [h16, h15, h14, h5, h2, h3, h4, m3, m4, m5, m12, wrap_succ (show k ≤ 1000000000 by omega)]
        refine ⟨⟨k + 1, by omega, by omega, ?_⟩, by omega⟩
        rw [half_succ hlt]
        have hget := half_get (L := L) hlt
        have : (half L k m.rows).set k (turnRow L m.rows[k]) = half L k m.rows := by
          simp only [turnRow, List.contains_eq_mem, hx, decide_false, Bool.false_eq_true, if_false]
          rw [List.getElem?_eq_getElem (by omega)] at hget
          rw [← Option.some.inj hget]
          exact List.set_getElem_self _
        rw [this]
    · have hkn : k = m.rows.length := by omega
      subst hkn
      simp [h2, h3, h4, m3, m4, m5]
      rw [half_all] at m12
      refine condK_dec (fun hl0 => ?_) (fun hl0 => ?_)
      · have hne : L ≠ [] := fun e => by rw [e] at hl0; simp at hl0
        simp [h2, h3, h4, m3, m4, m5]
        have hw1 : (exch m L).w = 1 := by simp [exch, hne]
        rw [hw1]
        exact Out.aggRow (t := [12, 0]) (g := [12, 0, 0]) (es := rowsL (m.rows.map (turnRow L))) (pre := [iv m.t, iv m.r, iv m.s, iv m.c, iv 1]) rfl (by simp [m12]) (rowsL_flat _)
      · have hne : L = [] := List.eq_nil_of_length_eq_zero (by omega)
        simp [h2, h3, h4, m3, m4, m5]
        have hw1 : (exch m L).w = m.w := by simp [exch, hne]
        rw [hw1]
        exact Out.aggRow (t := [12, 0]) (g := [12, 0, 0]) (es := rowsL (m.rows.map (turnRow L))) (pre := [iv m.t, iv m.r, iv m.s, iv m.c, iv m.w]) rfl (by simp [m12]) (rowsL_flat _)
theorem c41_nil (m : Mv) (L : List Int) (h0 : m.rows = []) (hL : L.length ≤ 1000000) (hs : rises L = true) :
    VCq Try.prog 41 [.agg m.cells, .list (ints L)] (.agg ((exch m L).cellsW (.list []))) noMem := by
  refine wcontract_q sound41 mixed is41 (by rw [nt41]; simp) ?_
  simp [W41, Mv.cells, Mv.cellsW, S24, h0]
  refine wwp_loop (fun σ => σ.s 16 = iv 0 ∧ σ.s 15 = iv 0 ∧ σ.s 2 = .ptr [3, 0] 0 ∧ σ.s 3 = .ptr [4, 0] 0 ∧ σ.s 4 = .ptr [5, 0] 0 ∧
    σ.m [3, 0] = some (.box [iv m.t, iv m.r, iv m.s, iv m.c, iv m.w, .list []]) ∧ σ.m [4, 0] = some (.box [.list (ints L)]) ∧ σ.m [5, 0] = some (.box [iv 0, iv 0, iv 0, iv 0, iv 0, .nil])) (fun σ => 0) ?_ ?_
  · exact ⟨by simp, by simp, by simp, by simp, by simp, by simp, by simp, by simp⟩
  · rintro σ hw ⟨h16, h15, h2, h3, h4, m3, m4, m5⟩
    simp [h15, h16, h2, h3, h4, m3, m4, m5]
    refine condK_dec (fun hl0 => ?_) (fun hl0 => ?_)
    · have hne : L ≠ [] := fun e => by rw [e] at hl0; simp at hl0
      have hw1 : (exch m L).w = 1 := by simp [exch, hne]
      simp [h2, h3, h4, m3, m4, m5, hw1]
      exact Out.flat rfl rfl
    · have hne : L = [] := List.eq_nil_of_length_eq_zero (by omega)
      have hw1 : (exch m L).w = m.w := by simp [exch, hne]
      simp [h2, h3, h4, m3, m4, m5, hw1]
      exact Out.flat rfl rfl
def S41 : List D → Option (D × Mem)
  | [.agg xs, .list es] => (asMv xs).bind fun m => (asInts es).bind fun L => if m.rows.length ≤ 1000000 ∧ L.length ≤ 1000000 ∧ rises L = true then
      if m.rows.isEmpty then some (.agg ((exch m L).cellsW (.list [])), noMem) else some (.agg ((exch m L).cellsW (.sl [] 5 0 m.rows.length none)), rowMem 53 (rowsL (exch m L).rows)) else none
  | _ => none
theorem s41 : OkQ 41 S41 := fun ds d mm h => by
  unfold S41 at h
  split at h
  · rw [Option.bind_eq_some_iff] at h
    obtain ⟨m, hm, h⟩ := h
    rw [Option.bind_eq_some_iff] at h
    obtain ⟨L, hL, h⟩ := h
    rw [asMv_eq hm, asInts_eq hL]
    split at h
    · rename_i hc
      split at h
      · rename_i h0
        cases h
        exact c41_nil m L (by simpa using h0) hc.2.1 hc.2.2
      · rename_i h0
        cases h
        exact c41 m L hc.1 (by simpa using h0) hc.2.1 hc.2.2
    · cases h
  · cases h
end Go.Proofs.Ytpmgaaalfdjikaa
