/- Contracts: Turn, Last, Best. Lemmas; no condition. -/
import Derived.Test.YtpmgaaalfdjikaaPc
import Derived.Test.YtpmgaaalfdjikaaPg
namespace Go.Proofs.Ytpmgaaalfdjikaa
open Go.RowKit
set_option linter.unusedSimpArgs false
set_option linter.unusedVariables false

def W17 : WC × List VRes := ((.seq (.reg [(.stm (.eff (.box 2 (.t 0)) none)), (.stm (.eff (.box 4 (.c (.agg [(.v (.int .i64 0)), (.v (.int .i64 0)), (.v (.int .i64 0)), (.v (.int .i64 0)), (.v (.int .i64 0)), .nil]))) none)), (.set [(5, (.c (.v (.int .i64 0))))] [5])]) (.seq (.seq (.reg [(.set [(8, (.ap .inot [(.ap (.call 27) [(.ap (.load 6 true) [(.t 2)])])]))] [6, 7, 8])]) (.cond (.t 8) (.seq (.reg [(.set [(9, (.ap (.build [(.v (.int .i64 0)), (.v (.int .i64 0)), (.v (.int .i64 0)), (.v (.int .i64 0)), (.v (.int .i64 0)), .nil] []) []))] [9]), (.stm (.eff (.store 6 (.t 4) (.t 9)) none)), (.set [(5, (.c (.v (.int .i64 290))))] [5])]) .ret) .skip)) (.seq (.seq (.reg [(.set [(13, (.ap .inot [(.ap (.call 39) [(.ap (.load 6 true) [(.t 2)]), (.t 1)])]))] [10, 11, 12, 13])]) (.cond (.t 13) (.seq (.reg [(.set [(14, (.ap (.build [(.v (.int .i64 0)), (.v (.int .i64 0)), (.v (.int .i64 0)), (.v (.int .i64 0)), (.v (.int .i64 0)), .nil] []) []))] [14]), (.stm (.eff (.store 6 (.t 4) (.t 14)) none)), (.set [(5, (.c (.v (.int .i64 291))))] [5])]) .ret) .skip)) (.seq (.reg [(.set [(15, (.ap (.load 6 true) [(.t 2)])), (16, (.t 1))] [15, 16]), (.stm (.eff (.callq 17 41 [(.t 15), (.t 16)]) none)), (.stm (.eff (.store 6 (.t 4) (.t 17)) none)), (.set [(5, (.c (.v (.int .i64 0))))] [5])]) .ret)))), [(.cell 4 6 true), (.t 5)])
theorem is17 : IsFn Try.prog frOf 17 Try.f17 W17 := ⟨by kernel_rfl, by kernel_rfl, by kernel_rfl⟩
theorem nt17 : Try.f17.ntmps = 18 := by kernel_rfl
def W20 : WC × List VRes := ((.seq (.reg [(.stm (.eff (.box 2 (.t 0)) none)), (.set [(4, (.c .nil)), (5, (.c (.v (.int .i64 0))))] [4, 5])]) (.seq (.seq (.reg [(.set [(10, (.ap .inot [(.ap (.call 27) [(.ap (.load 6 true) [(.t 2)])])]))] [8, 9, 10])]) (.cond (.t 10) (.seq (.reg [(.set [(4, (.c .nil)), (5, (.c (.v (.int .i64 290))))] [4, 5])]) .ret) .skip)) (.seq (.seq (.reg [(.set [(18, (.ite (.ap (.ibin .lss) [(.t 1), (.c (.v (.int .i64 0)))]) (.c (.v (.bool true))) (.ap (.ibin .gtr) [(.t 1), (.ap (.load 1 false) [(.ap (.fld 1) [(.t 2)])])])))] [11, 12, 13, 14, 15, 16, 17, 18])]) (.cond (.t 18) (.seq (.reg [(.set [(4, (.c .nil)), (5, (.c (.v (.int .i64 2))))] [4, 5])]) .ret) .skip)) (.seq (.reg [(.set [(6, (.c .nil))] [6])]) (.seq (.seq (.reg [(.set [(7, (.ap (.ibin .sub) [(.ap (.load 1 false) [(.ap (.fld 1) [(.t 2)])]), (.t 1)]))] [19, 20, 21, 22, 7])]) (.block 0 (.loop (.seq (.seq (.reg [(.set [(26, (.ap (.ibin .lss) [(.t 7), (.ap (.load 1 false) [(.ap (.fld 1) [(.t 2)])])]))] [23, 24, 25, 26])]) (.cond (.t 26) .skip (.exit 0))) (.seq (.block 1 (.reg [(.set [(29, (.t 6)), (30, (.t 7))] [29, 30]), (.stm (.eff (.lit 31 3 1 1 [(.v (.int .i64 0))] [(0, 1)] [(.t 30)]) none)), (.stm (.eff (.app 32 3 1 (.t 29) (.t 31)) none)), (.set [(6, (.t 32))] [6])])) (.reg [(.set [(7, (.ap (.ibin .add) [(.t 7), (.c (.v (.int .i64 1)))]))] [27, 28, 7])])))))) (.seq (.reg [(.set [(4, (.t 6)), (5, (.c (.v (.int .i64 0))))] [33, 4, 5])]) .ret)))))), [(.t 4), (.t 5)])
theorem is20 : IsFn Try.prog frOf 20 Try.f20 W20 := ⟨by kernel_rfl, by kernel_rfl, by kernel_rfl⟩
theorem nt20 : Try.f20.ntmps = 34 := by kernel_rfl
def W15 : WC × List VRes := ((.seq (.reg [(.stm (.eff (.box 2 (.t 0)) none)), (.set [(4, (.c (.v (.int .i64 0)))), (5, (.c (.v (.int .i64 0))))] [4, 5])]) (.seq (.seq (.reg [(.set [(15, (.ap .inot [(.ap (.call 27) [(.ap (.load 6 true) [(.t 2)])])]))] [13, 14, 15])]) (.cond (.t 15) (.seq (.reg [(.set [(4, (.c (.v (.int .i64 0)))), (5, (.c (.v (.int .i64 290))))] [4, 5])]) .ret) .skip)) (.seq (.seq (.reg [(.set [(18, (.ap (.ibin .gtr) [(.ap .llen [(.t 1)]), (.c (.v (.int .i64 64)))]))] [16, 17, 18])]) (.cond (.t 18) (.seq (.reg [(.set [(4, (.c (.v (.int .i64 0)))), (5, (.c (.v (.int .i64 5))))] [4, 5])]) .ret) .skip)) (.seq (.seq (.reg [(.set [(21, (.ap (.ibin .eql) [(.ap .llen [(.t 1)]), (.c (.v (.int .i64 0)))]))] [19, 20, 21])]) (.cond (.t 21) (.seq (.reg [(.set [(4, (.c (.v (.int .i64 0)))), (5, (.c (.v (.int .i64 6))))] [4, 5])]) .ret) .skip)) (.seq (.seq (.reg [(.set [(22, (.t 1)), (23, (.ap .llen [(.t 1)])), (24, (.c (.v (.int .i64 0))))] [22, 23, 24])]) (.block 0 (.loop (.seq (.reg [(.set [(25, (.ap (.ibin .lss) [(.t 24), (.t 23)]))] [25])]) (.seq (.cond (.t 25) .skip (.exit 0)) (.seq (.block 1 (.seq (.reg [(.set [(7, (.ap (.load 1 false) [(.ap (.idx 34 1) [(.t 22), (.t 24)])]))] [26, 27, 7])]) (.seq (.reg [(.set [(31, (.ap .inot [(.ap (.call 39) [(.ap (.load 6 true) [(.t 2)]), (.t 7)])]))] [28, 29, 30, 31])]) (.cond (.t 31) (.seq (.reg [(.set [(4, (.c (.v (.int .i64 0)))), (5, (.c (.v (.int .i64 291))))] [4, 5])]) .ret) .skip)))) (.reg [(.set [(24, (.ap (.ibin .add) [(.t 24), (.c (.v (.int .i64 1)))]))] [32, 24])]))))))) (.seq (.reg [(.set [(8, (.c (.v (.int .i64 0)))), (9, (.c (.v (.int .i64 0))))] [8, 9])]) (.seq (.seq (.reg [(.set [(33, (.t 1)), (34, (.ap .llen [(.t 1)])), (35, (.c (.v (.int .i64 0))))] [33, 34, 35])]) (.block 2 (.loop (.seq (.reg [(.set [(36, (.ap (.ibin .lss) [(.t 35), (.t 34)]))] [36])]) (.seq (.cond (.t 36) .skip (.exit 2)) (.seq (.block 3 (.seq (.reg [(.set [(10, (.t 35)), (11, (.ap (.load 1 false) [(.ap (.idx 34 1) [(.t 33), (.t 35)])]))] [37, 38, 39, 10, 11])]) (.seq (.reg [(.set [(40, (.ap (.load 6 true) [(.t 2)])), (41, (.t 11))] [40, 41]), (.stm (.eff (.callq 42 41 [(.t 40), (.t 41)]) none)), (.set [(12, (.ap (.call 40) [(.t 42)]))] [43, 12])]) (.seq (.reg [(.set [(50, (.ite (.ap (.ibin .eql) [(.t 10), (.c (.v (.int .i64 0)))]) (.c (.v (.bool true))) (.ap (.ibin .lss) [(.t 12), (.t 9)])))] [44, 45, 46, 47, 48, 49, 50])]) (.cond (.t 50) (.reg [(.set [(8, (.t 10)), (9, (.t 12))] [51, 52, 8, 9])]) .skip))))) (.reg [(.set [(35, (.ap (.ibin .add) [(.t 35), (.c (.v (.int .i64 1)))]))] [53, 35])]))))))) (.seq (.reg [(.set [(4, (.t 8)), (5, (.c (.v (.int .i64 0))))] [54, 4, 5])]) .ret)))))))), [(.t 4), (.t 5)])
theorem is15 : IsFn Try.prog frOf 15 Try.f15 W15 := ⟨by kernel_rfl, by kernel_rfl, by kernel_rfl⟩
theorem nt15 : Try.f15.ntmps = 55 := by kernel_rfl


theorem listOK_rises {r : Int} : ∀ {l : List Int} {p : Int}, listOK r p l = true → (∀ x ∈ l, p < x) ∧ l.Pairwise (· < ·)
  | [], p, _ => ⟨by simp, by simp⟩
  | x :: l, p, h => by
    rw [listOK_cons] at h
    obtain ⟨h1, h2⟩ := listOK_rises h.2.2
    refine ⟨fun y hy => ?_, List.pairwise_cons.2 ⟨h1, h2⟩⟩
    rcases List.mem_cons.1 hy with rfl | hy
    · exact h.1
    · have := h1 y hy; omega
theorem listOK_rises' {r p : Int} {l : List Int} (h : listOK r p l = true) : rises l = true := by
  simpa [rises] using (listOK_rises h).2
theorem Out.tup {σ : St} {xs ys : List D} {m' : Mem} (h : Out σ (.agg xs) (.agg ys) m') (x : Value) : Out σ (.tup [.agg xs, .v x]) (.tup [.agg ys, .v x]) m' := by
  obtain ⟨f, h1, h2, h3, h4⟩ := h
  refine ⟨f, ?_, ?_, h3, h4⟩
  · have : D.agg xs = (D.agg ys).renA f := h1
    simp only [D.ren, List.map_cons, List.map_nil, ← this]
    rfl
  · have : (D.agg ys).noFA = true := h2
    simp [D.noF, this]; rfl
theorem Out.tupSl {σ : St} {t : Tok} {size off len : Nat} {l : Option Nat} {t' : Tok} {m' : Mem} (h : Out σ (.sl t size off len l) (.sl t' size off len l) m') (x : Value) : Out σ (.tup [.sl t size off len l, .v x]) (.tup [.sl t' size off len l, .v x]) m' := by
  obtain ⟨f, h1, h2, h3, h4⟩ := h
  refine ⟨f, ?_, rfl, h3, h4⟩
  have : D.sl t size off len l = (D.sl t' size off len l).renA f := h1
  simp only [D.ren, List.map_cons, List.map_nil, ← this]
  rfl

def noMv : List D := [iv 0, iv 0, iv 0, iv 0, iv 0, .nil]
/-- What Turn says. -/
def turnE (m : Mv) (L : List Int) : Int := if fitB m = true then (if listOK m.r (-1) L = true then 0 else 291) else 290
def turnR (m : Mv) (L : List Int) : D × Mem :=
  if turnE m L = 0 then (if m.rows.isEmpty then (.tup [.agg ((exch m L).cellsW (.list [])), iv 0], noMem)
    else (.tup [.agg ((exch m L).cellsW (.sl [] 5 0 m.rows.length none)), iv 0], rowMem 53 (rowsL (exch m L).rows)))
  else (.tup [.agg noMv, iv (turnE m L)], noMem)
def env17 : Env := mkEnv [(27, S27), (39, S39)] [(41, S41)] []
@[simp] theorem env17_p (f : Nat) (ds : List D) : env17.p f ds = (look [(27, S27), (39, S39)] f).bind fun s => s ds := rfl
@[simp] theorem env17_q (f : Nat) (ds : List D) : env17.q f ds = (look [(41, S41)] f).bind fun s => s ds := rfl
theorem sound17 : Sound Try.prog env17 := sound_mk (by simp [s27, s39]) (by simp [s41]) (by simp)
theorem c17 (m : Mv) (L : List Int) (hL : L.length ≤ 1000000) : VCq Try.prog 17 [.agg m.cells, .list (ints L)] (turnR m L).1 (turnR m L).2 := by
  refine wcontract_q sound17 mixed is17 (by rw [nt17]; simp) ?_
  simp [W17, Mv.cells, Mv.cellsW, S27]
  refine condK_b (fun hf => ?_) (fun hf => ?_)
  · have hf' : fitB m = false := by simpa using hf
    simp [turnR, turnE, hf']
    exact Out.flat rfl rfl
  · have hf' : fitB m = true := by simpa using hf
    have hl := fit_len hf'
    simp [S39, hL]
    refine condK_b (fun hk => ?_) (fun hk => ?_)
    · have hk' : listOK m.r (-1) L = false := by simpa using hk
      simp [turnR, turnE, hf', hk']
      exact Out.flat rfl rfl
    · have hk' : listOK m.r (-1) L = true := by simpa using hk
      have hr := listOK_rises' hk'
      by_cases h0 : m.rows = []
      · obtain ⟨mt, mr, ms, mc, mw, rows⟩ := m
        simp only at h0
        subst h0
        simp [turnR, turnE, hf', hk', S41, hL, hr, Mv.cellsW]
        exact Out.flat rfl rfl
      · simp [turnR, turnE, hf', hk', S41, hL, hr, h0, show m.rows.length ≤ 1000000 by omega, Mv.cellsW]
        exact Out.tup (Out.aggRow (t := [18, 0]) (g := [18, 0, 0]) (es := rowsL (exch m L).rows) (pre := [iv (exch m L).t, iv (exch m L).r, iv (exch m L).s, iv (exch m L).c, iv (exch m L).w]) rfl (by simp) (rowsL_flat _)) _
def S17 : List D → Option (D × Mem)
  | [.agg xs, .list es] => (asMv xs).bind fun m => (asInts es).bind fun L => if L.length ≤ 1000000 then some (turnR m L) else none
  | _ => none
theorem s17 : OkQ 17 S17 := fun ds d mm h => by
  unfold S17 at h
  split at h
  · rw [Option.bind_eq_some_iff] at h
    obtain ⟨m, hm, h⟩ := h
    rw [Option.bind_eq_some_iff] at h
    obtain ⟨L, hL, h⟩ := h
    split at h
    · rename_i hc
      have := c17 m L hc
      rw [Option.some.inj h] at this
      rw [asMv_eq hm, asInts_eq hL]
      exact this
    · cases h
  · cases h

/-- The last rounds. -/
def lastF (r : Int) (n k : Nat) : List Int := (List.range k).map fun (j : Nat) => r - (n : Int) + (j : Int)
def lastL (r : Int) (n : Nat) : List Int := lastF r n n
theorem lastF_len (r : Int) (n k : Nat) : (lastF r n k).length = k := by simp [lastF]
theorem lastF_succ (r : Int) (n k : Nat) : lastF r n (k + 1) = lastF r n k ++ [r - (n : Int) + (k : Int)] := by simp [lastF, List.range_succ]
def lastE (m : Mv) (n : Int) : Int := if fitB m = true then (if n < 0 ∨ m.r < n then 2 else 0) else 290
def lastR (m : Mv) (n : Int) : D × Mem :=
  if lastE m n = 0 then (if n = 0 then (.tup [.nil, iv 0], noMem) else (.tup [.sl [] 1 0 n.toNat none, iv 0], rowMem 3 (ints (lastL m.r n.toNat))))
  else (.tup [.nil, iv (lastE m n)], noMem)
def env20 : Env := mkEnv [(27, S27)] [] []
@[simp] theorem env20_p (f : Nat) (ds : List D) : env20.p f ds = (look [(27, S27)] f).bind fun s => s ds := rfl
theorem sound20 : Sound Try.prog env20 := sound_mk (by simp [s27]) (by simp) (by simp)
theorem c20 (m : Mv) (n : Int) : VCq Try.prog 20 [.agg m.cells, iv n] (lastR m n).1 (lastR m n).2 := by
  refine wcontract_q sound20 mixed is20 (by rw [nt20]; simp) ?_
  simp [W20, Mv.cells, Mv.cellsW, S27]
  refine condK_b (fun hf => ?_) (fun hf => ?_)
  · have hf' : fitB m = false := by simpa using hf
    simp [lastR, lastE, hf']
    exact Out.flat rfl rfl
  · have hf' : fitB m = true := by simpa using hf
    obtain ⟨b1, b2, b3, b4, b5⟩ := ((fitB_iff m).1 hf').1
    simp
    refine condK_b (fun hk => ?_) (fun hk => ?_)
    · have hk' : n < 0 ∨ m.r < n := by simpa using hk
      simp [lastR, lastE, hf', hk']
      exact Out.flat rfl rfl
    · have hk' : ¬ n < 0 ∧ ¬ m.r < n := by simpa using hk
      have hk2 : ¬ (n < 0 ∨ m.r < n) := by omega
      simp [wrap_in (show -9223372036854775808 ≤ m.r - n by omega) (show m.r - n ≤ 9223372036854775807 by omega)]
      obtain ⟨N, hN⟩ : ∃ N : Nat, n = N := ⟨n.toNat, by omega⟩
      subst hN
      refine wwp_loop (fun σ => ∃ k : Nat, k ≤ N ∧ σ.s 7 = iv (m.r - N + k) ∧ σ.s 2 = .ptr [3, 0] 0 ∧ σ.m [3, 0] = some (.box [iv m.t, iv m.r, iv m.s, iv m.c, iv m.w, .list (rowsL m.rows)]) ∧
        ((k = 0 ∧ σ.s 6 = .nil) ∨ (0 < k ∧ ∃ t g, σ.s 6 = .sl t 1 0 k none ∧ σ.m t = some (.row g 3 (ints (lastF m.r N k)))))) (fun σ => match σ.s 7 with | .v (.int _ x) => (m.r - x).toNat | _ => 0) ?_ ?_
      · exact ⟨0, by omega, by simp, by simp, by simp, .inl ⟨rfl, by simp⟩⟩
      · rintro σ hw ⟨k, hk, h7, h2, m3, h6⟩
        simp [h7, h2, m3]
        refine condK_dec (fun hlt => ?_) (fun hge => ?_)
        · rcases h6 with ⟨rfl, h6⟩ | ⟨hk0, t, g, h6, hmt⟩
          · have w1 : IntKind.i64.wrap (m.r - (N : Int) + 1) = m.r - (N : Int) + 1 := wrap_in (by omega) (by omega)
            simp [h6, h7, h2, m3, one_made, w1]
            exact ⟨⟨1, by omega, by omega, by omega, _, ⟨rfl, rfl⟩, [33, σ.c 32], by simp [lastF, ints]⟩, by omega⟩
          · have w1 : IntKind.i64.wrap (m.r - (N : Int) + k + 1) = m.r - (N : Int) + k + 1 := wrap_in (by omega) (by omega)
            have n1 := hw.ne hmt 31 (σ.c 31) []
            have hk3 : k + 1 ≤ maxMade := by unfold maxMade; omega
            have hlf := lastF_len m.r N k
            simp [h6, h7, h2, m3, n1, hmt, hk3, hlf, w1]
            refine ⟨⟨k + 1, by omega, by omega, by omega, _, ⟨rfl, rfl⟩, g, ?_⟩, by omega⟩
            have htk : (ints (lastF m.r N k)).take k = ints (lastF m.r N k) := List.take_of_length_le (by simp [hlf])
            rw [if_pos rfl, lastF_succ, ints_append, htk]
            rfl
        · have hkN : k = N := by omega
          subst hkN
          rcases h6 with ⟨rfl, h6⟩ | ⟨hk0, t, g, h6, hmt⟩
          · have hr0 : 0 ≤ m.r := by omega
            simp [h6, lastR, lastE, hf', hk2, hr0]
            exact Out.flat rfl rfl
          · have hk0' : ¬ k = 0 := by omega
            have hrk : (k : Int) ≤ m.r := by omega
            simp [h6, lastR, lastE, hf', hk2, hk0', hrk]
            exact Out.tupSl (Out.row (g := g) (es := ints (lastL m.r k)) (by simp; exact hmt) (ints_flat _)) _
def S20 : List D → Option (D × Mem)
  | [.agg xs, .v (.int .i64 n)] => (asMv xs).map fun m => lastR m n
  | _ => none
theorem s20 : OkQ 20 S20 := fun ds d mm h => by
  unfold S20 at h
  split at h
  · rename_i xs n
    obtain ⟨m, hm, h⟩ := Option.map_eq_some_iff.1 h
    rw [asMv_eq hm]
    have := c20 m n
    rw [h] at this
    exact this
  · cases h

/-- Which list is the best one, so far. -/
def bestGo (f : List Int → Int) (Ls : List (List Int)) : Nat → Int × Int
  | 0 => (0, 0)
  | k + 1 => if k = 0 ∨ f (Ls.getD k []) < (bestGo f Ls k).2 then (k, f (Ls.getD k [])) else bestGo f Ls k
def bestE (m : Mv) (Ls : List (List Int)) : Int :=
  if fitB m = true then (if 64 < Ls.length then 5 else if Ls.length = 0 then 6 else if Ls.all (fun L => listOK m.r (-1) L) = true then 0 else 291) else 290
def bestR (m : Mv) (Ls : List (List Int)) : Int × Int :=
  if bestE m Ls = 0 then ((bestGo (fun L => unbV (exch m L)) Ls Ls.length).1, 0) else (0, bestE m Ls)
theorem exch_pairs {m : Mv} {L : List Int} (h : inPairs m.rows = true) : inPairs (exch m L).rows = true := by
  unfold inPairs
  rw [List.all_eq_true]
  intro x hx
  simp only [exch, List.mem_map] at hx
  obtain ⟨y, hy, rfl⟩ := hx
  have := inPairs_mem h y hy
  unfold turnRow
  split <;> simp [this]
theorem exch_len (m : Mv) (L : List Int) : (exch m L).rows.length = m.rows.length := by simp [exch]
@[simp] theorem exch_take (m : Mv) (L : List Int) : (rowsL (exch m L).rows).take m.rows.length = rowsL (exch m L).rows := List.take_of_length_le (by simp [exch_len])
def env15 : Env := mkEnv [(27, S27), (39, S39), (40, S40)] [(41, S41)] []
@[simp] theorem env15_p (f : Nat) (ds : List D) : env15.p f ds = (look [(27, S27), (39, S39), (40, S40)] f).bind fun s => s ds := rfl
@[simp] theorem env15_q (f : Nat) (ds : List D) : env15.q f ds = (look [(41, S41)] f).bind fun s => s ds := rfl
theorem sound15 : Sound Try.prog env15 := sound_mk (by simp [s27, s39, s40]) (by simp [s41]) (by simp)
theorem c15 (m : Mv) (Ls : List (List Int)) (hl : Ls.length ≤ 1000000) (hL : ∀ L ∈ Ls, L.length ≤ 1000000) : VCp Try.prog 15 [.agg m.cells, .list (lists Ls)] (.tup [iv (bestR m Ls).1, iv (bestR m Ls).2]) := by
  refine wcontract_p sound15 mixed is15 (by rw [nt15]; simp) ?_ rfl
  simp [W15, Mv.cells, Mv.cellsW, S27]
  refine condK_b (fun hf => ?_) (fun hf => ?_)
  · have hf' : fitB m = false := by simpa using hf
    simp [bestR, bestE, hf']
  · have hf' : fitB m = true := by simpa using hf
    have hfl := fit_len hf'
    have hfp := fit_pairs hf'
    simp
    refine condK_dec (fun h64 => ?_) (fun h64 => ?_)
    · have h64' : 64 < Ls.length := by omega
      simp [bestR, bestE, hf', h64']
    · have h64' : ¬ 64 < Ls.length := by omega
      simp
      refine condK_b (fun h0 => ?_) (fun h0 => ?_)
      · have h0' : Ls = [] := by simpa using h0
        simp [bestR, bestE, hf', h0']
      · have h0' : Ls ≠ [] := by simpa using h0
        have h0'' : Ls.length ≠ 0 := by simpa using h0'
        simp
        refine wwp_loop (fun σ => ∃ k : Nat, k ≤ Ls.length ∧ σ.s 24 = iv k ∧ σ.s 23 = iv Ls.length ∧ σ.s 22 = .list (lists Ls) ∧ σ.s 1 = .list (lists Ls) ∧ σ.s 2 = .ptr [3, 0] 0 ∧ σ.m [3, 0] = some (.box [iv m.t, iv m.r, iv m.s, iv m.c, iv m.w, .list (rowsL m.rows)]) ∧
          ∀ i (h : i < Ls.length), i < k → listOK m.r (-1) Ls[i] = true) (fun σ => cnt Ls.length (σ.s 24)) ?_ ?_
        · exact ⟨0, by omega, by simp, by simp, by simp, by simp, by simp, by simp, by omega⟩
        · rintro σ hw ⟨k, hk, h24, h23, h22, h1, h2, m3, hok⟩
          simp [h24, h23]
          refine condK_dec (fun hlt => ?_) (fun hge => ?_)
          · have hLk := hL Ls[k] (List.getElem_mem hlt)
            simp [h22, h24, h2, m3, hlt, S39, hLk]
            refine condK_b (fun hx => ?_) (fun hx => ?_)
            · have hx' : listOK m.r (-1) Ls[k] = false := by simpa using hx
              have hall : ¬ Ls.all (fun L => listOK m.r (-1) L) = true := fun h => by
                have := List.all_eq_true.1 h Ls[k] (List.getElem_mem hlt)
                rw [hx'] at this; cases this
              simp only [Bool.not_eq_true] at hall
              simp [bestR, bestE, hf', h64', h0', hall]
            · have hx' : listOK m.r (-1) Ls[k] = true := by simpa using hx
              simp [h24, h23, h22, h1, h2, m3, wrap_succ (show k ≤ 1000000000 by omega)]
              refine ⟨⟨k + 1, by omega, by omega, fun i hi hik => ?_⟩, by omega⟩
              by_cases h : i < k
              · exact hok i hi h
              · obtain rfl : i = k := by omega
                exact hx'
          · have hall : Ls.all (fun L => listOK m.r (-1) L) = true := List.all_eq_true.2 fun L hL => by
              obtain ⟨i, hi, rfl⟩ := List.getElem_of_mem hL
              exact hok i hi (by omega)
            clear h24 h23 h22 hok
            simp [h1]
            refine wwp_loop (fun σ => ∃ k : Nat, k ≤ Ls.length ∧ σ.s 35 = iv k ∧ σ.s 34 = iv Ls.length ∧ σ.s 33 = .list (lists Ls) ∧ σ.s 2 = .ptr [3, 0] 0 ∧ σ.m [3, 0] = some (.box [iv m.t, iv m.r, iv m.s, iv m.c, iv m.w, .list (rowsL m.rows)]) ∧
              σ.s 8 = iv (bestGo (fun L => unbV (exch m L)) Ls k).1 ∧ σ.s 9 = iv (bestGo (fun L => unbV (exch m L)) Ls k).2) (fun σ => cnt Ls.length (σ.s 35)) ?_ ?_
            · exact ⟨0, by omega, by simp, by simp, by simp, by simp [h2], by simp [m3], by simp [bestGo], by simp [bestGo]⟩
            · rintro σ hw ⟨k, hk, h35, h34, h33, h2, m3, h8, h9⟩
              simp [h35, h34]
              refine condK_dec (fun hlt => ?_) (fun hge => ?_)
              · have hLk := hL Ls[k] (List.getElem_mem hlt)
                have hrk := listOK_rises' (List.all_eq_true.1 hall Ls[k] (List.getElem_mem hlt))
                have hp' := exch_pairs (L := Ls[k]) hfp
                have hlen' := exch_len m Ls[k]
                have hgo : bestGo (fun L => unbV (exch m L)) Ls (k + 1) = if k = 0 ∨ unbV (exch m Ls[k]) < (bestGo (fun L => unbV (exch m L)) Ls k).2 then ((k : Int), unbV (exch m Ls[k])) else bestGo (fun L => unbV (exch m L)) Ls k := by
                  simp only [bestGo, List.getD, List.getElem?_eq_getElem hlt, Option.getD_some]
                by_cases hr0 : m.rows = []
                · obtain ⟨mt, mr, ms, mc, mw, rows⟩ := m
                  simp only at hr0
                  subst hr0
                  have hp2 : inPairs ([] : List Row) = true := rfl
                  have he : (⟨mt, mr, ms, mc, (exch ⟨mt, mr, ms, mc, mw, []⟩ Ls[k]).w, []⟩ : Mv) = exch ⟨mt, mr, ms, mc, mw, []⟩ Ls[k] := rfl
                  have he2 : (⟨(exch ⟨mt, mr, ms, mc, mw, []⟩ Ls[k]).t, (exch ⟨mt, mr, ms, mc, mw, []⟩ Ls[k]).r, (exch ⟨mt, mr, ms, mc, mw, []⟩ Ls[k]).s, (exch ⟨mt, mr, ms, mc, mw, []⟩ Ls[k]).c, (exch ⟨mt, mr, ms, mc, mw, []⟩ Ls[k]).w, []⟩ : Mv) = exch ⟨mt, mr, ms, mc, mw, []⟩ Ls[k] := rfl
                  have hl2 : (exch ⟨mt, mr, ms, mc, mw, []⟩ Ls[k]).rows.length ≤ 1000000 := by simp [exch_len]
                  simp [h33, h35, h2, m3, hlt, S41, S40, hLk, hrk, Mv.cellsW, hp2, he2, h8, h9, hp', hl2]
                  refine condK_b (fun hx => ?_) (fun hx => ?_)
                  · have hx' := by simpa using hx
                    simp [h35, h34, h33, h2, m3, wrap_succ (show k ≤ 1000000000 by omega)]
                    exact ⟨⟨k + 1, by omega, by omega, by rw [hgo, if_pos hx'], by rw [hgo, if_pos hx']⟩, by omega⟩
                  · have hx' : ¬ (k = 0 ∨ unbV (exch ⟨mt, mr, ms, mc, mw, []⟩ Ls[k]) < (bestGo (fun L => unbV (exch ⟨mt, mr, ms, mc, mw, []⟩ L)) Ls k).2) := by
                      intro h; simp only [Bool.or_eq_false_iff, beq_eq_false_iff_ne, decide_eq_false_iff_not] at hx; omega
                    simp [h35, h34, h33, h2, m3, h8, h9, wrap_succ (show k ≤ 1000000000 by omega)]
                    exact ⟨⟨k + 1, by omega, by omega, by rw [hgo, if_neg hx'], by rw [hgo, if_neg hx']⟩, by omega⟩
                · simp [h33, h35, h2, m3, hlt, S41, S40, hLk, hrk, hr0, hp', hlen', show m.rows.length ≤ 1000000 by omega, Mv.cellsW, h8, h9]
                  refine condK_b (fun hx => ?_) (fun hx => ?_)
                  · have hx' := by simpa using hx
                    simp [h35, h34, h33, h2, m3, wrap_succ (show k ≤ 1000000000 by omega)]
                    exact ⟨⟨k + 1, by omega, by omega, by rw [hgo, if_pos hx'], by rw [hgo, if_pos hx']⟩, by omega⟩
                  · have hx' : ¬ (k = 0 ∨ unbV (exch m Ls[k]) < (bestGo (fun L => unbV (exch m L)) Ls k).2) := by
                      intro h; simp only [Bool.or_eq_false_iff, beq_eq_false_iff_ne, decide_eq_false_iff_not] at hx; omega
                    simp [h35, h34, h33, h2, m3, h8, h9, wrap_succ (show k ≤ 1000000000 by omega)]
                    exact ⟨⟨k + 1, by omega, by omega, by rw [hgo, if_neg hx'], by rw [hgo, if_neg hx']⟩, by omega⟩
              · have hk : k = Ls.length := by omega
                subst hk
                simp [h8, bestR, bestE, hf', h64', h0', hall]
                trace_state
end Go.Proofs.Ytpmgaaalfdjikaa
