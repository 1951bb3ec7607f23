/- Contracts: awake. Lemmas; no condition. -/
import Derived.Test.YtpmgaaalfdjikaaPj
namespace Go.Proofs.Ytpmgaaalfdjikaa
open Go.RowKit
set_option linter.unusedSimpArgs false
set_option linter.unusedVariables false

def W12 : WC × List VRes := ((.seq (.reg [(.set [(0, (.c (.v (.bool false))))] [0])]) (.seq (.reg [(.stm (.eff (.callq 16 23 []) none)), (.stm (.eff (.box 1 (.c (.agg [(.v (.int .i64 0)), (.v (.int .i64 0)), (.v (.int .i64 0)), (.v (.int .i64 0)), (.v (.int .i64 0)), .nil]))) none)), (.stm (.eff (.store 6 (.t 1) (.t 16)) none))]) (.seq (.reg [(.set [(2, (.ap (.ext 0) [(.ap (.call 25) [(.ap (.load 6 true) [(.t 1)]), (.c (.v (.int .i64 1))), (.c (.v (.int .i64 2)))])])), (3, (.ap (.ext 1) [(.ap (.call 25) [(.ap (.load 6 true) [(.t 1)]), (.c (.v (.int .i64 1))), (.c (.v (.int .i64 2)))])]))] [18, 19, 17, 20, 21, 2, 3])]) (.seq (.reg [(.set [(4, (.ap (.ext 0) [(.ap (.call 25) [(.ap (.load 6 true) [(.t 1)]), (.c (.v (.int .i64 1))), (.c (.v (.int .i64 4)))])])), (5, (.ap (.ext 1) [(.ap (.call 25) [(.ap (.load 6 true) [(.t 1)]), (.c (.v (.int .i64 1))), (.c (.v (.int .i64 4)))])]))] [23, 24, 22, 25, 26, 4, 5])]) (.seq (.reg [(.set [(6, (.ap (.ext 0) [(.ap (.call 18) [(.ap (.load 6 true) [(.t 1)])])])), (7, (.ap (.ext 1) [(.ap (.call 18) [(.ap (.load 6 true) [(.t 1)])])]))] [28, 29, 27, 30, 31, 6, 7])]) (.seq (.reg [(.set [(33, (.ap (.load 6 true) [(.t 1)]))] [33]), (.stm (.eff (.callq 34 20 [(.t 33), (.c (.v (.int .i64 2)))]) none)), (.set [(8, (.ap (.ext 0) [(.t 34)])), (9, (.ap (.ext 1) [(.t 34)]))] [32, 35, 36, 8, 9])]) (.seq (.reg [(.set [(38, (.ap (.load 6 true) [(.t 1)]))] [38]), (.stm (.eff (.lit 39 3 1 1 [(.v (.int .i64 0))] [(0, 1)] [(.c (.v (.int .i64 2)))]) none)), (.stm (.eff (.callq 40 17 [(.t 38), (.t 39)]) none)), (.set [(41, (.ap (.ext 0) [(.t 40)])), (42, (.ap (.ext 1) [(.t 40)]))] [37, 41, 42]), (.stm (.eff (.box 10 (.c (.agg [(.v (.int .i64 0)), (.v (.int .i64 0)), (.v (.int .i64 0)), (.v (.int .i64 0)), (.v (.int .i64 0)), .nil]))) none)), (.stm (.eff (.store 6 (.t 10) (.t 41)) none)), (.set [(11, (.t 42))] [11])]) (.seq (.reg [(.set [(12, (.ap (.ext 0) [(.ap (.call 25) [(.ap (.load 6 true) [(.t 10)]), (.c (.v (.int .i64 1))), (.c (.v (.int .i64 2)))])])), (13, (.ap (.ext 1) [(.ap (.call 25) [(.ap (.load 6 true) [(.t 10)]), (.c (.v (.int .i64 1))), (.c (.v (.int .i64 2)))])]))] [44, 45, 43, 46, 47, 12, 13])]) (.seq (.reg [(.set [(49, (.ap (.load 6 true) [(.t 1)]))] [49]), (.stm (.eff (.lit 50 3 1 1 [(.v (.int .i64 0))] [(0, 1)] [(.c (.v (.int .i64 2)))]) none)), (.stm (.eff (.lit 51 34 1 2 [.nil, .nil] [(0, 1), (1, 1)] [(.c .nil), (.t 50)]) none)), (.set [(14, (.ap (.ext 0) [(.ap (.call 15) [(.t 49), (.t 51)])])), (15, (.ap (.ext 1) [(.ap (.call 15) [(.t 49), (.t 51)])]))] [52, 48, 53, 54, 14, 15])]) (.seq (.seq (.reg [(.stm (.op 55 .mv [(.t 3)] none)), (.stm (.op 56 .mv [(.t 5)] none)), (.stm (.op 57 (.ibin .add) [(.t 55), (.t 56)] none)), (.stm (.op 58 .mv [(.t 7)] none)), (.stm (.op 59 (.ibin .add) [(.t 57), (.t 58)] none)), (.stm (.op 60 .mv [(.t 9)] none)), (.stm (.op 61 (.ibin .add) [(.t 59), (.t 60)] none)), (.stm (.op 62 .mv [(.t 11)] none)), (.stm (.op 63 (.ibin .add) [(.t 61), (.t 62)] none)), (.stm (.op 64 .mv [(.t 13)] none)), (.stm (.op 65 (.ibin .add) [(.t 63), (.t 64)] none)), (.stm (.op 66 .mv [(.t 15)] none)), (.stm (.op 67 (.ibin .add) [(.t 65), (.t 66)] none)), (.stm (.op 68 (.ibin .neq) [(.t 67), (.c (.v (.int .i64 0)))] none)), (.stm (.op 69 .mv [(.t 68)] none)), (.stm (.op 70 .mv [(.t 2)] (some (69, false)))), (.stm (.op 71 (.ibin .neq) [(.t 70), (.c (.v (.int .i64 3)))] (some (69, false)))), (.stm (.op 72 .pick [(.t 69), (.c (.v (.bool true))), (.t 71)] none)), (.stm (.op 73 .mv [(.t 72)] none)), (.stm (.op 74 .mv [(.t 4)] (some (73, false)))), (.stm (.op 75 (.ibin .neq) [(.t 74), (.c (.v (.int .i64 0)))] (some (73, false)))), (.stm (.op 76 .pick [(.t 73), (.c (.v (.bool true))), (.t 75)] none)), (.stm (.op 77 .mv [(.t 76)] none)), (.stm (.op 78 .mv [(.t 6)] (some (77, false)))), (.stm (.op 79 (.ibin .neq) [(.t 78), (.c (.v (.int .i64 54)))] (some (77, false)))), (.stm (.op 80 .pick [(.t 77), (.c (.v (.bool true))), (.t 79)] none)), (.stm (.op 81 .mv [(.t 80)] none)), (.stm (.op 82 .mv [(.t 12)] (some (81, false)))), (.stm (.op 83 (.ibin .neq) [(.t 82), (.c (.v (.int .i64 (-1))))] (some (81, false)))), (.stm (.op 84 .pick [(.t 81), (.c (.v (.bool true))), (.t 83)] none)), (.stm (.op 85 .mv [(.t 84)] none)), (.stm (.op 86 .mv [(.t 8)] (some (85, false)))), (.stm (.eff (.lit 87 3 1 2 [(.v (.int .i64 0)), (.v (.int .i64 0))] [(0, 1), (1, 1)] [(.c (.v (.int .i64 1))), (.c (.v (.int .i64 2)))]) (some (85, false)))), (.stm (.op 88 (.call 38) [(.t 86), (.t 87)] (some (85, false)))), (.stm (.op 89 .inot [(.t 88)] (some (85, false)))), (.stm (.op 90 .pick [(.t 85), (.c (.v (.bool true))), (.t 89)] none)), (.stm (.op 91 .mv [(.t 90)] none)), (.stm (.op 92 (.fld 5) [(.t 10)] (some (91, false)))), (.stm (.op 93 (.load 1 false) [(.t 92)] (some (91, false)))), (.stm (.op 94 .llen [(.t 93)] (some (91, false)))), (.stm (.op 95 (.ibin .neq) [(.t 94), (.c (.v (.int .i64 9)))] (some (91, false)))), (.stm (.op 96 .pick [(.t 91), (.c (.v (.bool true))), (.t 95)] none))]) (.cond (.t 96) (.seq (.reg [(.set [(0, (.c (.v (.bool false))))] [0])]) .ret) .skip)) (.seq (.reg [(.set [(0, (.ite (.ite (.ap (.aeq false [3, 3, 3, 3, 3]) [(.ap (.load 5 true) [(.ap (.idx 53 5) [(.ap (.load 1 false) [(.ap (.fld 5) [(.t 10)])]), (.c (.v (.int .i64 6)))])]), (.ap (.build [(.v (.int .i64 0)), (.v (.int .i64 0)), (.v (.int .i64 0)), (.v (.int .i64 0)), (.v (.int .i64 0))] [(0, 1), (2, 1), (3, 1), (4, 1)]) [(.c (.v (.int .i64 2))), (.c (.v (.int .i64 6))), (.c (.v (.int .i64 1))), (.c (.v (.int .i64 1)))])]) (.ap (.ibin .eql) [(.ap (.load 1 false) [(.ap (.fld 4) [(.t 10)])]), (.c (.v (.int .i64 1)))]) (.c (.v (.bool false)))) (.ap (.ibin .eql) [(.t 14), (.c (.v (.int .i64 0)))]) (.c (.v (.bool false)))))] [97, 98, 99, 100, 101, 102, 103, 104, 105, 106, 107, 108, 109, 110, 111, 0])]) .ret))))))))))), [(.t 0)])
theorem is12 : IsFn Try.prog frOf 12 Try.f12 W12 := ⟨by kernel_rfl, by kernel_rfl, by kernel_rfl⟩
theorem nt12 : Try.f12.ntmps = 112 := by kernel_rfl


def S23R (R : List Row) : List D → Option (D × Mem)
  | [] => some (.agg [iv 3, iv 3, iv 3, iv 1, iv 2, .sl [] 5 0 9 none], rowMem 53 (rowsL R))
  | _ => none
theorem s23R : OkQ 23 (S23R exRows) := fun ds d mm h => by
  unfold S23R at h
  split at h
  · cases h
    exact c23
  · cases h
def env12 (R : List Row) : Env := mkEnv [(25, S25), (18, S18), (15, S15), (38, S38)] [(23, S23R R), (20, S20), (17, S17)] []
@[simp] theorem env12_p (R : List Row) (f : Nat) (ds : List D) : (env12 R).p f ds = (look [(25, S25), (18, S18), (15, S15), (38, S38)] f).bind fun s => s ds := rfl
@[simp] theorem env12_q (R : List Row) (f : Nat) (ds : List D) : (env12 R).q f ds = (look [(23, S23R R), (20, S20), (17, S17)] f).bind fun s => s ds := rfl
theorem sound12 : Sound Try.prog (env12 exRows) := sound_mk (by simp [s25, s18, s15, s38]) (by simp [s23R, s20, s17]) (by simp)
theorem wwp_cutG {Γ : Env} {a b : WC} {Q : VE → St → Prop} {s : St} (I : St → Prop) (h1 : wwp Γ a (VE.thn I Q) s) (h2 : ∀ s', I s' → wwp Γ b Q s') : wwp Γ (.seq a b) Q s :=
  wwp_mono a h1 fun e s hs => by cases e <;> first | exact h2 _ hs | exact hs
theorem wwp_seq_assoc {Γ : Env} {a b c : WC} {Q : VE → St → Prop} {s : St} (h : wwp Γ (.seq a (.seq b c)) Q s) : wwp Γ (.seq (.seq a b) c) Q s :=
  wwp_mono a h fun e s hs => by cases e <;> exact hs
theorem runK_take {Γ : Env} {l : List CStm} {s : St} {K : St → Prop} (k : Nat) (I : St → Prop) (h1 : runK (cruns Γ (l.take k) s) I) (h2 : ∀ s', I s' → runK (cruns Γ (l.drop k) s') K) : runK (cruns Γ l s) K := by
  obtain ⟨s', e, hi⟩ := h1
  obtain ⟨s2, e2, hk⟩ := h2 s' hi
  refine ⟨s2, ?_, hk⟩
  have := cruns_append (Γ := Γ) (s := s) (a := l.take k) (b := l.drop k)
  rw [List.take_append_drop] at this
  rw [this, e]
  exact e2
theorem ints_takeN (n : Nat) (l : List Int) : (ints l).take n = ints (l.take n) := by simp [ints, List.map_take]
theorem asLists_l2 : asLists [[.list []], [.list (ints [2])]] = some [[], [2]] := rfl
def awA (R : List Row) (σ : St) : Prop := σ.s 1 = .ptr [2, 0] 0 ∧ σ.m [2, 0] = some (.box [iv 3, iv 3, iv 3, iv 1, iv 2, .sl [17, 0] 5 0 9 none]) ∧ σ.m [17, 0] = some (.row [17, 0, 0] 53 (rowsL R))
def awK (σ : St) : Prop := σ.c 10 = 0 ∧ σ.c 39 = 0 ∧ σ.c 40 = 0
def awL (σ : St) : Prop := σ.c 50 = 0 ∧ σ.c 51 = 0
def awB (σ : St) : Prop := σ.s 8 = .sl [35, 0] 1 0 2 none ∧ (∃ g, σ.m [35, 0] = some (.row g 3 (ints [1, 2])))
def awC (T : List Row) (σ : St) : Prop := σ.s 10 = .ptr [11, 0] 0 ∧ σ.m [11, 0] = some (.box [iv 3, iv 3, iv 3, iv 1, iv 1, .sl [41, 0] 5 0 9 none]) ∧ (∃ g, σ.m [41, 0] = some (.row g 53 (rowsL T)))
theorem c12w (R T : List Row) (exRows_len : R.length = 9) (exT_len : T.length = 9) (ex_1 : contestR ⟨3, 3, 3, 1, 2, R⟩ 1 2 = (3, 0)) (ex_2 : contestR ⟨3, 3, 3, 1, 2, R⟩ 1 4 = (0, 0)) (ex_3 : unbR ⟨3, 3, 3, 1, 2, R⟩ = (54, 0))
    (ex_4 : lastR ⟨3, 3, 3, 1, 2, R⟩ 2 = (.tup [.sl [] 1 0 2 none, iv 0], rowMem 3 (ints [1, 2]))) (ex_5 : turnR ⟨3, 3, 3, 1, 2, R⟩ [2] = (.tup [.agg [iv 3, iv 3, iv 3, iv 1, iv 1, .sl [] 5 0 9 none], iv 0], rowMem 53 (rowsL T)))
    (ex_6 : contestR ⟨3, 3, 3, 1, 1, T⟩ 1 2 = (-1, 0)) (ex_7 : bestR ⟨3, 3, 3, 1, 2, R⟩ [[], [2]] = (0, 0)) (e6 : ∀ h : 6 < T.length, T[6] = ⟨2, 0, 6, 1, 1⟩) :
    wwp (env12 R) W12.1 (fun e s => okExit e ∧ resV W12.2 s = some (bv true)) (initV []) := by
  have ex_take : (rowsL R).take 9 = rowsL R := List.take_of_length_le (by simp [exRows_len])
  have exT_take : (rowsL T).take 9 = rowsL T := List.take_of_length_le (by simp [exT_len])
  simp only [W12]
  refine wwp_cut (fun σ => σ.c 16 = 0 ∧ σ.c 1 = 0 ∧ σ.c 34 = 0 ∧ σ.c 39 = 0 ∧ σ.c 40 = 0 ∧ σ.c 10 = 0 ∧ σ.c 50 = 0 ∧ σ.c 51 = 0) (by simp) ?_
  rintro σ ⟨a1, a2, a3, a4, a5, a6, a7, a8⟩
  refine wwp_cut (fun σ => awA R σ ∧ σ.c 34 = 0 ∧ awK σ ∧ awL σ) (by simp [awA, awK, awL, S23R, exRows_len, a1, a2, a3, a4, a5, a6, a7, a8]) ?_
  clear a1 a2 a3 a4 a5 a6 a7 a8 σ
  rintro σ ⟨⟨h1, m2, m17⟩, k1, ⟨k2, k3, k4⟩, k5, k6⟩
  refine wwp_cut (fun σ => awA R σ ∧ σ.c 34 = 0 ∧ awK σ ∧ awL σ ∧ σ.s 2 = iv 3 ∧ σ.s 3 = iv 0) (by simp [awA, awK, awL, h1, m2, m17, k1, k2, k3, k4, k5, k6, exRows_len, ex_take, S25, ex_1]) ?_
  clear h1 m2 m17 k1 k2 k3 k4 k5 k6 σ
  rintro σ ⟨⟨h1, m2, m17⟩, k1, ⟨k2, k3, k4⟩, ⟨k5, k6⟩, h2, h3⟩
  refine wwp_cut (fun σ => awA R σ ∧ σ.c 34 = 0 ∧ awK σ ∧ awL σ ∧ σ.s 2 = iv 3 ∧ σ.s 3 = iv 0 ∧ σ.s 4 = iv 0 ∧ σ.s 5 = iv 0) (by simp [awA, awK, awL, h1, m2, m17, k1, k2, k3, k4, k5, k6, h2, h3, exRows_len, ex_take, S25, ex_2]) ?_
  clear h1 m2 m17 k1 k2 k3 k4 k5 k6 h2 h3 σ
  rintro σ ⟨⟨h1, m2, m17⟩, k1, ⟨k2, k3, k4⟩, ⟨k5, k6⟩, h2, h3, h4, h5⟩
  refine wwp_cut (fun σ => awA R σ ∧ σ.c 34 = 0 ∧ awK σ ∧ awL σ ∧ σ.s 2 = iv 3 ∧ σ.s 3 = iv 0 ∧ σ.s 4 = iv 0 ∧ σ.s 5 = iv 0 ∧ σ.s 6 = iv 54 ∧ σ.s 7 = iv 0) (by simp [awA, awK, awL, h1, m2, m17, k1, k2, k3, k4, k5, k6, h2, h3, h4, h5, exRows_len, ex_take, S18, ex_3]) ?_
  clear h1 m2 m17 k1 k2 k3 k4 k5 k6 h2 h3 h4 h5 σ
  rintro σ ⟨⟨h1, m2, m17⟩, k1, ⟨k2, k3, k4⟩, ⟨k5, k6⟩, h2, h3, h4, h5, h6, h7⟩
  refine wwp_cut (fun σ => awA R σ ∧ awB σ ∧ awK σ ∧ awL σ ∧ σ.s 2 = iv 3 ∧ σ.s 3 = iv 0 ∧ σ.s 4 = iv 0 ∧ σ.s 5 = iv 0 ∧ σ.s 6 = iv 54 ∧ σ.s 7 = iv 0 ∧ σ.s 9 = iv 0) (by simp [awA, awB, awK, awL, h1, m2, m17, k1, k2, k3, k4, k5, k6, h2, h3, h4, h5, h6, h7, exRows_len, ex_take, S20, ex_4]) ?_
  clear h1 m2 m17 k1 k2 k3 k4 k5 k6 h2 h3 h4 h5 h6 h7 σ
  rintro σ ⟨⟨h1, m2, m17⟩, ⟨h8, g, m35⟩, ⟨k2, k3, k4⟩, ⟨k5, k6⟩, h2, h3, h4, h5, h6, h7, h9⟩
  refine wwp_cut (fun σ => awA R σ ∧ awB σ ∧ awC T σ ∧ awL σ ∧ σ.s 2 = iv 3 ∧ σ.s 3 = iv 0 ∧ σ.s 4 = iv 0 ∧ σ.s 5 = iv 0 ∧ σ.s 6 = iv 54 ∧ σ.s 7 = iv 0 ∧ σ.s 9 = iv 0 ∧ σ.s 11 = iv 0) (by simp [awA, awB, awC, awK, awL, h1, m2, m17, k2, k3, k4, k5, k6, h2, h3, h4, h5, h6, h7, h8, h9, m35, exRows_len, ex_take, ints1, ints2, ints_takeN, S17, ex_5]) ?_
  clear h1 m2 m17 h8 m35 g k2 k3 k4 k5 k6 h2 h3 h4 h5 h6 h7 h9 σ
  rintro σ ⟨⟨h1, m2, m17⟩, ⟨h8, g, m35⟩, ⟨h10, m11, g', m41⟩, ⟨k5, k6⟩, h2, h3, h4, h5, h6, h7, h9, h11⟩
  refine wwp_cut (fun σ => awA R σ ∧ awB σ ∧ awC T σ ∧ awL σ ∧ σ.s 2 = iv 3 ∧ σ.s 3 = iv 0 ∧ σ.s 4 = iv 0 ∧ σ.s 5 = iv 0 ∧ σ.s 6 = iv 54 ∧ σ.s 7 = iv 0 ∧ σ.s 9 = iv 0 ∧ σ.s 11 = iv 0 ∧ σ.s 12 = iv (-1) ∧ σ.s 13 = iv 0) (by simp [awA, awB, awC, awK, awL, h1, m2, m17, k5, k6, h2, h3, h4, h5, h6, h7, h8, h9, m35, h10, m11, m41, h11, exT_len, exT_take, S25, ex_6]) ?_
  clear h1 m2 m17 h8 m35 g k5 k6 h10 m11 g' m41 h2 h3 h4 h5 h6 h7 h9 h11 σ
  rintro σ ⟨⟨h1, m2, m17⟩, ⟨h8, g, m35⟩, ⟨h10, m11, g', m41⟩, ⟨k5, k6⟩, h2, h3, h4, h5, h6, h7, h9, h11, h12, h13⟩
  refine wwp_cut (fun σ => awB σ ∧ awC T σ ∧ σ.s 2 = iv 3 ∧ σ.s 3 = iv 0 ∧ σ.s 4 = iv 0 ∧ σ.s 5 = iv 0 ∧ σ.s 6 = iv 54 ∧ σ.s 7 = iv 0 ∧ σ.s 9 = iv 0 ∧ σ.s 11 = iv 0 ∧ σ.s 12 = iv (-1) ∧ σ.s 13 = iv 0 ∧ σ.s 14 = iv 0 ∧ σ.s 15 = iv 0) (by simp [awA, awB, awC, awK, awL, h1, m2, m17, k5, k6, h2, h3, h4, h5, h6, h7, h8, h9, m35, h10, m11, m41, h11, h12, h13, exRows_len, ex_take, ints1, lists2, ints_takeN, asLists_l2, S15, ex_7]) ?_
  clear h1 m2 m17 h8 m35 g k5 k6 h10 m11 g' m41 h2 h3 h4 h5 h6 h7 h9 h11 h12 h13 σ
  rintro σ ⟨⟨h8, g, m35⟩, ⟨h10, m11, g', m41⟩, h2, h3, h4, h5, h6, h7, h9, h11, h12, h13, h14, h15⟩
  refine wwp_seq_assoc (wwp_cut (fun σ => awC T σ ∧ σ.s 14 = iv 0 ∧ σ.s 96 = bv false) ?_ ?_)
  · refine runK_take 14 (fun σ => awB σ ∧ awC T σ ∧ σ.s 2 = iv 3 ∧ σ.s 4 = iv 0 ∧ σ.s 6 = iv 54 ∧ σ.s 12 = iv (-1) ∧ σ.s 14 = iv 0 ∧ σ.s 68 = bv false) (by simp [awB, awC, h2, h3, h4, h5, h6, h7, h8, h9, m35, h10, m11, m41, h11, h12, h13, h14, h15]) ?_
    clear m35 g m11 g' m41 h2 h3 h4 h5 h6 h7 h8 h9 h10 h11 h12 h13 h14 h15 σ
    rintro σ ⟨⟨h8, g, m35⟩, ⟨h10, m11, g', m41⟩, h2, h4, h6, h12, h14, h68⟩
    refine runK_take 16 (fun σ => awB σ ∧ awC T σ ∧ σ.s 14 = iv 0 ∧ σ.s 84 = bv false) (by simp [awB, awC, h2, h4, h6, h8, m35, h10, m11, m41, h12, h14, h68]) ?_
    clear m35 g m11 g' m41 h2 h4 h6 h8 h10 h12 h14 h68 σ
    rintro σ ⟨⟨h8, g, m35⟩, ⟨h10, m11, g', m41⟩, h14, h84⟩
    simp [awC, h8, m35, h10, m11, m41, h14, h84, S38, ints2, ints_takeN, exT_len]
  clear m35 g m11 g' m41 h2 h3 h4 h5 h6 h7 h8 h9 h10 h11 h12 h13 h14 h15 σ
  rintro σ ⟨⟨h10, m11, g', m41⟩, h14, h96⟩
  simp [h10, m11, m41, h14, h96, exT_len, e6, Row.cells]
theorem c12 : VCp Try.prog 12 [] (bv true) :=
  wcontract_p sound12 mixed is12 (by rw [nt12]; simp) (c12w exRows exT exRows_len exT_len ex_1 ex_2 ex_3 ex_4 ex_5 ex_6 ex_7 fun h => by
    have := exT_6
    rw [List.getElem?_eq_getElem h] at this
    exact Option.some.inj this) rfl
end Go.Proofs.Ytpmgaaalfdjikaa
