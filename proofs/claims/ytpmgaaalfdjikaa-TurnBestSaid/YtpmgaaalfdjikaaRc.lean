/- TurnLeast: the walk. Lemmas; no condition. -/
import Derived.Test.YtpmgaaalfdjikaaRa
import Derived.Test.YtpmgaaalfdjikaaRb
namespace Go.Proofs.Ytpmgaaalfdjikaa
open Go.RowKit
set_option linter.unusedSimpArgs false
set_option linter.unusedVariables false

def W4 : WC × List VRes := ((.seq (.reg [(.stm (.eff (.box 2 (.t 0)) none)), (.set [(4, (.c (.v (.bool false))))] [4])]) (.seq (.seq (.reg [(.set [(18, (.ap .inot [(.ap (.call 12) [])]))] [17, 18])]) (.cond (.t 18) (.seq (.reg [(.set [(4, (.c (.v (.bool false))))] [4])]) .ret) .skip)) (.seq (.reg [(.set [(19, (.ap (.load 3 true) [(.t 2)]))] [19]), (.stm (.eff (.callq 20 13 [(.t 19)]) none)), (.stm (.eff (.box 5 (.c (.agg [(.v (.int .i64 0)), (.v (.int .i64 0)), (.v (.int .i64 0)), (.v (.int .i64 0)), (.v (.int .i64 0)), .nil]))) none)), (.stm (.eff (.store 6 (.t 5) (.t 20)) none))]) (.seq (.reg [(.stm (.eff (.box 6 (.c (.agg [.nil]))) none))]) (.seq (.seq (.reg [(.set [(25, (.ap (.slc 1 false true false) [(.t 1), (.ap (.mx2 false) [(.ap .llen [(.t 1)]), (.c (.v (.int .i64 20)))])])), (26, (.ap .llen [(.ap (.slc 1 false true false) [(.t 1), (.ap (.mx2 false) [(.ap .llen [(.t 1)]), (.c (.v (.int .i64 20)))])])])), (27, (.c (.v (.int .i64 0))))] [21, 22, 23, 24, 25, 26, 27])]) (.block 0 (.loop (.seq (.reg [(.set [(28, (.ap (.ibin .lss) [(.t 27), (.t 26)]))] [28])]) (.seq (.cond (.t 28) .skip (.exit 0)) (.seq (.block 1 (.seq (.reg [(.set [(8, (.ap (.load 1 false) [(.ap (.idx 33 1) [(.t 25), (.t 27)])]))] [29, 30, 8])]) (.reg [(.set [(31, (.ap (.load 1 false) [(.t 6)])), (32, (.ap (.load 6 true) [(.t 5)])), (33, (.t 8))] [31, 32, 33]), (.stm (.eff (.callq 34 14 [(.t 32), (.t 33)]) none)), (.stm (.eff (.lit 35 34 1 1 [.nil] [(0, 1)] [(.t 34)]) none)), (.stm (.eff (.app 36 34 1 (.t 31) (.t 35)) none)), (.stm (.eff (.store 1 (.t 6) (.t 36)) none))]))) (.reg [(.set [(27, (.ap (.ibin .add) [(.t 27), (.c (.v (.int .i64 1)))]))] [37, 27])]))))))) (.seq (.reg [(.set [(9, (.ap (.ext 0) [(.ap (.call 15) [(.ap (.load 6 true) [(.t 5)]), (.ap (.load 1 false) [(.t 6)])])])), (10, (.ap (.ext 1) [(.ap (.call 15) [(.ap (.load 6 true) [(.t 5)]), (.ap (.load 1 false) [(.t 6)])])]))] [39, 40, 41, 38, 42, 43, 9, 10])]) (.seq (.seq (.reg [(.set [(46, (.ap (.ibin .eql) [(.ap .llen [(.ap (.load 1 false) [(.t 6)])]), (.c (.v (.int .i64 0)))]))] [44, 45, 46])]) (.cond (.t 46) (.seq (.reg [(.set [(4, (.ite (.ap (.ibin .eql) [(.t 9), (.c (.v (.int .i64 0)))]) (.ap (.ibin .eql) [(.t 10), (.c (.v (.int .i64 6)))]) (.c (.v (.bool false)))))] [47, 48, 49, 50, 51, 52, 4])]) .ret) .skip)) (.seq (.seq (.reg [(.set [(64, (.ite (.ite (.ap (.ibin .neq) [(.t 10), (.c (.v (.int .i64 0)))]) (.c (.v (.bool true))) (.ap (.ibin .lss) [(.t 9), (.c (.v (.int .i64 0)))])) (.c (.v (.bool true))) (.ap (.ibin .geq) [(.t 9), (.ap .llen [(.ap (.load 1 false) [(.t 6)])])])))] [53, 54, 55, 56, 57, 58, 59, 60, 61, 62, 63, 64])]) (.cond (.t 64) (.seq (.reg [(.set [(4, (.c (.v (.bool false))))] [4])]) .ret) .skip)) (.seq (.reg [(.set [(11, (.ap (.clo 16) [(.t 5), (.t 6)]))] [65, 11])]) (.seq (.reg [(.set [(12, (.ap .ccall [(.t 11), (.t 9)]))] [66, 67, 68, 12])]) (.seq (.seq (.reg [(.set [(70, (.ap .llen [(.ap (.load 1 false) [(.t 6)])])), (71, (.c (.v (.int .i64 0))))] [69, 70, 71])]) (.block 2 (.loop (.seq (.reg [(.set [(72, (.ap (.ibin .lss) [(.t 71), (.t 70)]))] [72])]) (.seq (.cond (.t 72) .skip (.exit 2)) (.seq (.block 3 (.seq (.reg [(.set [(13, (.t 71))] [73, 13])]) (.seq (.reg [(.set [(14, (.ap .ccall [(.t 11), (.t 13)]))] [74, 75, 76, 14])]) (.seq (.reg [(.set [(89, (.ite (.ap (.ibin .lss) [(.t 14), (.t 12)]) (.c (.v (.bool true))) (.ite (.ap (.ibin .lss) [(.t 13), (.t 9)]) (.ap (.ibin .eql) [(.t 14), (.t 12)]) (.c (.v (.bool false))))))] [77, 78, 79, 80, 81, 82, 83, 84, 85, 86, 87, 88, 89])]) (.cond (.t 89) (.seq (.reg [(.set [(4, (.c (.v (.bool false))))] [4])]) .ret) .skip))))) (.reg [(.set [(71, (.ap (.ibin .add) [(.t 71), (.c (.v (.int .i64 1)))]))] [90, 71])]))))))) (.seq (.reg [(.set [(15, (.ap (.slc 1 false true false) [(.ap (.load 1 false) [(.t 6)]), (.ap (.ibin .add) [(.c (.v (.int .i64 1))), (.ap (.ibin .quo) [(.ap (.ibin .sub) [(.ap .llen [(.ap (.load 1 false) [(.t 6)])]), (.c (.v (.int .i64 1)))]), (.c (.v (.int .i64 2)))])])]))] [91, 92, 93, 94, 95, 96, 97, 15])]) (.seq (.reg [(.set [(16, (.ap (.ext 0) [(.ap (.call 15) [(.ap (.load 6 true) [(.t 5)]), (.t 15)])])), (10, (.ap (.ext 1) [(.ap (.call 15) [(.ap (.load 6 true) [(.t 5)]), (.t 15)])]))] [99, 100, 101, 98, 102, 103, 16, 10])]) (.seq (.reg [(.set [(4, (.ite (.ite (.ap (.ibin .eql) [(.t 10), (.c (.v (.int .i64 0)))]) (.ap (.ibin .geq) [(.ap .ccall [(.t 11), (.t 16)]), (.t 12)]) (.c (.v (.bool false)))) (.ap (.ibin .geq) [(.t 12), (.c (.v (.int .i64 0)))]) (.c (.v (.bool false)))))] [104, 105, 106, 107, 108, 109, 110, 111, 112, 113, 114, 115, 116, 4])]) .ret)))))))))))))), [(.t 4)])
theorem is4 : IsFn Try.prog frOf 4 Try.f4 W4 := ⟨by kernel_rfl, by kernel_rfl, by kernel_rfl⟩
theorem nt4 : Try.f4.ntmps = 117 := by kernel_rfl


def u16s (l : List Nat) : List (List D) := l.map fun (n : Nat) => [.v (.int .u16 n)]
@[simp] theorem u16s_len (l : List Nat) : (u16s l).length = l.length := by simp [u16s]
@[simp] theorem u16s_ex (l : List Nat) : (∃ x, x ∈ u16s l ∧ ¬ x.length = 1) = False := by
  simp only [eq_iff_iff, iff_false]; rintro ⟨x, hx, h⟩; obtain ⟨y, _, rfl⟩ := List.mem_map.1 hx; exact h rfl
theorem u16s_at {l : List Nat} {k : Nat} (h : k < l.length) : (u16s l)[k]? = some [.v (.int .u16 (l[k] : Nat))] := by simp [u16s, h]
theorem u16s_cut (l : List Nat) : cutV (u16s l) 0 (if (20 : Int) < (l.length : Int) then 20 else (l.length : Int)) = some (.list (u16s (l.take 20))) := by
  unfold cutV
  by_cases h : (20 : Int) < (l.length : Int)
  · rw [if_pos h, if_pos (by simp; omega)]; simp [u16s, List.map_take]
  · rw [if_neg h, if_pos (by simp)]; simp [u16s, List.map_take]; omega
/-- Lists, each a slice of its own; 'x': the slot of the calls that made them. -/
def hdOf (x j : Nat) (L : List Int) : D := if L = [] then .nil else .sl [x, j] 1 0 L.length none
def hdsFrom (x : Nat) : Nat → List (List Int) → List (List D)
  | _, [] => []
  | j, L :: Ls => [hdOf x j L] :: hdsFrom x (j + 1) Ls
theorem hdsFrom_len (x : Nat) : ∀ (Ls : List (List Int)) (j : Nat), (hdsFrom x j Ls).length = Ls.length
  | [], _ => rfl
  | _ :: Ls, j => by simp [hdsFrom, hdsFrom_len x Ls (j + 1)]
theorem hdsFrom_snoc (x : Nat) (L : List Int) : ∀ (Ls : List (List Int)) (j : Nat), hdsFrom x j (Ls ++ [L]) = hdsFrom x j Ls ++ [[hdOf x (j + Ls.length) L]]
  | [], j => by simp [hdsFrom]
  | L' :: Ls, j => by
    simp only [List.cons_append, hdsFrom, hdsFrom_snoc x L Ls (j + 1), List.length_cons]
    rw [show j + 1 + Ls.length = j + (Ls.length + 1) by omega]
theorem hdsFrom_size (x : Nat) : ∀ (Ls : List (List Int)) (j : Nat), ∀ c ∈ hdsFrom x j Ls, c.length = 1
  | [], _, c, h => by simp [hdsFrom] at h
  | L :: Ls, j, c, h => by
    simp only [hdsFrom, List.mem_cons] at h
    rcases h with rfl | h
    · rfl
    · exact hdsFrom_size x Ls (j + 1) c h
@[simp] theorem hdsFrom_fa (x j : Nat) (Ls : List (List Int)) : (∀ c, c ∈ hdsFrom x j Ls → c.length = 1) = True := by
  simp only [eq_iff_iff, iff_true]; exact hdsFrom_size x Ls j
@[simp] theorem hdsFrom_ex (x j : Nat) (Ls : List (List Int)) : (∃ c, c ∈ hdsFrom x j Ls ∧ ¬ c.length = 1) = False := by
  simp only [eq_iff_iff, iff_false]; rintro ⟨c, h1, h2⟩; exact h2 (hdsFrom_size x Ls j c h1)
def LsAt (x : Nat) (m : Mem) (j : Nat) (Ls : List (List Int)) : Prop := ∀ i L, Ls[i]? = some L → L ≠ [] → m [x, j + i] = some (.row [x, j + i, 0] 3 (ints L))
theorem view_lists {x : Nat} {m : Mem} {n : Nat} : ∀ {Ls : List (List Int)} {j : Nat}, LsAt x m j Ls → viewRows (viewC m (n + 1)) (hdsFrom x j Ls) = some (lists Ls)
  | [], j, _ => rfl
  | L :: Ls, j, h => by
    have ih := view_lists (n := n) (Ls := Ls) (j := j + 1) fun i L' hi hL => by
      have := h (i + 1) L' (by simpa using hi) hL
      rwa [show j + (i + 1) = j + 1 + i by omega] at this
    rw [hdsFrom, viewRows_cons (viewC m (n + 1)) _ _ (fun _ => rfl), ih]
    have h0 : viewRow (viewC m (n + 1)) [hdOf x j L] = some [.list (ints L)] := by
      rw [viewRow_cons (viewC m (n + 1)) _ _ (fun _ => rfl)]
      unfold hdOf
      by_cases hL : L = []
      · simp [hL]
      · have := h 0 L rfl hL
        simp only [Nat.add_zero] at this
        simp [hL, this]
    rw [h0]
    rfl
theorem LsAt.old {x : Nat} {m m' : Mem} {Ls : List (List Int)} {j : Nat} (h : LsAt x m j Ls) (hm : ∀ i, i < Ls.length → ∀ es, m [x, j + i] = some (.row [x, j + i, 0] 3 es) → m' [x, j + i] = some (.row [x, j + i, 0] 3 es)) : LsAt x m' j Ls :=
  fun i L hi hL => hm i (List.getElem?_eq_some_iff.1 hi).1 _ (h i L hi hL)
theorem LsAt.snoc {x : Nat} {m : Mem} {Ls : List (List Int)} {j : Nat} (h : LsAt x m j Ls) {L : List Int} (hL : L ≠ [] → m [x, j + Ls.length] = some (.row [x, j + Ls.length, 0] 3 (ints L))) : LsAt x m j (Ls ++ [L]) := fun i L' hi hne => by
  by_cases hlt : i < Ls.length
  · rw [List.getElem?_append_left hlt] at hi; exact h i L' hi hne
  · have : i = Ls.length := by
      have := (List.getElem?_eq_some_iff.1 hi).1
      simp at this; omega
    subst this
    simp at hi
    subst hi
    exact hL hne

def varOf (x k : Nat) : D := if k = 0 then .nil else .sl [x, k - 1] 1 0 k none
structure LeastI (T R : Nat) (all : List Row) (len : Nat) (lim : Option Nat) (Ls : List (List Int)) (σ : St) : Prop where
  s5 : σ.s 5 = .ptr [6, 0] 0
  m6 : σ.m [6, 0] = some (.box [iv T, iv R, iv T, iv 1, iv 2, .sl [21, 0] 5 0 len lim])
  m21 : σ.m [21, 0] = some (.row [21, 0, 0] 53 (rowsL all))
  s6 : σ.s 6 = .ptr [7, 0] 0
  m7 : σ.m [7, 0] = some (.box [varOf 37 Ls.length])
  m37 : 0 < Ls.length → σ.m [37, Ls.length - 1] = some (.row [37, 0] 34 (hdsFrom 35 0 Ls))
  ls : LsAt 35 σ.m 0 Ls
theorem LeastI.to {T R : Nat} {all : List Row} {len : Nat} {lim : Option Nat} {Ls : List (List Int)} {σ σ' : St} (h : LeastI T R all len lim Ls σ) (h5 : σ'.s 5 = σ.s 5) (h6 : σ'.s 6 = σ.s 6) (hm : σ'.m = σ.m) : LeastI T R all len lim Ls σ' :=
  ⟨by rw [h5]; exact h.s5, by rw [hm]; exact h.m6, by rw [hm]; exact h.m21, by rw [h6]; exact h.s6, by rw [hm]; exact h.m7, by rw [hm]; exact h.m37, by rw [hm]; exact h.ls⟩
def leastLs (R : Nat) (l : List Nat) : List (List Int) := l.map (chosenL R)
def leastA (p12 p15 p18 : FP) (q13 q14 q17 : FQ) : Env := mkEnv [(12, p12), (15, p15)] [(13, q13), (14, q14)] []
theorem c4w (p12 p15 p16 : FP) (q13 q14 : FQ) (x : Sk) (T R : Nat) (all : List Row) (len : Nat) (lim : Option Nat) (hm : MadeOK T R all len) (l : List Nat) (hl : ∀ n ∈ l, n < 65536)
    (h12 : p12 [] = some (bv true))
    (h13 : q13 [.agg [.v (.int .u8 x.t), .v (.int .u8 x.r), .list (bytes x.miss)]] = some (.agg [iv T, iv R, iv T, iv 1, iv 2, .sl [] 5 0 len lim], rowMem 53 (rowsL all)))
    (h14n : ∀ n : Nat, n < 65536 → chosenL R n = [] → q14 [.agg [iv T, iv R, iv T, iv 1, iv 2, .list (rowsL (all.take len))], .v (.int .u16 n)] = some (.nil, noMem))
    (h14 : ∀ n : Nat, n < 65536 → chosenL R n ≠ [] → q14 [.agg [iv T, iv R, iv T, iv 1, iv 2, .list (rowsL (all.take len))], .v (.int .u16 n)] = some (.sl [] 1 0 (chosenL R n).length none, rowMem 3 (ints (chosenL R n))))
    (lev : Nat → Int) (a a2 : Nat) (h15n : leastLs R (l.take 20) = [] → p15 [.agg [iv T, iv R, iv T, iv 1, iv 2, .list (rowsL (all.take len))], .list []] = some (.tup [iv 0, iv 6]))
    (h15 : 0 < (leastLs R (l.take 20)).length → p15 [.agg [iv T, iv R, iv T, iv 1, iv 2, .list (rowsL (all.take len))], .list (lists (leastLs R (l.take 20)))] = some (.tup [iv a, iv 0]))
    (h15s : 0 < (leastLs R (l.take 20)).length → p15 [.agg [iv T, iv R, iv T, iv 1, iv 2, .list (rowsL (all.take len))], .list (lists ((leastLs R (l.take 20)).take (1 + ((leastLs R (l.take 20)).length - 1) / 2)))] = some (.tup [iv a2, iv 0]))
    (h16 : ∀ j : Nat, j < (leastLs R (l.take 20)).length → p16 [iv j, .lptr [iv T, iv R, iv T, iv 1, iv 2, .list (rowsL (all.take len))], .lptr [.list (lists (leastLs R (l.take 20)))]] = some (iv (lev j)))
    (hlow : 0 < (leastLs R (l.take 20)).length → a < (leastLs R (l.take 20)).length ∧ a2 < (leastLs R (l.take 20)).length ∧ 0 ≤ lev a ∧ (∀ j, j < (leastLs R (l.take 20)).length → lev a ≤ lev j) ∧ ∀ j, j < a → lev a < lev j) :
    wwp (mkEnv [(12, p12), (15, p15), (16, p16)] [(13, q13), (14, q14)] []) W4.1 (fun e s => okExit e ∧ resV W4.2 s = some (bv true)) (initV [.agg x.cells, .list (u16s l)]) := by
  obtain ⟨⟨t1, t2⟩, ⟨r1, r2⟩, pos, le, fit⟩ := hm
  simp only [W4]
  refine wwp_cut (fun σ => σ.s 1 = .list (u16s l) ∧ σ.s 2 = .ptr [3, 0] 0 ∧ σ.m [3, 0] = some (.box x.cells) ∧ σ.c 20 = 0 ∧ σ.c 5 = 0 ∧ σ.c 6 = 0 ∧ σ.c 34 = 0 ∧ σ.c 35 = 0 ∧ σ.c 36 = 0) (by simp [Sk.cells]) ?_
  rintro σ ⟨h1, h2, m3, k1, k2, k3, k4, k5, k6⟩
  refine wwp_cutG (fun σ => σ.s 1 = .list (u16s l) ∧ σ.s 2 = .ptr [3, 0] 0 ∧ σ.m [3, 0] = some (.box x.cells) ∧ σ.c 20 = 0 ∧ σ.c 5 = 0 ∧ σ.c 6 = 0 ∧ σ.c 34 = 0 ∧ σ.c 35 = 0 ∧ σ.c 36 = 0) (by simp [h12, h1, h2, m3, k1, k2, k3, k4, k5, k6]) ?_
  clear h1 h2 m3 k1 k2 k3 k4 k5 k6 σ
  rintro σ ⟨h1, h2, m3, k1, k2, k3, k4, k5, k6⟩
  refine wwp_cut (fun σ => σ.s 1 = .list (u16s l) ∧ σ.s 5 = .ptr [6, 0] 0 ∧ σ.m [6, 0] = some (.box [iv T, iv R, iv T, iv 1, iv 2, .sl [21, 0] 5 0 len lim]) ∧ σ.m [21, 0] = some (.row [21, 0, 0] 53 (rowsL all)) ∧ σ.c 6 = 0 ∧ σ.c 34 = 0 ∧ σ.c 35 = 0 ∧ σ.c 36 = 0) (by simp [h1, h2, m3, k1, k2, k3, k4, k5, k6, Sk.cells, h13]) ?_
  clear h1 h2 m3 k1 k2 k3 k4 k5 k6 σ
  rintro σ ⟨h1, h5, m6, m21, k3, k4, k5, k6⟩
  refine wwp_cut (fun σ => σ.s 1 = .list (u16s l) ∧ LeastI T R all len lim [] σ ∧ σ.c 34 = 0 ∧ σ.c 35 = 0 ∧ σ.c 36 = 0) (by simp [h1, h5, m6, m21, k3, k4, k5, k6]; exact ⟨by simp [h5], by simp [m6], by simp [m21], by simp [k3], by simp [varOf, k3], by simp, fun i L h => by simp at h⟩) ?_
  clear h1 h5 m6 m21 k3 k4 k5 k6 σ
  rintro σ ⟨h1, hI, k4, k5, k6⟩
  refine wwp_cutG (fun σ => LeastI T R all len lim (leastLs R (l.take 20)) σ) ?_ ?_
  · refine wwp_cut (fun σ => LeastI T R all len lim [] σ ∧ σ.c 34 = 0 ∧ σ.c 35 = 0 ∧ σ.c 36 = 0 ∧ σ.s 25 = .list (u16s (l.take 20)) ∧ σ.s 26 = iv (l.take 20).length ∧ σ.s 27 = iv 0) ?_ ?_
    · obtain ⟨a1, a2, a3, a4, a5, a6, a7⟩ := hI
      simp [h1, u16s_cut, k4, k5, k6]
      exact ⟨by simp [a1], by simp [a2], by simp [a3], by simp [a4], by simp [a5], by simp, fun i L h => by simp at h⟩
    clear h1 hI k4 k5 k6 σ
    rintro σ ⟨hI, k4, k5, k6, h25, h26, h27⟩
    obtain ⟨q, hq⟩ : ∃ q, q = l.take 20 := ⟨_, rfl⟩
    have hq1 : ∀ n ∈ q, n < 65536 := fun n hn => hl n (List.mem_of_mem_take (by rw [← hq]; exact hn))
    have hq2 : q.length ≤ 20 := by rw [hq]; simp; omega
    rw [← hq] at h25 h26 ⊢
    simp only [wwp_block]
    refine wwp_loop (fun σ => ∃ k : Nat, k ≤ q.length ∧ σ.s 27 = iv k ∧ σ.s 26 = iv q.length ∧ σ.s 25 = .list (u16s q) ∧ LeastI T R all len lim (leastLs R (q.take k)) σ ∧ σ.c 34 = k ∧ σ.c 35 = k ∧ σ.c 36 = k) (fun σ => cnt q.length (σ.s 27)) ?_ ?_
    · exact ⟨0, by omega, h27, h26, h25, by simpa [leastLs] using hI, k4, k5, k6⟩
    · clear hI k4 k5 k6 h25 h26 h27 σ
      rintro σ hw ⟨k, hk, h27, h26, h25, ⟨s5, m6, m21, s6, m7, m37, ls⟩, k4, k5, k6⟩
      have hlsl : (leastLs R (q.take k)).length = k := by simp [leastLs]; omega
      rw [hlsl] at m7 m37
      simp [h27, h26]
      refine condK_dec (fun hlt => ?_) (fun hge => ?_)
      · have hn := hq1 q[k] (List.getElem_mem hlt)
        have hqk : leastLs R (q.take (k + 1)) = leastLs R (q.take k) ++ [chosenL R q[k]] := by
          rw [List.take_succ_eq_append_getElem hlt, leastLs, List.map_append]; rfl
        by_cases hL : chosenL R q[k] = []
        · have e14 := h14n q[k] hn hL
          have hw1 : IntKind.i64.wrap ((k : Int) + 1) = (k : Int) + 1 := wrap_succ (show k ≤ 1000000000 by omega)
          rcases Nat.eq_zero_or_pos k with h0 | h0
          · subst h0
            simp [varOf] at m7
            simp [h25, h27, h26, u16s_at hlt, s5, m6, m21, s6, m7, le, rowsL_takeN, e14, k4, k5, k6, one_made]
            refine ⟨⟨1, by omega, by omega, ?_, rfl⟩, by omega⟩
            rw [hqk]
            refine ⟨by simp [s5], by simp [m6], by simp [m21], by simp [s6], by simp [leastLs, varOf], fun _ => ?_, LsAt.snoc (ls.old fun i hi es h => ?_) fun hne => absurd hL hne⟩
            · simp [leastLs, hdsFrom, hdOf, hL, k6]
            · rw [hlsl] at hi; omega
          · have n0 : ¬ k = 0 := by omega
            simp [varOf, n0] at m7
            have m37 := m37 h0
            have hmm : k + 1 ≤ maxMade := by unfold maxMade; omega
            have hfl := hdsFrom_len 35 (leastLs R (q.take k)) 0
            rw [hlsl] at hfl
            simp [h25, h27, h26, u16s_at hlt, s5, m6, m21, s6, m7, m37, le, rowsL_takeN, e14, k4, k5, k6, one_made, hmm, hfl, hw1]
            refine ⟨⟨k + 1, by omega, by omega, ?_, rfl⟩, by omega⟩
            rw [hqk]
            refine ⟨by simp [s5], by simp [m6], by simp [m21], by simp [s6], by simp [hlsl, varOf], fun _ => ?_, LsAt.snoc (ls.old fun i hi es h => ?_) fun hne => absurd hL hne⟩
            · simp [hlsl, hdsFrom_snoc, hdOf, hL, hfl, k6, List.take_of_length_le]
            · rw [hlsl] at hi
              have hik : ¬ i = k := by omega
              simp at h
              simp [h, k4, k5, k6, hik]
        · have e14 := h14 q[k] hn hL
          have hw1 : IntKind.i64.wrap ((k : Int) + 1) = (k : Int) + 1 := wrap_succ (show k ≤ 1000000000 by omega)
          rcases Nat.eq_zero_or_pos k with h0 | h0
          · subst h0
            simp [varOf] at m7
            simp [h25, h27, h26, u16s_at hlt, s5, m6, m21, s6, m7, le, rowsL_takeN, e14, k4, k5, k6, one_made]
            refine ⟨⟨1, by omega, by omega, ?_, rfl⟩, by omega⟩
            rw [hqk]
            refine ⟨by simp [s5], by simp [m6], by simp [m21], by simp [s6], by simp [leastLs, varOf], fun _ => ?_, LsAt.snoc (ls.old fun i hi es h => ?_) fun hne => ?_⟩
            · simp [leastLs, hdsFrom, hdOf, hL, k6]
            · rw [hlsl] at hi; omega
            · simp [leastLs, k4]
          · have n0 : ¬ k = 0 := by omega
            simp [varOf, n0] at m7
            have m37 := m37 h0
            have hmm : k + 1 ≤ maxMade := by unfold maxMade; omega
            have hfl := hdsFrom_len 35 (leastLs R (q.take k)) 0
            rw [hlsl] at hfl
            simp [h25, h27, h26, u16s_at hlt, s5, m6, m21, s6, m7, m37, le, rowsL_takeN, e14, k4, k5, k6, one_made, hmm, hfl, hw1]
            refine ⟨⟨k + 1, by omega, by omega, ?_, rfl⟩, by omega⟩
            rw [hqk]
            refine ⟨by simp [s5], by simp [m6], by simp [m21], by simp [s6], by simp [hlsl, varOf], fun _ => ?_, LsAt.snoc (ls.old fun i hi es h => ?_) fun hne => ?_⟩
            · simp [hlsl, hdsFrom_snoc, hdOf, hL, hfl, k6, List.take_of_length_le]
            · rw [hlsl] at hi
              have hik : ¬ i = k := by omega
              simp at h
              simp [h, k4, k5, k6, hik]
            · rw [hlsl]
              simp [k4]
      · have hkq : k = q.length := by omega
        subst hkq
        rw [List.take_length] at m37 ls hlsl
        simp
        exact ⟨s5, m6, m21, s6, by rw [hlsl]; exact m7, by rw [hlsl]; exact m37, ls⟩
  clear h1 hI k4 k5 k6 σ
  obtain ⟨Ls, hLs⟩ : ∃ Ls, Ls = leastLs R (l.take 20) := ⟨_, rfl⟩
  rw [← hLs] at h15n h15 h15s h16 hlow ⊢
  have hn20 : Ls.length ≤ 20 := by rw [hLs]; simp [leastLs]; omega
  rintro σ hI
  obtain ⟨s5, m6, m21, s6, m7, m37, ls⟩ := id hI
  have hv5 := view_lists (n := 4) ls
  have hv4 := view_lists (n := 3) ls
  rcases Nat.eq_zero_or_pos Ls.length with h0 | h0
  · have hnil : Ls = [] := List.eq_nil_of_length_eq_zero h0
    have e15 := h15n hnil
    rw [hnil] at m7
    simp [varOf] at m7
    simp [s5, m6, m21, s6, m7, le, rowsL_takeN, e15]
  · have n0 : ¬ Ls.length = 0 := by omega
    obtain ⟨la, la2, lnn, lle, llt⟩ := hlow h0
    have m37' := m37 h0
    have hfl := hdsFrom_len 35 Ls 0
    simp [varOf, n0] at m7
    refine wwp_cut (fun σ => LeastI T R all len lim Ls σ ∧ σ.s 9 = iv a ∧ σ.s 10 = iv 0) ?_ ?_
    · simp [s5, m6, m21, s6, m7, m37', le, rowsL_takeN, hfl, List.take_of_length_le, hv5, h15 h0]
      exact hI.to (by simp) (by simp) rfl
    clear s5 m6 m21 s6 m7 m37 m37' ls hv5 hv4 hI σ
    rintro σ ⟨hI, h9, h10⟩
    have pull : ∀ {σ : St}, LeastI T R all len lim Ls σ → σ.s 5 = .ptr [6, 0] 0 ∧ σ.m [6, 0] = some (.box [iv T, iv R, iv T, iv 1, iv 2, .sl [21, 0] 5 0 len lim]) ∧ σ.m [21, 0] = some (.row [21, 0, 0] 53 (rowsL all)) ∧ σ.s 6 = .ptr [7, 0] 0 ∧
        σ.m [7, 0] = some (.box [.sl [37, Ls.length - 1] 1 0 Ls.length none]) ∧ σ.m [37, Ls.length - 1] = some (.row [37, 0] 34 (hdsFrom 35 0 Ls)) ∧ viewRows (viewC σ.m 5) (hdsFrom 35 0 Ls) = some (lists Ls) ∧ viewRows (viewC σ.m 4) (hdsFrom 35 0 Ls) = some (lists Ls) := fun hI => by
      obtain ⟨s5, m6, m21, s6, m7, m37, ls⟩ := hI
      simp [varOf, n0] at m7
      exact ⟨s5, m6, m21, s6, m7, m37 h0, view_lists (n := 4) ls, view_lists (n := 3) ls⟩
    obtain ⟨s5, m6, m21, s6, m7, m37, hv5, hv4⟩ := pull hI
    have z1 : ((Ls.length : Int) == 0) = false := by rw [beq_eq_false_iff_ne]; omega
    have z2 : ¬ (a : Int) < 0 := by omega
    have z3 : ¬ Ls.length ≤ a := by omega
    refine wwp_cutG (fun σ => LeastI T R all len lim Ls σ ∧ σ.s 9 = iv a ∧ σ.s 10 = iv 0) ?_ ?_
    · simp [s6, m7, z1, h9, h10]
      exact hI.to (by simp) (by simp) rfl
    clear s5 m6 m21 s6 m7 m37 hv5 hv4 hI h9 h10 σ
    rintro σ ⟨hI, h9, h10⟩
    obtain ⟨s5, m6, m21, s6, m7, m37, hv5, hv4⟩ := pull hI
    refine wwp_cutG (fun σ => LeastI T R all len lim Ls σ ∧ σ.s 9 = iv a ∧ σ.s 10 = iv 0) ?_ ?_
    · simp [s6, m7, z1, z2, z3, h9, h10]
      exact hI.to (by simp) (by simp) rfl
    clear s5 m6 m21 s6 m7 m37 hv5 hv4 hI h9 h10 σ
    rintro σ ⟨hI, h9, h10⟩
    obtain ⟨s5, m6, m21, s6, m7, m37, hv5, hv4⟩ := pull hI
    refine wwp_cut (fun σ => LeastI T R all len lim Ls σ ∧ σ.s 9 = iv a ∧ σ.s 10 = iv 0 ∧ σ.s 11 = .clo 16 [.ptr [6, 0] 0, .ptr [7, 0] 0]) ?_ ?_
    · simp [s5, s6, h9, h10]
      exact hI.to (by simp) (by simp) rfl
    clear s5 m6 m21 s6 m7 m37 hv5 hv4 hI h9 h10 σ
    rintro σ ⟨hI, h9, h10, h11⟩
    obtain ⟨s5, m6, m21, s6, m7, m37, hv5, hv4⟩ := pull hI
    refine wwp_cut (fun σ => LeastI T R all len lim Ls σ ∧ σ.s 9 = iv a ∧ σ.s 10 = iv 0 ∧ σ.s 11 = .clo 16 [.ptr [6, 0] 0, .ptr [7, 0] 0] ∧ σ.s 12 = iv (lev a)) ?_ ?_
    · simp [h9, h10, h11, m6, m21, m7, m37, le, rowsL_takeN, hfl, List.take_of_length_le, hv4, h16 a la]
      exact hI.to (by simp) (by simp) rfl
    clear s5 m6 m21 s6 m7 m37 hv5 hv4 hI h9 h10 h11 σ
    rintro σ ⟨hI, h9, h10, h11, h12'⟩
    refine wwp_cutG (fun σ => LeastI T R all len lim Ls σ ∧ σ.s 9 = iv a ∧ σ.s 10 = iv 0 ∧ σ.s 11 = .clo 16 [.ptr [6, 0] 0, .ptr [7, 0] 0] ∧ σ.s 12 = iv (lev a)) ?_ ?_
    · obtain ⟨s5, m6, m21, s6, m7, m37, hv5, hv4⟩ := pull hI
      refine wwp_cut (fun σ => LeastI T R all len lim Ls σ ∧ σ.s 9 = iv a ∧ σ.s 10 = iv 0 ∧ σ.s 11 = .clo 16 [.ptr [6, 0] 0, .ptr [7, 0] 0] ∧ σ.s 12 = iv (lev a) ∧ σ.s 70 = iv Ls.length ∧ σ.s 71 = iv 0) ?_ ?_
      · simp [h9, h10, h11, h12', s6, m7]
        exact hI.to (by simp) (by simp) rfl
      clear s5 m6 m21 s6 m7 m37 hv5 hv4 hI h9 h10 h11 h12' σ
      rintro σ ⟨hI, h9, h10, h11, h12', h70, h71⟩
      simp only [wwp_block]
      refine wwp_loop (fun σ => ∃ k : Nat, k ≤ Ls.length ∧ LeastI T R all len lim Ls σ ∧ σ.s 9 = iv a ∧ σ.s 10 = iv 0 ∧ σ.s 11 = .clo 16 [.ptr [6, 0] 0, .ptr [7, 0] 0] ∧ σ.s 12 = iv (lev a) ∧ σ.s 70 = iv Ls.length ∧ σ.s 71 = iv k) (fun σ => cnt Ls.length (σ.s 71)) ?_ ?_
      · exact ⟨0, by omega, hI, h9, h10, h11, h12', h70, h71⟩
      · clear hI h9 h10 h11 h12' h70 h71 σ
        rintro σ hw ⟨k, hk, hI, h9, h10, h11, h12', h70, h71⟩
        obtain ⟨s5, m6, m21, s6, m7, m37, hv5, hv4⟩ := pull hI
        simp [h70, h71]
        refine condK_dec (fun hlt => ?_) (fun hge => ?_)
        · have hw1 : IntKind.i64.wrap ((k : Int) + 1) = (k : Int) + 1 := wrap_succ (show k ≤ 1000000000 by omega)
          have c1 : ¬ lev k < lev a := by have := lle k hlt; omega
          have c2 : (decide (k < a) && lev k == lev a) = false := by
            rw [Bool.and_eq_false_iff, decide_eq_false_iff_not, beq_eq_false_iff_ne]
            by_cases hka : k < a
            · have := llt k hka; omega
            · exact .inl hka
          simp [h9, h10, h11, h12', h70, h71, m6, m21, m7, m37, le, rowsL_takeN, hfl, List.take_of_length_le, hv4, h16 k hlt, c1, c2, hw1]
          exact ⟨⟨k + 1, by omega, hI.to (by simp) (by simp) rfl, rfl⟩, by omega⟩
        · simp
          exact ⟨hI.to (by simp) (by simp) rfl, h9, h10, h11, h12'⟩
    clear hI h9 h10 h11 h12' σ
    rintro σ ⟨hI, h9, h10, h11, h12'⟩
    obtain ⟨s5, m6, m21, s6, m7, m37, hv5, hv4⟩ := pull hI
    obtain ⟨h, hh⟩ : ∃ h, h = 1 + (Ls.length - 1) / 2 := ⟨_, rfl⟩
    have hh1 : h ≤ Ls.length := by omega
    have wq : IntKind.i64.wrap (1 + IntKind.i64.wrap ((IntKind.i64.wrap ((Ls.length : Int) - 1)).tdiv 2)) = h := by
      rw [wrap_in (x := (Ls.length : Int) - 1) (by omega) (by omega), Int.tdiv_eq_ediv_of_nonneg (by omega), wrap_in (x := ((Ls.length : Int) - 1) / 2) (by omega) (by omega), wrap_in (by omega) (by omega)]; omega
    refine wwp_cut (fun σ => LeastI T R all len lim Ls σ ∧ σ.s 11 = .clo 16 [.ptr [6, 0] 0, .ptr [7, 0] 0] ∧ σ.s 12 = iv (lev a) ∧ σ.s 15 = .sl [37, Ls.length - 1] 1 0 h none) ?_ ?_
    · have hh2 : (0 : Int) ≤ h ∧ ((h : Int) ≤ Ls.length ∨ roomV σ.m [37, Ls.length - 1] 0 none h = true) := ⟨by omega, .inl (by omega)⟩
      simp [h9, h10, h11, h12', s6, m7, wq, hh1]
      exact hI.to (by simp) (by simp) rfl
    clear s5 m6 m21 s6 m7 m37 hv5 hv4 hI h9 h10 h11 h12' σ
    rintro σ ⟨hI, h11, h12', h15'⟩
    obtain ⟨s5, m6, m21, s6, m7, m37, hv5, hv4⟩ := pull hI
    have htk : (hdsFrom 35 0 Ls).take h = hdsFrom 35 0 (Ls.take h) := by
      have gen : ∀ (Ls : List (List Int)) (j h : Nat), (hdsFrom 35 j Ls).take h = hdsFrom 35 j (Ls.take h) := by
        intro Ls
        induction Ls with
        | nil => intro j h; simp [hdsFrom]
        | cons L Ls ih => intro j h; cases h with
          | zero => rfl
          | succ h => simp only [hdsFrom, List.take_succ_cons, ih]
      exact gen Ls 0 h
    have hvt := view_lists (n := 4) (m := σ.m) (x := 35) (Ls := Ls.take h) (j := 0) fun i L hi hL => hI.ls i L (by
      rw [List.getElem?_take] at hi
      split at hi
      · exact hi
      · cases hi) hL
    have e15 := h15s h0
    rw [← hh] at e15
    refine wwp_cut (fun σ => LeastI T R all len lim Ls σ ∧ σ.s 11 = .clo 16 [.ptr [6, 0] 0, .ptr [7, 0] 0] ∧ σ.s 12 = iv (lev a) ∧ σ.s 16 = iv a2 ∧ σ.s 10 = iv 0) ?_ ?_
    · simp [h11, h12', h15', s5, m6, m21, m37, le, rowsL_takeN, hfl, hh1, htk, hvt, e15]
      exact hI.to (by simp) (by simp) rfl
    clear s5 m6 m21 s6 m7 m37 hv5 hv4 hvt hI h11 h12' h15' σ
    rintro σ ⟨hI, h11, h12', h16', h10⟩
    obtain ⟨s5, m6, m21, s6, m7, m37, hv5, hv4⟩ := pull hI
    have c1 := lle a2 la2
    simp [h10, h11, h12', h16', m6, m21, m7, m37, le, rowsL_takeN, hfl, List.take_of_length_le, hv4, h16 a2 la2, c1, lnn]
end Go.Proofs.Ytpmgaaalfdjikaa
