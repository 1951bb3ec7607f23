/- The kit's LentIntLists. No condition. The kit's KeptInts, KeptRows: read what lies behind the length too. No condition. The kit's KeptMovement, KeptIntLists. No condition. The body of TurnBest: best. No condition. TurnBest: for every movement and every lists the law returns true, and its arguments read as before. No condition. -/
import Derived.Test.YtpmgaaalfdjikaaWc
import Derived.Test.YtpmgaaalfdjikaaSd
import Derived.Test.YtpmgaaalfdjikaaWb
import Derived.Test.YtpmgaaalfdjikaaRows
namespace Go.Proofs.Ytpmgaaalfdjikaa
open Go.RowKit
set_option linter.unusedSimpArgs false
set_option linter.unusedVariables false

def W34 : WC × List VRes := ((.seq (.reg [(.set [(2, (.c .nil))] [2])]) (.seq (.reg [(.set [(9, (.ap (.ibin .add) [(.ap .llen [(.t 0)]), (.c (.v (.int .i64 12)))]))] [7, 8, 9]), (.stm (.eff (.mks 10 34 1 [.nil] (.c (.v (.int .i64 0))) (.t 9)) none)), (.set [(3, (.t 10))] [3])]) (.seq (.seq (.reg [(.set [(4, (.c (.v (.int .i64 0))))] [4])]) (.block 0 (.loop (.seq (.seq (.reg [(.set [(14, (.ap (.ibin .lss) [(.t 4), (.ap .llen [(.t 0)])]))] [11, 12, 13, 14])]) (.cond (.t 14) .skip (.exit 0))) (.seq (.block 1 (.seq (.reg [(.set [(20, (.ap (.load 1 false) [(.ap (.idx 34 1) [(.t 0), (.t 4)])]))] [17, 18, 19, 20]), (.stm (.eff (.callq 21 42 [(.t 20)]) none)), (.set [(5, (.t 21))] [5])]) (.reg [(.set [(22, (.t 3)), (23, (.t 5))] [22, 23]), (.stm (.eff (.lit 24 34 1 1 [.nil] [(0, 1)] [(.t 23)]) none)), (.stm (.eff (.app 25 34 1 (.t 22) (.t 24)) none)), (.set [(3, (.t 25))] [3])]))) (.reg [(.set [(4, (.ap (.ibin .add) [(.t 4), (.c (.v (.int .i64 1)))]))] [15, 16, 4])])))))) (.seq (.seq (.reg [(.set [(6, (.c (.v (.int .i64 0))))] [6])]) (.block 2 (.loop (.seq (.seq (.reg [(.set [(27, (.ap (.ibin .lss) [(.t 6), (.c (.v (.int .i64 12)))]))] [26, 27])]) (.cond (.t 27) .skip (.exit 2))) (.seq (.block 3 (.reg [(.set [(30, (.t 3)), (31, (.t 6))] [30, 31]), (.stm (.eff (.callq 32 59 [(.c (.v (.int .i64 1))), (.t 31)]) none)), (.stm (.eff (.lit 33 34 1 1 [.nil] [(0, 1)] [(.t 32)]) none)), (.stm (.eff (.app 34 34 1 (.t 30) (.t 33)) none)), (.set [(3, (.t 34))] [3])])) (.reg [(.set [(6, (.ap (.ibin .add) [(.t 6), (.c (.v (.int .i64 1)))]))] [28, 29, 6])])))))) (.seq (.reg [(.set [(2, (.ap (.slc 1 false true false) [(.t 3), (.ap .llen [(.t 0)])]))] [35, 36, 37, 38, 2])]) .ret))))), [(.t 2)])
theorem is34 : IsFn Try.prog frB 34 Try.f34 W34 := ⟨by kernel_rfl, by kernel_rfl, by kernel_rfl⟩
theorem nt34 : Try.f34.ntmps = 39 := by kernel_rfl


/-- A list of lists that lie apart: what each holds, and its length. -/
def hdsL (tk : Nat → Tok) : Nat → List (List Int × Nat) → List (List D)
  | _, [] => []
  | j, p :: r => [.sl (tk j) 1 0 p.2 none] :: hdsL tk (j + 1) r
theorem hdsL_len (tk : Nat → Tok) : ∀ (Fs : List (List Int × Nat)) (j : Nat), (hdsL tk j Fs).length = Fs.length
  | [], _ => rfl
  | _ :: Fs, j => by simp [hdsL, hdsL_len tk Fs (j + 1)]
theorem hdsL_snoc (tk : Nat → Tok) (p : List Int × Nat) : ∀ (Fs : List (List Int × Nat)) (j : Nat), hdsL tk j (Fs ++ [p]) = hdsL tk j Fs ++ [[.sl (tk (j + Fs.length)) 1 0 p.2 none]]
  | [], j => by simp [hdsL]
  | _ :: Fs, j => by
    simp only [List.cons_append, hdsL, hdsL_snoc tk p Fs (j + 1), List.length_cons]
    rw [show j + 1 + Fs.length = j + (Fs.length + 1) by omega]
theorem hdsL_size (tk : Nat → Tok) : ∀ (Fs : List (List Int × Nat)) (j : Nat), ∀ c ∈ hdsL tk j Fs, c.length = 1
  | [], _, c, h => by simp [hdsL] at h
  | p :: Fs, j, c, h => by
    simp only [hdsL, List.mem_cons] at h
    rcases h with rfl | h
    · rfl
    · exact hdsL_size tk Fs (j + 1) c h
@[simp] theorem hdsL_fa (tk : Nat → Tok) (j : Nat) (Fs : List (List Int × Nat)) : (∀ c, c ∈ hdsL tk j Fs → c.length = 1) = True := by
  simp only [eq_iff_iff, iff_true]; exact hdsL_size tk Fs j
@[simp] theorem hdsL_ex (tk : Nat → Tok) (j : Nat) (Fs : List (List Int × Nat)) : (∃ c, c ∈ hdsL tk j Fs ∧ ¬ c.length = 1) = False := by
  simp only [eq_iff_iff, iff_false]; rintro ⟨c, h1, h2⟩; exact h2 (hdsL_size tk Fs j c h1)
theorem hdsL_at (tk : Nat → Tok) : ∀ (Fs : List (List Int × Nat)) (j k : Nat) (h : k < Fs.length), (hdsL tk j Fs)[k]? = some [.sl (tk (j + k)) 1 0 Fs[k].2 none]
  | p :: Fs, j, 0, _ => by simp [hdsL]
  | p :: Fs, j, k + 1, h => by
    have := hdsL_at tk Fs (j + 1) k (by simpa using h)
    simp only [hdsL, List.getElem?_cons_succ, List.getElem_cons_succ]
    rw [this, show j + 1 + k = j + (k + 1) by omega]
theorem hdsL_ren (tk : Nat → Tok) (f : Tok → Tok) : ∀ (Fs : List (List Int × Nat)) (j : Nat), (hdsL tk j Fs).map (List.map (D.renC f)) = hdsL (fun j => f (tk j)) j Fs
  | [], _ => rfl
  | p :: Fs, j => by simp only [hdsL, List.map_cons, List.map_nil, D.renC, hdsL_ren tk f Fs (j + 1)]
def LsL (tk gr : Nat → Tok) (m : Mem) (j : Nat) (Fs : List (List Int × Nat)) : Prop := ∀ i p, Fs[i]? = some p → m (tk (j + i)) = some (.row (gr (j + i)) 3 (ints p.1))
theorem LsL.old {tk gr : Nat → Tok} {m m' : Mem} {Fs : List (List Int × Nat)} {j : Nat} (h : LsL tk gr m j Fs) (hm : ∀ i, i < Fs.length → ∀ es, m (tk (j + i)) = some (.row (gr (j + i)) 3 es) → m' (tk (j + i)) = some (.row (gr (j + i)) 3 es)) : LsL tk gr m' j Fs :=
  fun i p hi => hm i (List.getElem?_eq_some_iff.1 hi).1 _ (h i p hi)
theorem LsL.snoc {tk gr : Nat → Tok} {m : Mem} {Fs : List (List Int × Nat)} {j : Nat} (h : LsL tk gr m j Fs) {p : List Int × Nat} (hL : m (tk (j + Fs.length)) = some (.row (gr (j + Fs.length)) 3 (ints p.1))) : LsL tk gr m j (Fs ++ [p]) := fun i p' hi => by
  by_cases hlt : i < Fs.length
  · rw [List.getElem?_append_left hlt] at hi; exact h i p' hi
  · have : i = Fs.length := by
      have := (List.getElem?_eq_some_iff.1 hi).1
      simp at this; omega
    subst this
    simp at hi
    subst hi
    exact hL
/-- .. handed back. -/
def lentMem (Fs : List (List Int × Nat)) : Mem := fun t => match t with
  | [] => some (.row [0] 34 (hdsL (fun j => [j + 1]) 0 Fs))
  | [0] => none
  | [k + 1] => (Fs[k]?).map fun p => .row [0, k] 3 (ints p.1)
  | _ => none
theorem lentMem_LsL (Fs : List (List Int × Nat)) : LsL (fun j => [j + 1]) (fun j => [0, j]) (lentMem Fs) 0 Fs := fun i p hi => by
  simp only [Nat.zero_add, lentMem, hi, Option.map_some]
theorem Out.lent {σ : St} {t g : Tok} {tk gr : Nat → Tok} {n : Nat} {Fs : List (List Int × Nat)} (h : σ.m t = some (.row g 34 (hdsL tk 0 Fs))) (hl : LsL tk gr σ.m 0 Fs) (ht : ∀ k, tk k ≠ t) (hi : ∀ j k, tk j = tk k → j = k) (hg : ∀ k, gr k ≠ g) (hgi : ∀ j k, gr j = gr k → j = k) :
    Out σ (.sl t 1 0 n none) (.sl [] 1 0 n none) (lentMem Fs) := by
  refine ⟨tableRen t g tk gr, rfl, rfl, fun s o ho => ?_, fun s s' o o' h1 h2 he => ?_⟩
  · unfold lentMem at ho
    split at ho
    · cases ho
      refine ⟨fun c hc d hd' => ?_, ?_⟩
      · have : ∀ (Fs : List (List Int × Nat)) (j : Nat) (tk : Nat → Tok), ∀ c ∈ hdsL tk j Fs, ∀ d ∈ c, d.noFC = true := by
          intro Fs
          induction Fs with
          | nil => intro j tk c hc; simp [hdsL] at hc
          | cons L Fs ih =>
            intro j tk c hc d hd'
            simp only [hdsL, List.mem_cons] at hc
            rcases hc with rfl | hc
            · simp only [List.mem_singleton] at hd'
              subst hd'
              rfl
            · exact ih _ _ c hc d hd'
        exact this Fs 0 _ c hc d hd'
      · simp only [HO.ren, hdsL_ren, tableRen, h]
    · cases ho
    · rename_i k
      rw [Option.map_eq_some_iff] at ho
      obtain ⟨p, hp, rfl⟩ := ho
      refine ⟨fun c hc d hd' => ?_, ?_⟩
      · obtain ⟨z, _, rfl⟩ := List.mem_map.1 hc
        simp only [List.mem_singleton] at hd'
        subst hd'
        rfl
      · have := hl k p hp
        simp only [Nat.zero_add] at this
        simp only [HO.ren, ints_ren, tableRen, this]
    · cases ho
  · have dom : ∀ s o, lentMem Fs s = some o → (s = [] ∧ (o.ren (tableRen t g tk gr)).grp = some g) ∨ ∃ k, s = [k + 1] ∧ (o.ren (tableRen t g tk gr)).grp = some (gr k) := fun s o ho => by
      unfold lentMem at ho
      split at ho
      · cases ho
        exact .inl ⟨rfl, rfl⟩
      · cases ho
      · rename_i k
        rw [Option.map_eq_some_iff] at ho
        obtain ⟨p, hp, rfl⟩ := ho
        exact .inr ⟨k, rfl, rfl⟩
      · cases ho
    rcases dom s o h1 with ⟨rfl, g1⟩ | ⟨j, rfl, g1⟩ <;> rcases dom s' o' h2 with ⟨rfl, g2⟩ | ⟨k, rfl, g2⟩ <;> rw [g1, g2] at he
    · rcases he with he | ⟨_, he⟩
      · exact absurd he.symm (ht k)
      · exact absurd (Option.some.inj he).symm (hg k)
    · rcases he with he | ⟨_, he⟩
      · exact absurd he (ht j)
      · exact absurd (Option.some.inj he) (hg j)
    · rcases he with he | ⟨_, he⟩
      · rw [hi j k he]
      · rw [hgi j k (Option.some.inj he)]
def lT (n k : Nat) : Tok := if k < n then [22, k] else [33, k - n]
def lG (n k : Nat) : Tok := if k < n then [22, k, 0] else [33, k - n, 0]
theorem lT_lt {n k : Nat} (h : k < n) : lT n k = [22, k] := if_pos h
theorem lG_lt {n k : Nat} (h : k < n) : lG n k = [22, k, 0] := if_pos h
theorem lT_ge {n k : Nat} (h : n ≤ k) : lT n k = [33, k - n] := if_neg (by omega)
theorem lG_ge {n k : Nat} (h : n ≤ k) : lG n k = [33, k - n, 0] := if_neg (by omega)
theorem lT_inj (n j k : Nat) (h : lT n j = lT n k) : j = k := by
  unfold lT at h
  split at h <;> split at h <;> simp at h <;> omega
theorem lG_inj (n j k : Nat) (h : lG n j = lG n k) : j = k := by
  unfold lG at h
  split at h <;> split at h <;> simp at h <;> omega
def lentF (M : List Int) (Ls : List (List Int)) : List (List Int × Nat) := Ls.map fun L => (L ++ M, L.length)
def lentE (mk : Nat → Int) (i : Nat) : List (List Int × Nat) := (List.range i).map fun i => ([mk i], 1)
theorem lentE_succ (mk : Nat → Int) (i : Nat) : lentE mk (i + 1) = lentE mk i ++ [([mk i], 1)] := by simp [lentE, List.range_succ]
theorem lentE_len (mk : Nat → Int) (i : Nat) : (lentE mk i).length = i := by simp [lentE]
theorem lentF_len (M : List Int) (Ls : List (List Int)) : (lentF M Ls).length = Ls.length := by simp [lentF]
def oK (t : Tok) : Prop := ∃ a u, t = [a, u] ∧ (a = 11 ∨ a = 26 ∨ a = 35)
theorem oK.ne {t : Tok} (h : oK t) {b k : Nat} (hb : b ≠ 11 ∧ b ≠ 26 ∧ b ≠ 35) : ¬ t = [b, k] := fun e => by
  obtain ⟨a, u, rfl, h⟩ := h
  simp at e
  omega
theorem c34w (q42 q59 : FQ) (mk : Nat → Int) (M : List Int) (Ls : List (List Int)) (hl : Ls.length ≤ 1000) (h42 : ∀ k (h : k < Ls.length), q42 [.list (ints Ls[k])] = some (.sl [] 1 0 Ls[k].length none, rowMem 3 (ints (Ls[k] ++ M))))
    (h59 : ∀ i : Nat, i < 12 → q59 [iv 1, iv i] = some (.sl [] 1 0 1 none, rowMem 3 (ints [mk i]))) :
    wwp (mkEnv [] [(42, q42), (59, q59)] []) W34.1 (fun e s => okExit e ∧ ∃ d0, resV W34.2 s = some d0 ∧ Out s d0 (.sl [] 1 0 Ls.length none) (lentMem (lentF M Ls ++ lentE mk 12))) (initV [.list (lists Ls)]) := by
  obtain ⟨n, hn⟩ : ∃ n, n = Ls.length := ⟨_, rfl⟩
  rw [← hn] at hl
  obtain ⟨N, hN, hNm⟩ : ∃ N : Nat, N = n + 12 ∧ N ≤ maxMade := ⟨_, rfl, maxMade_le (by omega)⟩
  have w1 : IntKind.i64.wrap ((n : Int) + 12) = (N : Int) := by rw [wrap_in (by omega) (by omega)]; omega
  simp only [W34]
  refine wwp_cut (fun σ => σ.s 0 = .list (lists Ls) ∧ ∀ y, σ.c y = 0) (by simp) ?_
  rintro σ ⟨h0, hc⟩
  have k10 := hc 10
  have k21 := hc 21
  have k32 := hc 32
  refine wwp_cut (fun σ => σ.s 0 = .list (lists Ls) ∧ σ.s 3 = .sl [11, 0] 1 0 0 none ∧ σ.m [11, 0] = some (.row [11, 0] 34 []) ∧ σ.c 21 = 0 ∧ σ.c 32 = 0) (by simp [h0, k10, k21, k32, w1, hNm, ← hn]) ?_
  clear h0 hc k10 k21 k32 σ
  rintro σ ⟨h0, h3, m11, k21, k32⟩
  refine wwp_cutG (fun σ => σ.s 0 = .list (lists Ls) ∧ (∃ ot, oK ot ∧ σ.s 3 = .sl ot 1 0 n none ∧ σ.m ot = some (.row [11, 0] 34 (hdsL (lT n) 0 (lentF M Ls)))) ∧ LsL (lT n) (lG n) σ.m 0 (lentF M Ls) ∧ σ.c 32 = 0) ?_ ?_
  · refine wwp_cut (fun σ => σ.s 0 = .list (lists Ls) ∧ σ.s 3 = .sl [11, 0] 1 0 0 none ∧ σ.m [11, 0] = some (.row [11, 0] 34 []) ∧ σ.c 21 = 0 ∧ σ.c 32 = 0 ∧ σ.s 4 = iv 0) (by simp [h0, h3, m11, k21, k32]) ?_
    clear h0 h3 m11 k21 k32 σ
    rintro σ ⟨h0, h3, m11, k21, k32, h4⟩
    simp only [wwp_block]
    refine wwp_loop (fun σ => ∃ k : Nat, k ≤ n ∧ σ.s 0 = .list (lists Ls) ∧ (∃ ot, oK ot ∧ σ.s 3 = .sl ot 1 0 k none ∧ σ.m ot = some (.row [11, 0] 34 (hdsL (lT n) 0 (lentF M (Ls.take k))))) ∧ LsL (lT n) (lG n) σ.m 0 (lentF M (Ls.take k)) ∧ σ.c 32 = 0 ∧ σ.c 21 = k ∧ σ.s 4 = iv k) (fun σ => cnt n (σ.s 4)) ?_ ?_
    · exact ⟨0, by omega, h0, ⟨[11, 0], ⟨11, 0, rfl, .inl rfl⟩, h3, by simpa [lentF, hdsL] using m11⟩, fun i p h => by simp [lentF] at h, k32, k21, h4⟩
    clear h0 h3 m11 k21 k32 h4 σ
    rintro σ hw ⟨k, hk, h0, ⟨ot, hot, h3, mt⟩, hls, k32, k21, h4⟩
    refine wwp_seq_assoc ?_
    by_cases hlt : k < n
    · have hlL : k < Ls.length := by omega
      have hw1 := wrap_succ (show k ≤ 1000000000 by omega)
      have hmu : cnt n (σ.s 4) = n - k := by simp [h4]
      simp only [hmu]
      clear hmu
      have hcl := lists_at hlL
      have e42 := h42 k hlL
      have htk : lentF M (Ls.take (k + 1)) = lentF M (Ls.take k) ++ [(Ls[k] ++ M, Ls[k].length)] := by unfold lentF; rw [List.take_succ_eq_append_getElem hlL, List.map_append]; rfl
      obtain ⟨L, hL⟩ : ∃ L, L = Ls[k] := ⟨_, rfl⟩
      rw [← hL] at hcl e42 htk
      have hAl : (lentF M (Ls.take k)).length = k := by rw [lentF_len, List.length_take]; omega
      obtain ⟨A, hA⟩ : ∃ A, A = lentF M (Ls.take k) := ⟨_, rfl⟩
      rw [← hA] at hAl htk mt hls
      have hlz : (k : Int) < n := by omega
      refine wwp_on (fun σ => WF σ ∧ σ.s 0 = .list (lists Ls) ∧ (σ.s 3 = .sl ot 1 0 k none ∧ σ.m ot = some (.row [11, 0] 34 (hdsL (lT n) 0 A))) ∧ LsL (lT n) (lG n) σ.m 0 A ∧ σ.c 32 = 0 ∧ σ.c 21 = k ∧ σ.s 4 = iv k) (by simp [h0, h3, mt, k32, k21, h4, ← hn, hlt, hlz]; exact ⟨hw, hls⟩) ?_
      clear hw h0 h3 mt hls k32 k21 h4 σ
      rintro σ ⟨hw, h0, ⟨h3, mt⟩, hls, k32, k21, h4⟩
      refine wwp_body (fun σ => σ.s 0 = .list (lists Ls) ∧ (∃ ot, oK ot ∧ σ.s 3 = .sl ot 1 0 (k + 1) none ∧ σ.m ot = some (.row [11, 0] 34 (hdsL (lT n) 0 (lentF M (Ls.take (k + 1)))))) ∧ LsL (lT n) (lG n) σ.m 0 (lentF M (Ls.take (k + 1))) ∧ σ.c 32 = 0 ∧ σ.c 21 = k + 1 ∧ σ.s 4 = iv k) ?_ ?_
      · have hmm : k + 1 ≤ maxMade := maxMade_le (by omega)
        have hfl := hdsL_len (lT n) A 0
        rw [hAl] at hfl
        obtain ⟨a, v, rfl, ha⟩ := hot
        have n22 : ¬ a = 22 := by omega
        have n25 : ¬ a = 25 := by omega
        have tk : (hdsL (lT n) 0 A).take k = hdsL (lT n) 0 A := List.take_of_length_le (by omega)
        have hcl' : (lists Ls)[k]? = some [D.list (ints L)] := hcl
        rw [htk, hdsL_snoc, hAl, Nat.zero_add, lT_lt hlt]
        have oa := fun i (hi : i < A.length) es (h : σ.m (lT n (0 + i)) = some (.row (lG n (0 + i)) 3 es)) => h
        have lsK : ∀ m' : Mem, (∀ u es, u < k → σ.m [22, u] = some (.row [22, u, 0] 3 es) → m' [22, u] = some (.row [22, u, 0] 3 es)) → LsL (lT n) (lG n) m' 0 A := fun m' H => hls.old fun i hi es h => by
          rw [hAl] at hi
          rw [Nat.zero_add, lT_lt (by omega), lG_lt (by omega)] at h ⊢
          exact H i es hi h
        obtain ⟨X, hX⟩ : ∃ X, X = hdsL (lT n) 0 A := ⟨_, rfl⟩
        have hXf : (∃ c, c ∈ X ∧ ¬ c.length = 1) = False := by rw [hX]; exact hdsL_ex _ _ _
        rw [← hX] at mt hfl tk ⊢
        simp [h0, h3, mt, k32, k21, h4, hlL, ← hn, hlt, hcl, ← hL, e42, hmm, hfl, tk, one_made, n22, n25]
        refine ⟨⟨[26, σ.c 25], ⟨⟨26, σ.c 25, rfl, .inr (.inl rfl)⟩, by simp⟩⟩, (lsK _ fun u es hu h => by
          have : ¬ u = k := by omega
          simp [h, this, k21]).snoc ?_⟩
        rw [hAl, Nat.zero_add, lT_lt hlt, lG_lt hlt]
        simp [k21]
      · clear hw h0 h3 mt hls k32 k21 h4 σ
        rintro σ ⟨h0, ⟨ot, hot, h3, mt⟩, hls, k32, k21, h4⟩
        simp [h0, h3, k32, k21, h4, hw1]
        exact ⟨⟨k + 1, by omega, ⟨ot, hot, ⟨rfl, rfl⟩, mt⟩, hls, rfl, rfl⟩, by omega⟩
    · obtain rfl : k = n := by omega
      rw [show Ls.take k = Ls by rw [hn]; exact List.take_length] at mt hls
      refine wwp_off ?_
      simp [h0, h3, k32, h4, ← hn]
      exact ⟨⟨ot, hot, rfl, mt⟩, hls⟩
  clear h0 h3 m11 k21 k32 σ
  rintro σ ⟨h0, ⟨ot, hot, h3, mt⟩, hls, k32⟩
  refine wwp_cutG (fun σ => σ.s 0 = .list (lists Ls) ∧ (∃ ot, oK ot ∧ σ.s 3 = .sl ot 1 0 (n + 12) none ∧ σ.m ot = some (.row [11, 0] 34 (hdsL (lT n) 0 (lentF M Ls ++ lentE mk 12)))) ∧ LsL (lT n) (lG n) σ.m 0 (lentF M Ls ++ lentE mk 12)) ?_ ?_
  · refine wwp_cut (fun σ => σ.s 0 = .list (lists Ls) ∧ (σ.s 3 = .sl ot 1 0 n none ∧ σ.m ot = some (.row [11, 0] 34 (hdsL (lT n) 0 (lentF M Ls)))) ∧ LsL (lT n) (lG n) σ.m 0 (lentF M Ls) ∧ σ.c 32 = 0 ∧ σ.s 6 = iv 0) (by simp [h0, h3, mt, k32]; exact hls) ?_
    clear h0 h3 mt hls k32 σ
    rintro σ ⟨h0, ⟨h3, mt⟩, hls, k32, h6⟩
    simp only [wwp_block]
    refine wwp_loop (fun σ => ∃ k : Nat, k ≤ 12 ∧ σ.s 0 = .list (lists Ls) ∧ (∃ ot, oK ot ∧ σ.s 3 = .sl ot 1 0 (n + k) none ∧ σ.m ot = some (.row [11, 0] 34 (hdsL (lT n) 0 (lentF M Ls ++ lentE mk k)))) ∧ LsL (lT n) (lG n) σ.m 0 (lentF M Ls ++ lentE mk k) ∧ σ.c 32 = k ∧ σ.s 6 = iv k) (fun σ => cnt 12 (σ.s 6)) ?_ ?_
    · exact ⟨0, by omega, h0, ⟨ot, hot, h3, by simpa [lentE] using mt⟩, by simpa [lentE] using hls, k32, h6⟩
    clear h0 h3 mt hls k32 h6 hot ot σ
    rintro σ hw ⟨k, hk, h0, ⟨ot, hot, h3, mt⟩, hls, k32, h6⟩
    refine wwp_seq_assoc ?_
    by_cases hlt : k < 12
    · have hw1 := wrap_succ (show k ≤ 1000000000 by omega)
      have hmu : cnt 12 (σ.s 6) = 12 - k := by simp [h6]
      simp only [hmu]
      clear hmu
      have e59 := h59 k hlt
      have htk : lentF M Ls ++ lentE mk (k + 1) = (lentF M Ls ++ lentE mk k) ++ [([mk k], 1)] := by rw [lentE_succ, List.append_assoc]
      have hAl : (lentF M Ls ++ lentE mk k).length = n + k := by rw [List.length_append, lentF_len, lentE_len]; omega
      obtain ⟨A, hA⟩ : ∃ A, A = lentF M Ls ++ lentE mk k := ⟨_, rfl⟩
      rw [← hA] at hAl htk mt hls
      have hlz : (k : Int) < 12 := by omega
      refine wwp_on (fun σ => WF σ ∧ σ.s 0 = .list (lists Ls) ∧ (σ.s 3 = .sl ot 1 0 (n + k) none ∧ σ.m ot = some (.row [11, 0] 34 (hdsL (lT n) 0 A))) ∧ LsL (lT n) (lG n) σ.m 0 A ∧ σ.c 32 = k ∧ σ.s 6 = iv k) (by simp [h0, h3, mt, k32, h6, hlt, hlz]; exact ⟨hw, hls⟩) ?_
      clear hw h0 h3 mt hls k32 h6 σ
      rintro σ ⟨hw, h0, ⟨h3, mt⟩, hls, k32, h6⟩
      refine wwp_body (fun σ => σ.s 0 = .list (lists Ls) ∧ (∃ ot, oK ot ∧ σ.s 3 = .sl ot 1 0 (n + (k + 1)) none ∧ σ.m ot = some (.row [11, 0] 34 (hdsL (lT n) 0 (lentF M Ls ++ lentE mk (k + 1))))) ∧ LsL (lT n) (lG n) σ.m 0 (lentF M Ls ++ lentE mk (k + 1)) ∧ σ.c 32 = k + 1 ∧ σ.s 6 = iv k) ?_ ?_
      · have hmm : n + k + 1 ≤ maxMade := maxMade_le (by omega)
        have hfl := hdsL_len (lT n) A 0
        rw [hAl] at hfl
        obtain ⟨a, v, rfl, ha⟩ := hot
        have n33 : ¬ a = 33 := by omega
        have n34 : ¬ a = 34 := by omega
        have tk : (hdsL (lT n) 0 A).take (n + k) = hdsL (lT n) 0 A := List.take_of_length_le (by omega)
        have eT : lT n (n + k) = [33, k] := by rw [lT_ge (by omega)]; congr 2; omega
        have eG : lG n (n + k) = [33, k, 0] := by rw [lG_ge (by omega)]; congr 2; omega
        rw [htk, hdsL_snoc, hAl, Nat.zero_add, eT]
        have lsK : ∀ m' : Mem, (∀ u es, σ.m [22, u] = some (.row [22, u, 0] 3 es) → m' [22, u] = some (.row [22, u, 0] 3 es)) → (∀ u es, u < k → σ.m [33, u] = some (.row [33, u, 0] 3 es) → m' [33, u] = some (.row [33, u, 0] 3 es)) → LsL (lT n) (lG n) m' 0 A := fun m' H1 H2 => hls.old fun i hi es h => by
          rw [hAl] at hi
          rw [Nat.zero_add] at h ⊢
          by_cases hin : i < n
          · rw [lT_lt hin, lG_lt hin] at h ⊢
            exact H1 i es h
          · rw [lT_ge (by omega), lG_ge (by omega)] at h ⊢
            exact H2 (i - n) es (by omega) h
        obtain ⟨X, hX⟩ : ∃ X, X = hdsL (lT n) 0 A := ⟨_, rfl⟩
        rw [← hX] at mt hfl tk ⊢
        simp [h0, h3, mt, k32, h6, hlt, hlz, e59, hmm, hfl, tk, one_made, n33, n34]
        refine ⟨⟨[35, σ.c 34], ⟨⟨35, σ.c 34, rfl, .inr (.inr rfl)⟩, ⟨rfl, by omega⟩, by simp⟩⟩, (lsK _ (fun u es h => by simp [h]) fun u es hu h => by
          have : ¬ u = k := by omega
          simp [h, this, k32]).snoc ?_⟩
        rw [hAl, Nat.zero_add, eT, eG]
        simp [k32]
      · clear hw h0 h3 mt hls k32 h6 hot ot σ
        rintro σ ⟨h0, ⟨ot, hot, h3, mt⟩, hls, k32, h6⟩
        simp [h0, h3, k32, h6, hw1]
        exact ⟨⟨k + 1, by omega, ⟨ot, hot, ⟨rfl, rfl⟩, mt⟩, hls, rfl, by simp⟩, by omega⟩
    · obtain rfl : k = 12 := by omega
      refine wwp_off ?_
      simp [h0, h3, h6]
      exact ⟨⟨ot, hot, rfl, mt⟩, hls⟩
  · clear h0 h3 mt hls k32 hot ot σ
    rintro σ ⟨h0, ⟨ot, hot, h3, mt⟩, hls⟩
    have lz1 : (n : Int) ≤ (n : Int) + 12 := by omega
    simp [h0, h3, lz1, ← hn]
    refine Out.lent (g := [11, 0]) (tk := lT n) (gr := lG n) (by simpa using mt) (by simpa [LsL] using hls) (fun k e => ?_) (lT_inj n) (fun k e => ?_) (lG_inj n)
    · unfold lT at e; split at e
      · exact hot.ne (by omega) e.symm
      · exact hot.ne (by omega) e.symm
    · unfold lG at e; split at e <;> simp at e
def S59 : List D → Option (D × Mem)
  | [.v (.int .i64 1), .v (.int .i64 i)] => if 0 ≤ i ∧ i ≤ 1000000 then some (.sl [] 1 0 1 none, rowMem 3 (ints [markI 1 i])) else none
  | _ => none
theorem s59 : OkQ 59 S59 := fun ds d mm h => by
  unfold S59 at h
  split at h
  · split at h
    · rename_i i hc
      cases h
      obtain ⟨k, rfl⟩ : ∃ k : Nat, i = k := ⟨i.toNat, by omega⟩
      exact c59 k (by omega)
    · cases h
  · cases h
theorem S59_at (i : Nat) (h : i ≤ 1000000) : S59 [iv 1, iv i] = some (.sl [] 1 0 1 none, rowMem 3 (ints [markI 1 i])) := by
  simp only [S59]
  rw [if_pos ⟨by omega, by omega⟩]
def lentL (Ls : List (List Int)) : List (List Int × Nat) := lentF (marksI 12) Ls ++ lentE (fun i => markI 1 i) 12
theorem c34 (Ls : List (List Int)) (hl : Ls.length ≤ 1000) (hL : ∀ L ∈ Ls, L.length ≤ 100000) : VCq Try.prog 34 [.list (lists Ls)] (.sl [] 1 0 Ls.length none) (lentMem (lentL Ls)) :=
  wcontract_q (Γ := mkEnv [] [(42, S42), (59, S59)] []) (sound_mk (by simp) (by simp [s42, s59]) (by simp)) mixed is34 (by rw [nt34]; simp) (c34w S42 S59 (fun i => markI 1 i) (marksI 12) Ls hl (fun k h => S42_at _ (hL _ (List.getElem_mem h))) (fun i hi => S59_at i (by omega)))
end Go.Proofs.Ytpmgaaalfdjikaa
namespace Go.Proofs.Ytpmgaaalfdjikaa
open Go.RowKit
set_option linter.unusedSimpArgs false
set_option linter.unusedVariables false

def W50 : WC × List VRes := ((.seq (.reg [(.set [(4, (.c (.v (.bool false))))] [4])]) (.seq (.seq (.reg [(.set [(11, (.ap (.ibin .neq) [(.ap .llen [(.t 0)]), (.ap .llen [(.t 1)])]))] [7, 8, 9, 10, 11])]) (.cond (.t 11) (.seq (.reg [(.set [(4, (.c (.v (.bool false))))] [4])]) .ret) .skip)) (.seq (.reg [(.set [(5, (.ap (.slc 1 false true false) [(.t 0), (.ap (.ibin .add) [(.ap .llen [(.t 1)]), (.c (.v (.int .i64 12)))])]))] [12, 13, 14, 15, 16, 5])]) (.seq (.seq (.reg [(.set [(6, (.c (.v (.int .i64 0))))] [6])]) (.block 0 (.loop (.seq (.seq (.reg [(.set [(20, (.ap (.ibin .lss) [(.t 6), (.ap .llen [(.t 5)])]))] [17, 18, 19, 20])]) (.cond (.t 20) .skip (.exit 0))) (.seq (.block 1 (.seq (.reg [(.set [(57, (.ite (.ite (.ap (.ibin .lss) [(.t 6), (.ap .llen [(.t 1)])]) (.ap .inot [(.ap (.ibin .eql) [(.ap (.load 1 false) [(.ap (.idx 3 1) [(.t 5), (.t 6)])]), (.ap (.load 1 false) [(.ap (.idx 3 1) [(.t 1), (.t 6)])])])]) (.c (.v (.bool false)))) (.c (.v (.bool true))) (.ite (.ap (.ibin .geq) [(.t 6), (.ap .llen [(.t 1)])]) (.ap .inot [(.ap (.ibin .eql) [(.ap (.load 1 false) [(.ap (.idx 3 1) [(.t 5), (.t 6)])]), (.ap (.call 64) [(.c (.v (.int .i64 1))), (.ap (.ibin .sub) [(.t 6), (.ap .llen [(.t 1)])])])])]) (.c (.v (.bool false))))))] [23, 24, 25, 26, 27, 28, 29, 30, 31, 32, 33, 34, 35, 36, 37, 38, 39, 40, 41, 42, 43, 44, 45, 46, 47, 48, 49, 50, 51, 52, 53, 54, 55, 56, 57])]) (.cond (.t 57) (.seq (.reg [(.set [(4, (.c (.v (.bool false))))] [4])]) .ret) .skip))) (.reg [(.set [(6, (.ap (.ibin .add) [(.t 6), (.c (.v (.int .i64 1)))]))] [21, 22, 6])])))))) (.seq (.reg [(.set [(4, (.c (.v (.bool true))))] [4])]) .ret))))), [(.t 4)])
theorem is50 : IsFn Try.prog frOf 50 Try.f50 W50 := ⟨by kernel_rfl, by kernel_rfl, by kernel_rfl⟩
theorem nt50 : Try.f50.ntmps = 58 := by kernel_rfl
def W61 : WC × List VRes := ((.seq (.reg [(.set [(4, (.c (.v (.bool false))))] [4])]) (.seq (.seq (.reg [(.set [(11, (.ap (.ibin .neq) [(.ap .llen [(.t 0)]), (.ap .llen [(.t 1)])]))] [7, 8, 9, 10, 11])]) (.cond (.t 11) (.seq (.reg [(.set [(4, (.c (.v (.bool false))))] [4])]) .ret) .skip)) (.seq (.reg [(.set [(5, (.ap (.slc 5 false true false) [(.t 0), (.ap (.ibin .add) [(.ap .llen [(.t 1)]), (.c (.v (.int .i64 12)))])]))] [12, 13, 14, 15, 16, 5])]) (.seq (.seq (.reg [(.set [(6, (.c (.v (.int .i64 0))))] [6])]) (.block 0 (.loop (.seq (.seq (.reg [(.set [(20, (.ap (.ibin .lss) [(.t 6), (.ap .llen [(.t 5)])]))] [17, 18, 19, 20])]) (.cond (.t 20) .skip (.exit 0))) (.seq (.block 1 (.seq (.reg [(.set [(57, (.ite (.ite (.ap (.ibin .lss) [(.t 6), (.ap .llen [(.t 1)])]) (.ap .inot [(.ap (.aeq false [3, 3, 3, 3, 3]) [(.ap (.load 5 true) [(.ap (.idx 53 5) [(.t 5), (.t 6)])]), (.ap (.load 5 true) [(.ap (.idx 53 5) [(.t 1), (.t 6)])])])]) (.c (.v (.bool false)))) (.c (.v (.bool true))) (.ite (.ap (.ibin .geq) [(.t 6), (.ap .llen [(.t 1)])]) (.ap .inot [(.ap (.aeq false [3, 3, 3, 3, 3]) [(.ap (.load 5 true) [(.ap (.idx 53 5) [(.t 5), (.t 6)])]), (.ap (.call 73) [(.c (.v (.int .i64 1))), (.ap (.ibin .sub) [(.t 6), (.ap .llen [(.t 1)])])])])]) (.c (.v (.bool false))))))] [23, 24, 25, 26, 27, 28, 29, 30, 31, 32, 33, 34, 35, 36, 37, 38, 39, 40, 41, 42, 43, 44, 45, 46, 47, 48, 49, 50, 51, 52, 53, 54, 55, 56, 57])]) (.cond (.t 57) (.seq (.reg [(.set [(4, (.c (.v (.bool false))))] [4])]) .ret) .skip))) (.reg [(.set [(6, (.ap (.ibin .add) [(.t 6), (.c (.v (.int .i64 1)))]))] [21, 22, 6])])))))) (.seq (.reg [(.set [(4, (.c (.v (.bool true))))] [4])]) .ret))))), [(.t 4)])
theorem is61 : IsFn Try.prog frOf 61 Try.f61 W61 := ⟨by kernel_rfl, by kernel_rfl, by kernel_rfl⟩
theorem nt61 : Try.f61.ntmps = 58 := by kernel_rfl


abbrev FM := Mem → List D → Option (D × Mem)
theorem D.renC_renC (f g : Tok → Tok) (d : D) : (d.renC f).renC g = d.renC fun t => g (f t) := by cases d <;> rfl
theorem D.renA_renA (f g : Tok → Tok) (d : D) : (d.renA f).renA g = d.renA fun t => g (f t) := by
  cases d
  case agg xs => simp only [D.renA, List.map_map]; congr 2; funext d; exact D.renC_renC f g d
  case clo h xs => simp only [D.renA, List.map_map]; congr 2; funext d; exact D.renC_renC f g d
  all_goals rfl
theorem HO.ren_ren (f g : Tok → Tok) (o : HO) : (o.ren f).ren g = o.ren fun t => g (f t) := by
  cases o with
  | box xs => simp only [HO.ren, List.map_map]; congr 2; funext d; exact D.renC_renC f g d
  | row u e es =>
    simp only [HO.ren, List.map_map]
    congr 2
    funext c
    simp only [Function.comp_def, List.map_map]
    congr 1
    funext d
    exact D.renC_renC f g d
  | map es =>
    simp only [HO.ren, List.map_map]
    congr 2
    funext p
    simp only [Function.comp_def, D.renA_renA]
  | iter t n seen => rfl
theorem upM_up (m : Mem) (t : Tok) : upM m (0 :: t) = (m t).map (HO.ren up) := rfl
theorem upM_dom {m : Mem} {t : Tok} {o : HO} (h : upM m t = some o) : ∃ r q, t = 0 :: r ∧ m r = some q ∧ o = q.ren up := by
  match t, h with
  | [], h => cases h
  | 0 :: r, h => obtain ⟨q, hq, rfl⟩ := Option.map_eq_some_iff.1 h; exact ⟨r, q, rfl, hq, rfl⟩
  | (_ + 1) :: _, h => cases h
/-- A call that changes nothing of the memory that it is handed leaves it as it was. -/
theorem adoptM_keep {σ : St} (W : WF σ) {t : Tok} {o : HO} (h : σ.m t = some o) (x : Nat) (d : D) : (σ.adoptM x d (upM σ.m)).m t = some (o.ren fun t => t) := by
  have e1 : ((upM σ.m (0 :: t)).map (HO.ren (dnTok x (σ.c x)))) = some (o.ren fun t => t) := by
    rw [upM_up, h, Option.map_some, Option.map_some, HO.ren_ren]
    rfl
  have e2 : keepOld (σ.m t) ((upM σ.m (0 :: t)).map (HO.ren (dnTok x (σ.c x)))) = some (o.ren fun t => t) := by rw [e1, h]; rfl
  match t, h, e2 with
  | [], _, e2 => exact e2
  | [_], _, e2 => exact e2
  | a :: b :: r, h, e2 =>
    show (if a = x + 1 ∧ b = σ.c x then _ else _) = _
    by_cases hab : a = x + 1 ∧ b = σ.c x
    · obtain ⟨rfl, rfl⟩ := hab
      rw [W x (σ.c x) r (Nat.le_refl _)] at h
      cases h
    · rw [if_neg hab]; exact e2
theorem keepM_adoptM {σ : St} (W : WF σ) {m : Mem} (h : ∀ t o, upM m t = some o → σ.m t = some o) (x : Nat) (d : D) : ∀ t o, upM m t = some o → (σ.adoptM x d (upM σ.m)).m t = some o := fun t o ho => by
  have := adoptM_keep W (h t o ho) x d
  obtain ⟨r, q, rfl, hq, rfl⟩ := upM_dom ho
  rw [this, HO.ren_ren]
def KpR (m : Mem) (t : Tok) (L : List Row) (σ : St) : Prop := σ.s 0 = .sl (0 :: t) 5 0 L.length none ∧ σ.s 1 = .list (rowsL L) ∧ σ.m = upM m
theorem c61w (p73 : FP) (mk : Nat → Row) (m : Mem) (t g : Tok) (L E : List Row) (hm : m t = some (.row g 53 (rowsL (L ++ E)))) (hE : E.length = 12) (hEk : ∀ i (h : i < E.length), E[i] = mk i)
    (h73 : ∀ i : Nat, i < 12 → p73 [iv 1, iv i] = some (.agg (mk i).cells)) (hl : L.length ≤ 100000) :
    wwp (mkEnv [(73, p73)] [] []) W61.1 (fun e s => okExit e ∧ resV W61.2 s = some (bv true) ∧ s.m = upM m) (initM m [.sl t 5 0 L.length none, .list (rowsL L)]) := by
  obtain ⟨n, hn⟩ : ∃ n, n = L.length := ⟨_, rfl⟩
  have hmu : upM m (0 :: t) = some (.row (0 :: g) 53 (rowsL (L ++ E))) := by rw [upM_up, hm]; simp
  have hlen : (rowsL (L ++ E)).length = n + 12 := by simp [hE, hn]
  have hat : ∀ i (h : i < (L ++ E).length), (rowsL (L ++ E))[i]? = some (L ++ E)[i].cells := fun i h => rowsL_at h
  obtain ⟨X, hX⟩ : ∃ X, X = rowsL (L ++ E) := ⟨_, rfl⟩
  have hXs : X.all (fun c => c.length == 5) = true := by rw [hX]; exact rowsL_size _
  rw [← hX] at hmu hlen hat
  have w1 : IntKind.i64.wrap ((n : Int) + 12) = (n : Int) + 12 := wrap_in (by omega) (by omega)
  simp only [W61]
  refine wwp_cut (KpR m t L) (by simp [KpR]; rfl) ?_
  rintro σ ⟨h0, h1, hM⟩
  have hmt : σ.m (0 :: t) = some (.row (0 :: g) 53 X) := by rw [hM]; exact hmu
  rw [← hn] at h0
  refine wwp_cutG (KpR m t L) (by simp [KpR, h0, h1, hM, ← hn]) ?_
  clear h0 h1 hM hmt σ
  rintro σ ⟨h0, h1, hM⟩
  have hmt : σ.m (0 :: t) = some (.row (0 :: g) 53 X) := by rw [hM]; exact hmu
  rw [← hn] at h0
  have z1 : ((n : Int) + 12).toNat = n + 12 := by omega
  have z2 : (0 : Int) ≤ (n : Int) + 12 := by omega
  have z3 : ¬ (n : Int) + 12 ≤ n := by omega
  refine wwp_cut (fun σ => KpR m t L σ ∧ σ.s 5 = .sl (0 :: t) 5 0 (n + 12) none) (by simp [KpR, h0, h1, hmt, ← hn, w1, z1, z2, z3, roomV, hlen]; exact hM) ?_
  clear h0 h1 hM hmt σ
  rintro σ ⟨hK, h5⟩
  refine wwp_cutG (fun σ => σ.m = upM m) ?_ (fun σ h => by simp [h])
  refine wwp_cut (fun σ => KpR m t L σ ∧ σ.s 5 = .sl (0 :: t) 5 0 (n + 12) none ∧ σ.s 6 = iv 0) (by obtain ⟨h0, h1, hM⟩ := hK; simp [KpR, h0, h1, hM, h5]) ?_
  clear hK h5 σ
  rintro σ ⟨hK, h5, h6⟩
  simp only [wwp_block]
  refine wwp_loop (fun σ => ∃ k : Nat, k ≤ n + 12 ∧ KpR m t L σ ∧ σ.s 5 = .sl (0 :: t) 5 0 (n + 12) none ∧ σ.s 6 = iv k) (fun σ => cnt (n + 12) (σ.s 6)) ?_ ?_
  · exact ⟨0, by omega, hK, h5, h6⟩
  clear hK h5 h6 σ
  rintro σ hw ⟨k, hk, ⟨h0, h1, hM⟩, h5, h6⟩
  have hmt : σ.m (0 :: t) = some (.row (0 :: g) 53 X) := by rw [hM]; exact hmu
  rw [← hn] at h0
  refine wwp_seq_assoc ?_
  by_cases hlt : k < n + 12
  · have hw1 := wrap_succ (show k ≤ 1000000000 by omega)
    have hmuc : cnt (n + 12) (σ.s 6) = n + 12 - k := by simp [h6]
    simp only [hmuc]
    clear hmuc
    have hlz : (k : Int) < (n : Int) + 12 := by omega
    refine wwp_on (fun σ => KpR m t L σ ∧ σ.s 5 = .sl (0 :: t) 5 0 (n + 12) none ∧ σ.s 6 = iv k) (by simp [KpR, h0, h1, hM, h5, h6, ← hn, hlt, hlz]) ?_
    clear hw h0 h1 hM hmt h5 h6 σ
    rintro σ ⟨⟨h0, h1, hM⟩, h5, h6⟩
    have hmt : σ.m (0 :: t) = some (.row (0 :: g) 53 X) := by rw [hM]; exact hmu
    rw [← hn] at h0
    have hk2 : k < (L ++ E).length := by rw [List.length_append]; omega
    have hxk := hat k hk2
    have hkX : k < X.length := by omega
    refine wwp_body (fun σ => KpR m t L σ ∧ σ.s 5 = .sl (0 :: t) 5 0 (n + 12) none ∧ σ.s 6 = iv k) ?_ ?_
    · by_cases hkn : k < n
      · have hkL : k < L.length := by omega
        rw [List.getElem_append_left hkL] at hxk
        have hyk := rowsL_at hkL
        obtain ⟨x, hx⟩ : ∃ x, x = L[k] := ⟨_, rfl⟩
        rw [← hx] at hxk hyk
        have a1 : (k : Int) < n := by omega
        have a2 : ¬ (n : Int) ≤ k := by omega
        simp [KpR, h0, h1, hmt, h5, h6, ← hn, hkn, hkL, hlt, hxk, hyk, a1, a2, Row.cells, ← hx]
        exact hM
      · obtain ⟨i, hi⟩ : ∃ i, k = n + i := ⟨k - n, by omega⟩
        rw [List.getElem_append_right (by omega)] at hxk
        have hxk' : X[k]? = some (mk i).cells := by
          rw [hxk, hEk, show k - L.length = i by omega]
        have e73 := h73 i (by omega)
        have a1 : ¬ (k : Int) < n := by omega
        have a2 : (n : Int) ≤ (k : Int) := by omega
        have a3 : IntKind.i64.wrap ((k : Int) - n) = i := by rw [wrap_in (by omega) (by omega)]; omega
        have a4 : n ≤ k := by omega
        clear hxk
        obtain ⟨x, hx⟩ : ∃ x, x = mk i := ⟨_, rfl⟩
        rw [← hx] at hxk' e73
        simp [KpR, h0, h1, hmt, h5, h6, ← hn, hlt, hxk', hkn, a1, a2, a3, a4, e73, Row.cells]
        exact hM
    · clear h0 h1 hM hmt h5 h6 σ
      rintro σ ⟨⟨h0, h1, hM⟩, h5, h6⟩
      simp [KpR, h0, h1, hM, h5, h6, hw1]
      exact ⟨⟨k + 1, by omega, rfl⟩, by omega⟩
  · refine wwp_off ?_
    have hlz : ¬ (k : Int) < (n : Int) + 12 := by omega
    simp [h0, h1, hM, h5, h6, hlt, hlz]
def KpI (m : Mem) (t : Tok) (L : List Int) (σ : St) : Prop := σ.s 0 = .sl (0 :: t) 1 0 L.length none ∧ σ.s 1 = .list (ints L) ∧ σ.m = upM m
theorem c50w (p64 : FP) (mk : Nat → Int) (m : Mem) (t g : Tok) (L E : List Int) (hm : m t = some (.row g 3 (ints (L ++ E)))) (hE : E.length = 12) (hEk : ∀ i (h : i < E.length), E[i] = mk i)
    (h64 : ∀ i : Nat, i < 12 → p64 [iv 1, iv i] = some (iv (mk i))) (hl : L.length ≤ 100000) :
    wwp (mkEnv [(64, p64)] [] []) W50.1 (fun e s => okExit e ∧ resV W50.2 s = some (bv true) ∧ s.m = upM m) (initM m [.sl t 1 0 L.length none, .list (ints L)]) := by
  obtain ⟨n, hn⟩ : ∃ n, n = L.length := ⟨_, rfl⟩
  have hmu : upM m (0 :: t) = some (.row (0 :: g) 3 (ints (L ++ E))) := by rw [upM_up, hm]; simp
  have hlen : (ints (L ++ E)).length = n + 12 := by simp [hE, hn]
  have hat : ∀ i (h : i < (L ++ E).length), (ints (L ++ E))[i]? = some [iv (L ++ E)[i]] := fun i h => ints_at h
  obtain ⟨X, hX⟩ : ∃ X, X = ints (L ++ E) := ⟨_, rfl⟩
  have hXs : X.all (fun c => c.length == 1) = true := by rw [hX]; exact ints_size _
  rw [← hX] at hmu hlen hat
  have w1 : IntKind.i64.wrap ((n : Int) + 12) = (n : Int) + 12 := wrap_in (by omega) (by omega)
  simp only [W50]
  refine wwp_cut (KpI m t L) (by simp [KpI]; rfl) ?_
  rintro σ ⟨h0, h1, hM⟩
  have hmt : σ.m (0 :: t) = some (.row (0 :: g) 3 X) := by rw [hM]; exact hmu
  rw [← hn] at h0
  refine wwp_cutG (KpI m t L) (by simp [KpI, h0, h1, hM, ← hn]) ?_
  clear h0 h1 hM hmt σ
  rintro σ ⟨h0, h1, hM⟩
  have hmt : σ.m (0 :: t) = some (.row (0 :: g) 3 X) := by rw [hM]; exact hmu
  rw [← hn] at h0
  have z1 : ((n : Int) + 12).toNat = n + 12 := by omega
  have z2 : (0 : Int) ≤ (n : Int) + 12 := by omega
  have z3 : ¬ (n : Int) + 12 ≤ n := by omega
  refine wwp_cut (fun σ => KpI m t L σ ∧ σ.s 5 = .sl (0 :: t) 1 0 (n + 12) none) (by simp [KpI, h0, h1, hmt, ← hn, w1, z1, z2, z3, roomV, hlen]; exact hM) ?_
  clear h0 h1 hM hmt σ
  rintro σ ⟨hK, h5⟩
  refine wwp_cutG (fun σ => σ.m = upM m) ?_ (fun σ h => by simp [h])
  refine wwp_cut (fun σ => KpI m t L σ ∧ σ.s 5 = .sl (0 :: t) 1 0 (n + 12) none ∧ σ.s 6 = iv 0) (by obtain ⟨h0, h1, hM⟩ := hK; simp [KpI, h0, h1, hM, h5]) ?_
  clear hK h5 σ
  rintro σ ⟨hK, h5, h6⟩
  simp only [wwp_block]
  refine wwp_loop (fun σ => ∃ k : Nat, k ≤ n + 12 ∧ KpI m t L σ ∧ σ.s 5 = .sl (0 :: t) 1 0 (n + 12) none ∧ σ.s 6 = iv k) (fun σ => cnt (n + 12) (σ.s 6)) ?_ ?_
  · exact ⟨0, by omega, hK, h5, h6⟩
  clear hK h5 h6 σ
  rintro σ hw ⟨k, hk, ⟨h0, h1, hM⟩, h5, h6⟩
  have hmt : σ.m (0 :: t) = some (.row (0 :: g) 3 X) := by rw [hM]; exact hmu
  rw [← hn] at h0
  refine wwp_seq_assoc ?_
  by_cases hlt : k < n + 12
  · have hw1 := wrap_succ (show k ≤ 1000000000 by omega)
    have hmuc : cnt (n + 12) (σ.s 6) = n + 12 - k := by simp [h6]
    simp only [hmuc]
    clear hmuc
    have hlz : (k : Int) < (n : Int) + 12 := by omega
    refine wwp_on (fun σ => KpI m t L σ ∧ σ.s 5 = .sl (0 :: t) 1 0 (n + 12) none ∧ σ.s 6 = iv k) (by simp [KpI, h0, h1, hM, h5, h6, ← hn, hlt, hlz]) ?_
    clear hw h0 h1 hM hmt h5 h6 σ
    rintro σ ⟨⟨h0, h1, hM⟩, h5, h6⟩
    have hmt : σ.m (0 :: t) = some (.row (0 :: g) 3 X) := by rw [hM]; exact hmu
    rw [← hn] at h0
    have hk2 : k < (L ++ E).length := by rw [List.length_append]; omega
    have hxk := hat k hk2
    have hkX : k < X.length := by omega
    refine wwp_body (fun σ => KpI m t L σ ∧ σ.s 5 = .sl (0 :: t) 1 0 (n + 12) none ∧ σ.s 6 = iv k) ?_ ?_
    · by_cases hkn : k < n
      · have hkL : k < L.length := by omega
        rw [List.getElem_append_left hkL] at hxk
        have hyk := ints_at hkL
        obtain ⟨x, hx⟩ : ∃ x, x = L[k] := ⟨_, rfl⟩
        rw [← hx] at hxk hyk
        have a1 : (k : Int) < n := by omega
        have a2 : ¬ (n : Int) ≤ k := by omega
        simp [KpI, h0, h1, hmt, h5, h6, ← hn, hkn, hkL, hlt, hxk, hyk, a1, a2, ← hx]
        exact hM
      · obtain ⟨i, hi⟩ : ∃ i, k = n + i := ⟨k - n, by omega⟩
        rw [List.getElem_append_right (by omega)] at hxk
        have hxk' : X[k]? = some [iv (mk i)] := by
          rw [hxk, hEk, show k - L.length = i by omega]
        have e64 := h64 i (by omega)
        have a1 : ¬ (k : Int) < n := by omega
        have a2 : (n : Int) ≤ (k : Int) := by omega
        have a3 : IntKind.i64.wrap ((k : Int) - n) = i := by rw [wrap_in (by omega) (by omega)]; omega
        have a4 : n ≤ k := by omega
        clear hxk
        obtain ⟨x, hx⟩ : ∃ x, x = mk i := ⟨_, rfl⟩
        rw [← hx] at hxk' e64
        simp [KpI, h0, h1, hmt, h5, h6, ← hn, hlt, hxk', hkn, a1, a2, a3, a4, e64]
        exact hM
    · clear h0 h1 hM hmt h5 h6 σ
      rintro σ ⟨⟨h0, h1, hM⟩, h5, h6⟩
      simp [KpI, h0, h1, hM, h5, h6, hw1]
      exact ⟨⟨k + 1, by omega, rfl⟩, by omega⟩
  · refine wwp_off ?_
    have hlz : ¬ (k : Int) < (n : Int) + 12 := by omega
    simp [h0, h1, hM, h5, h6, hlt, hlz]
theorem c61 (m : Mem) (t g : Tok) (L : List Row) (hm : m t = some (.row g 53 (rowsL (L ++ marksR 12)))) (hl : L.length ≤ 100000) : VCm Try.prog 61 m [.sl t 5 0 L.length none, .list (rowsL L)] (bv true) (upM m) :=
  wcontract_m (Γ := mkEnv [(73, S73)] [] []) (sound_mk (by simp [s73]) (by simp) (by simp)) mixed is61 (by rw [nt61]; simp)
    (wwp_mono _ (c61w S73 (fun i => markRow i) m t g L (marksR 12) hm (marksR_len 12) (fun i h => by simp [marksR]) (fun i hi => S73_at i (by omega)) hl) fun e s h => ⟨h.1, h.2.1, fun t o ho => by rw [h.2.2]; exact ho⟩)
theorem c50 (m : Mem) (t g : Tok) (L : List Int) (hm : m t = some (.row g 3 (ints (L ++ marksI 12)))) (hl : L.length ≤ 100000) : VCm Try.prog 50 m [.sl t 1 0 L.length none, .list (ints L)] (bv true) (upM m) :=
  wcontract_m (Γ := mkEnv [(64, S64)] [] []) (sound_mk (by simp [s64]) (by simp) (by simp)) mixed is50 (by rw [nt50]; simp)
    (wwp_mono _ (c50w S64 (fun i => markI 1 i) m t g L (marksI 12) hm (marksI_len 12) (fun i h => by simp [marksI]) (fun i hi => S64_at i (by omega)) hl) fun e s h => ⟨h.1, h.2.1, fun t o ho => by rw [h.2.2]; exact ho⟩)
open Classical in
noncomputable def S61 : FM := fun m ds => match ds with
  | [.sl t 5 0 n none, .list es] => if ∃ g l, m t = some (.row g 53 (rowsL (l ++ marksR 12))) ∧ es = rowsL l ∧ n = l.length ∧ l.length ≤ 100000 then some (bv true, upM m) else none
  | _ => none
theorem s61 : OkM 61 S61 := fun m ds d m' h => by
  unfold S61 at h
  split at h
  · split at h
    · rename_i hc
      cases h
      obtain ⟨g, l, h1, rfl, rfl, h4⟩ := hc
      exact c61 m _ g l h1 h4
    · cases h
  · cases h
theorem S61_at {m : Mem} {t g : Tok} {L : List Row} (h : m t = some (.row g 53 (rowsL (L ++ marksR 12)))) (hl : L.length ≤ 100000) : S61 m [.sl t 5 0 L.length none, .list (rowsL L)] = some (bv true, upM m) := by
  simp only [S61]
  exact if_pos ⟨g, L, h, rfl, rfl, hl⟩
open Classical in
noncomputable def S50 : FM := fun m ds => match ds with
  | [.sl t 1 0 n none, .list es] => if ∃ g l, m t = some (.row g 3 (ints (l ++ marksI 12))) ∧ es = ints l ∧ n = l.length ∧ l.length ≤ 100000 then some (bv true, upM m) else none
  | _ => none
theorem s50 : OkM 50 S50 := fun m ds d m' h => by
  unfold S50 at h
  split at h
  · split at h
    · rename_i hc
      cases h
      obtain ⟨g, l, h1, rfl, rfl, h4⟩ := hc
      exact c50 m _ g l h1 h4
    · cases h
  · cases h
theorem S50_at {m : Mem} {t g : Tok} {L : List Int} (h : m t = some (.row g 3 (ints (L ++ marksI 12)))) (hl : L.length ≤ 100000) : S50 m [.sl t 1 0 L.length none, .list (ints L)] = some (bv true, upM m) := by
  simp only [S50]
  exact if_pos ⟨g, L, h, rfl, rfl, hl⟩
end Go.Proofs.Ytpmgaaalfdjikaa
namespace Go.Proofs.Ytpmgaaalfdjikaa
open Go.RowKit
set_option linter.unusedSimpArgs false
set_option linter.unusedVariables false

def W36 : WC × List VRes := ((.seq (.reg [(.stm (.eff (.box 2 (.t 0)) none)), (.stm (.eff (.box 3 (.t 1)) none)), (.set [(4, (.c (.v (.bool false))))] [4])]) (.seq (.reg [(.stm (.op 5 (.load 6 true) [(.t 2)] none)), (.stm (.op 6 (.load 6 true) [(.t 3)] none)), (.stm (.op 7 (.call 48) [(.t 5), (.t 6)] none)), (.stm (.op 8 .mv [(.t 7)] none)), (.stm (.op 9 (.fld 5) [(.t 2)] (some (8, true)))), (.stm (.op 10 (.load 1 false) [(.t 9)] (some (8, true)))), (.stm (.op 11 (.fld 5) [(.t 3)] (some (8, true)))), (.stm (.op 12 (.load 1 false) [(.t 11)] (some (8, true)))), (.stm (.eff (.callm 13 61 [(.t 10), (.t 12)]) (some (8, true)))), (.set [(4, (.ite (.t 8) (.t 13) (.c (.v (.bool false)))))] [14, 4])]) .ret)), [(.t 4)])
theorem is36 : IsFn Try.prog frOf 36 Try.f36 W36 := ⟨by kernel_rfl, by kernel_rfl, by kernel_rfl⟩
theorem nt36 : Try.f36.ntmps = 15 := by kernel_rfl
def W37 : WC × List VRes := ((.seq (.reg [(.set [(4, (.c (.v (.bool false))))] [4])]) (.seq (.seq (.reg [(.set [(11, (.ap (.ibin .neq) [(.ap .llen [(.t 0)]), (.ap .llen [(.t 1)])]))] [7, 8, 9, 10, 11])]) (.cond (.t 11) (.seq (.reg [(.set [(4, (.c (.v (.bool false))))] [4])]) .ret) .skip)) (.seq (.reg [(.set [(5, (.ap (.slc 1 false true false) [(.t 0), (.ap (.ibin .add) [(.ap .llen [(.t 1)]), (.c (.v (.int .i64 12)))])]))] [12, 13, 14, 15, 16, 5])]) (.seq (.seq (.reg [(.set [(6, (.c (.v (.int .i64 0))))] [6])]) (.block 0 (.loop (.seq (.seq (.reg [(.set [(20, (.ap (.ibin .lss) [(.t 6), (.ap .llen [(.t 5)])]))] [17, 18, 19, 20])]) (.cond (.t 20) .skip (.exit 0))) (.seq (.block 1 (.seq (.reg [(.stm (.op 23 .mv [(.t 6)] none)), (.stm (.op 24 .mv [(.t 1)] none)), (.stm (.op 25 .llen [(.t 24)] none)), (.stm (.op 26 (.ibin .lss) [(.t 23), (.t 25)] none)), (.stm (.op 27 .mv [(.t 26)] none)), (.stm (.op 28 .mv [(.t 5)] (some (27, true)))), (.stm (.op 29 .mv [(.t 6)] (some (27, true)))), (.stm (.op 30 (.idx 34 1) [(.t 28), (.t 29)] (some (27, true)))), (.stm (.op 31 (.load 1 false) [(.t 30)] (some (27, true)))), (.stm (.op 32 .mv [(.t 1)] (some (27, true)))), (.stm (.op 33 .mv [(.t 6)] (some (27, true)))), (.stm (.op 34 (.idx 34 1) [(.t 32), (.t 33)] (some (27, true)))), (.stm (.op 35 (.load 1 false) [(.t 34)] (some (27, true)))), (.stm (.eff (.callm 36 50 [(.t 31), (.t 35)]) (some (27, true)))), (.stm (.op 37 .inot [(.t 36)] (some (27, true)))), (.stm (.op 38 .pick [(.t 27), (.t 37), (.c (.v (.bool false)))] none)), (.stm (.op 39 .mv [(.t 38)] none)), (.stm (.op 40 .mv [(.t 6)] (some (39, false)))), (.stm (.op 41 .mv [(.t 1)] (some (39, false)))), (.stm (.op 42 .llen [(.t 41)] (some (39, false)))), (.stm (.op 43 (.ibin .geq) [(.t 40), (.t 42)] (some (39, false)))), (.stm (.op 44 .mv [(.t 43)] (some (39, false)))), (.stm (.op 45 .mv [(.t 5)] (some (44, true)))), (.stm (.op 46 .mv [(.t 6)] (some (44, true)))), (.stm (.op 47 (.idx 34 1) [(.t 45), (.t 46)] (some (44, true)))), (.stm (.op 48 (.load 1 false) [(.t 47)] (some (44, true)))), (.stm (.op 49 .mv [(.t 6)] (some (44, true)))), (.stm (.op 50 .mv [(.t 1)] (some (44, true)))), (.stm (.op 51 .llen [(.t 50)] (some (44, true)))), (.stm (.op 52 (.ibin .sub) [(.t 49), (.t 51)] (some (44, true)))), (.stm (.eff (.callq 53 59 [(.c (.v (.int .i64 1))), (.t 52)]) (some (44, true)))), (.stm (.op 54 (.call 38) [(.t 48), (.t 53)] (some (44, true)))), (.stm (.op 55 .inot [(.t 54)] (some (44, true)))), (.stm (.op 56 .pick [(.t 44), (.t 55), (.c (.v (.bool false)))] (some (39, false)))), (.stm (.op 57 .pick [(.t 39), (.c (.v (.bool true))), (.t 56)] none))]) (.cond (.t 57) (.seq (.reg [(.set [(4, (.c (.v (.bool false))))] [4])]) .ret) .skip))) (.reg [(.set [(6, (.ap (.ibin .add) [(.t 6), (.c (.v (.int .i64 1)))]))] [21, 22, 6])])))))) (.seq (.reg [(.set [(4, (.c (.v (.bool true))))] [4])]) .ret))))), [(.t 4)])
theorem is37 : IsFn Try.prog frB 37 Try.f37 W37 := ⟨by kernel_rfl, by kernel_rfl, by kernel_rfl⟩
theorem nt37 : Try.f37.ntmps = 58 := by kernel_rfl


theorem WF.of {σ σ' : St} (W : WF σ) (hm : σ'.m = σ.m) (hc : σ'.c = σ.c) : WF σ' := fun x k r hk => by rw [hm]; exact W x k r (by rw [← hc]; exact hk)
theorem wwp_cutN {Γ : Env} (k : Nat) {cs : List CStm} {b : WC} {Q : VE → St → Prop} {s : St} (W : WF s) (I : St → Prop) (h1 : runK (cruns Γ (cs.take k) s) I) (h2 : ∀ s', WF s' → I s' → wwp Γ (.seq (.reg (cs.drop k)) b) Q s') : wwp Γ (.seq (.reg cs) b) Q s := by
  obtain ⟨s', e, hi⟩ := h1
  obtain ⟨s2, e2, h⟩ := h2 s' (cruns_wf W e) hi
  refine ⟨s2, ?_, h⟩
  conv => lhs; rw [← List.take_append_drop k cs, cruns_append, e, Option.bind_some]
  exact e2
theorem wwp_cutN1 {Γ : Env} (k : Nat) {cs : List CStm} {Q : VE → St → Prop} {s : St} (W : WF s) (I : St → Prop) (h1 : runK (cruns Γ (cs.take k) s) I) (h2 : ∀ s', WF s' → I s' → wwp Γ (.reg (cs.drop k)) Q s') : wwp Γ (.reg cs) Q s := by
  obtain ⟨s', e, hi⟩ := h1
  obtain ⟨s2, e2, h⟩ := h2 s' (cruns_wf W e) hi
  refine ⟨s2, ?_, h⟩
  conv => lhs; rw [← List.take_append_drop k cs, cruns_append, e, Option.bind_some]
  exact e2
/-- The caller's memory is as it was. -/
def Up (m M : Mem) : Prop := ∀ t o, upM m t = some o → M t = some o
theorem Up.at {m M : Mem} (h : Up m M) {t : Tok} {o : HO} (ho : m t = some o) : M (0 :: t) = some (o.ren up) := h _ _ (by rw [upM_up, ho]; rfl)
theorem Up.adopt {m : Mem} {σ : St} (W : WF σ) (h : Up m σ.m) (x : Nat) (d : D) (m' : Mem) : Up m (σ.adopt x d m').m := fun t o ho => adopt_old W (h t o ho) x d m'
theorem Up.adoptM {m : Mem} {σ : St} (W : WF σ) (h : Up m σ.m) (x : Nat) (d : D) : Up m (σ.adoptM x d (upM σ.m)).m := keepM_adoptM W h x d
theorem Up.adoptM' {m : Mem} {σ σ' : St} (W : WF σ) (h : Up m σ.m) (x : Nat) (d : D) (hm : σ'.m = σ.m) (hc : σ'.c = σ.c) : Up m (σ'.adoptM x d (upM σ.m)).m := by
  have := Up.adoptM (σ := σ') (W.of hm hc) (by rw [hm]; exact h) x d
  rw [hm] at this
  exact this
theorem Up.adopt' {m : Mem} {σ σ' : St} (W : WF σ) (h : Up m σ.m) (x : Nat) (d : D) (m' : Mem) (hm : σ'.m = σ.m) (hc : σ'.c = σ.c) : Up m (σ'.adopt x d m').m := Up.adopt (σ := σ') (W.of hm hc) (by rw [hm]; exact h) x d m'
theorem set_m_of {σ : St} {M : Mem} {i : Nat} {d : D} (h : σ.m = M) : (σ.set i d).m = M := h
theorem set_c_of {σ : St} {c : Nat → Nat} {i : Nat} {d : D} (h : σ.c = c) : (σ.set i d).c = c := h
@[simp] theorem adopt_m0 {σ : St} (x : Nat) (d : D) (m' : Mem) (t : Tok) : (σ.adopt x d m').m (0 :: t) = σ.m (0 :: t) := by
  cases t with
  | nil => rfl
  | cons b r => simp [adopt_m]
theorem c36w (p48 : FP) (m61 : FM) (m : Mem) (t g : Tok) (a : Mv) (E : List Row) (hm : m t = some (.row g 53 (rowsL (a.rows ++ E))))
    (h48 : p48 [.agg [iv a.t, iv a.r, iv a.s, iv a.c, iv a.w, .list (rowsL a.rows)], .agg [iv a.t, iv a.r, iv a.s, iv a.c, iv a.w, .list (rowsL a.rows)]] = some (bv true))
    (h61 : ∀ M : Mem, M (0 :: t) = some (.row (0 :: g) 53 (rowsL (a.rows ++ E))) → m61 M [.sl (0 :: t) 5 0 a.rows.length none, .list (rowsL a.rows)] = some (bv true, upM M)) :
    wwp (mkEnv [(48, p48)] [] [(61, m61)]) W36.1 (fun e s => okExit e ∧ resV W36.2 s = some (bv true) ∧ Up m s.m) (initM m [.agg (a.cellsW (.sl t 5 0 a.rows.length none)), .agg a.cells]) := by
  have hmu : upM m (0 :: t) = some (.row (0 :: g) 53 (rowsL (a.rows ++ E))) := by rw [upM_up, hm]; simp
  have W0 : WF (initM m [.agg (a.cellsW (.sl t 5 0 a.rows.length none)), .agg a.cells]) := fun x k r hk => rfl
  have htk : (rowsL (a.rows ++ E)).take a.rows.length = rowsL a.rows := by rw [rowsL_append]; exact List.take_left' (by simp)
  simp only [W36]
  refine wwp_cutW W0 (fun σ => Up m σ.m ∧ σ.s 2 = .ptr [3, 0] 0 ∧ σ.s 3 = .ptr [4, 0] 0 ∧ σ.m [3, 0] = some (.box [iv a.t, iv a.r, iv a.s, iv a.c, iv a.w, .sl (0 :: t) 5 0 a.rows.length none]) ∧ σ.m [4, 0] = some (.box [iv a.t, iv a.r, iv a.s, iv a.c, iv a.w, .list (rowsL a.rows)])) ?_ ?_
  · simp [Mv.cells, Mv.cellsW]
    intro t o h
    obtain ⟨r, q, rfl, hq, rfl⟩ := upM_dom h
    simp [hq]
  rintro σ W ⟨hU, h2, h3, m3, m4⟩
  have hmt := hU _ _ hmu
  have e61 := h61 σ.m hmt
  simp [h2, h3, m3, m4, hmt, htk, h48, e61]
  exact Up.adoptM (σ := ((((((((σ.set 5 _).set 6 _).set 7 _).set 8 _).set 9 _).set 10 _).set 11 _).set 12 _)) (W.of rfl rfl) hU 13 (bv true)
theorem c37w (p38 : FP) (q59 : FQ) (m50 : FM) (mk : Nat → Int) (Mk : List Int) (m : Mem) (t g : Tok) (tk gr : Nat → Tok) (Ls : List (List Int)) (hl : Ls.length ≤ 1000)
    (hm : m t = some (.row g 34 (hdsL tk 0 (lentF Mk Ls ++ lentE mk 12)))) (hls : LsL tk gr m 0 (lentF Mk Ls ++ lentE mk 12))
    (h50 : ∀ (M : Mem) (T G : Tok) (L : List Int), L ∈ Ls → M T = some (.row G 3 (ints (L ++ Mk))) → m50 M [.sl T 1 0 L.length none, .list (ints L)] = some (bv true, upM M))
    (h59 : ∀ i : Nat, i < 12 → q59 [iv 1, iv i] = some (.sl [] 1 0 1 none, rowMem 3 (ints [mk i])))
    (h38 : ∀ i : Nat, i < 12 → p38 [.list (ints [mk i]), .list (ints [mk i])] = some (bv true)) :
    wwp (mkEnv [(38, p38)] [(59, q59)] [(50, m50)]) W37.1 (fun e s => okExit e ∧ resV W37.2 s = some (bv true) ∧ Up m s.m) (initM m [.sl t 1 0 Ls.length none, .list (lists Ls)]) := by
  obtain ⟨n, hn⟩ : ∃ n, n = Ls.length := ⟨_, rfl⟩
  have W0 : WF (initM m [.sl t 1 0 Ls.length none, .list (lists Ls)]) := fun x k r hk => rfl
  have hAl : (lentF Mk Ls ++ lentE mk 12).length = n + 12 := by rw [List.length_append, lentF_len, lentE_len, hn]
  have hA1 : ∀ k (h : k < Ls.length) (h' : k < (lentF Mk Ls ++ lentE mk 12).length), (lentF Mk Ls ++ lentE mk 12)[k] = (Ls[k] ++ Mk, Ls[k].length) := fun k h h' => by
    rw [List.getElem_append_left (by rw [lentF_len]; exact h)]; simp [lentF]
  have hA2 : ∀ i, i < 12 → ∀ (h' : n + i < (lentF Mk Ls ++ lentE mk 12).length), (lentF Mk Ls ++ lentE mk 12)[n + i] = ([mk i], 1) := fun i h h' => by
    rw [List.getElem_append_right (by rw [lentF_len]; omega)]
    have : n + i - (lentF Mk Ls).length = i := by rw [lentF_len]; omega
    simp only [this]
    simp [lentE]
  obtain ⟨A, hA⟩ : ∃ A, A = lentF Mk Ls ++ lentE mk 12 := ⟨_, rfl⟩
  simp only [← hA] at hm hls hAl hA1 hA2
  obtain ⟨X, hX⟩ : ∃ X, X = hdsL (fun j => 0 :: tk j) 0 A := ⟨_, rfl⟩
  have hmu : upM m (0 :: t) = some (.row (0 :: g) 34 X) := by rw [upM_up, hm, hX, Option.map_some]; simp only [HO.ren, hdsL_ren]; rfl
  have hXl : X.length = n + 12 := by rw [hX, hdsL_len, hAl]
  have hXf : (∃ c, c ∈ X ∧ ¬ c.length = 1) = False := by rw [hX]; exact hdsL_ex _ _ _
  have hXa : ∀ k (h : k < A.length), X[k]? = some [.sl (0 :: tk k) 1 0 A[k].2 none] := fun k h => by
    rw [hX, hdsL_at _ _ _ k h, Nat.zero_add]
  have hin : ∀ k (h : k < A.length), upM m (0 :: tk k) = some (.row (0 :: gr k) 3 (ints A[k].1)) := fun k h => by
    have := hls k A[k] (by simp [h])
    rw [Nat.zero_add] at this
    rw [upM_up, this]; simp
  clear hX hm hls
  have w1 : IntKind.i64.wrap ((n : Int) + 12) = (n : Int) + 12 := wrap_in (by omega) (by omega)
  have z1 : ((n : Int) + 12).toNat = n + 12 := by omega
  have z2 : (0 : Int) ≤ (n : Int) + 12 := by omega
  have z3 : ¬ (n : Int) + 12 ≤ n := by omega
  simp only [W37]
  refine wwp_cutW W0 (fun σ => Up m σ.m ∧ σ.s 0 = .sl (0 :: t) 1 0 n none ∧ σ.s 1 = .list (lists Ls)) (by simp [← hn]; exact fun t o h => h) ?_
  rintro σ W ⟨hU, h0, h1⟩
  refine wwp_condW W (fun σ => Up m σ.m ∧ σ.s 0 = .sl (0 :: t) 1 0 n none ∧ σ.s 1 = .list (lists Ls)) (by simp [hU, h0, h1, ← hn]) ?_
  clear W hU h0 h1 σ
  rintro σ W ⟨hU, h0, h1⟩
  have hmt := hU _ _ hmu
  refine wwp_cutW W (fun σ => Up m σ.m ∧ σ.s 5 = .sl (0 :: t) 1 0 (n + 12) none ∧ σ.s 1 = .list (lists Ls)) (by simp [hU, h0, h1, hmt, ← hn, w1, z1, z2, z3, roomV, hXl]) ?_
  clear W hU h0 h1 hmt σ
  rintro σ W ⟨hU, h5, h1⟩
  refine wwp_cutG (fun σ => Up m σ.m) ?_ (fun σ h => by simp [h])
  refine wwp_cut (fun σ => Up m σ.m ∧ σ.s 5 = .sl (0 :: t) 1 0 (n + 12) none ∧ σ.s 1 = .list (lists Ls) ∧ σ.s 6 = iv 0) (by simp [hU, h5, h1]) ?_
  clear W hU h5 h1 σ
  rintro σ ⟨hU, h5, h1, h6⟩
  simp only [wwp_block]
  refine wwp_loop (fun σ => ∃ k : Nat, k ≤ n + 12 ∧ Up m σ.m ∧ σ.s 5 = .sl (0 :: t) 1 0 (n + 12) none ∧ σ.s 1 = .list (lists Ls) ∧ σ.s 6 = iv k) (fun σ => cnt (n + 12) (σ.s 6)) ?_ ?_
  · exact ⟨0, by omega, hU, h5, h1, h6⟩
  clear hU h5 h1 h6 σ
  rintro σ W ⟨k, hk, hU, h5, h1, h6⟩
  refine wwp_seq_assoc ?_
  by_cases hlt : k < n + 12
  · have hw1 := wrap_succ (show k ≤ 1000000000 by omega)
    have hmuc : cnt (n + 12) (σ.s 6) = n + 12 - k := by simp [h6]
    simp only [hmuc]
    clear hmuc
    have hlz : (k : Int) < (n : Int) + 12 := by omega
    refine wwp_on (fun σ => WF σ ∧ Up m σ.m ∧ σ.s 5 = .sl (0 :: t) 1 0 (n + 12) none ∧ σ.s 1 = .list (lists Ls) ∧ σ.s 6 = iv k) (by simp [hU, h5, h1, h6, ← hn, hlt, hlz]; exact W.of rfl rfl) ?_
    clear W hU h5 h1 h6 σ
    rintro σ ⟨W, hU, h5, h1, h6⟩
    have hmt := hU _ _ hmu
    have hxk := hXa k (by omega)
    have hik := hU _ _ (hin k (by omega))
    refine wwp_body (fun σ => Up m σ.m ∧ σ.s 5 = .sl (0 :: t) 1 0 (n + 12) none ∧ σ.s 1 = .list (lists Ls) ∧ σ.s 6 = iv k) ?_ ?_
    · by_cases hkn : k < n
      · have hkL : k < Ls.length := by omega
        have hmem : Ls[k] ∈ Ls := List.getElem_mem hkL
        have e50 := h50 σ.m (0 :: tk k) (0 :: gr k) Ls[k] hmem (by rw [hik, hA1 k hkL (by omega)])
        rw [hA1 k hkL (by omega)] at hxk
        have hyk := lists_at hkL
        obtain ⟨L, hL⟩ : ∃ L, L = Ls[k] := ⟨_, rfl⟩
        rw [← hL] at hxk hyk e50
        have a1 : (k : Int) < n := by omega
        have a2 : ¬ (n : Int) ≤ k := by omega
        clear hik
        refine wwp_cutN 13 W (fun σ => Up m σ.m ∧ σ.s 5 = .sl (0 :: t) 1 0 (n + 12) none ∧ σ.s 1 = .list (lists Ls) ∧ σ.s 6 = iv k ∧ σ.s 27 = bv true ∧ σ.s 31 = .sl (0 :: tk k) 1 0 L.length none ∧ σ.s 35 = .list (ints L)) (by simp [hU, hmt, h5, h1, h6, ← hn, hkn, hkL, hlt, hxk, hyk, a1, a2, ← hL]) ?_
        clear W hU h5 h1 h6 hmt e50 σ
        rintro σ W ⟨hU, h5, h1, h6, h27, h31, h35⟩
        have hik := hU _ _ (hin k (by omega))
        have e50 := h50 σ.m (0 :: tk k) (0 :: gr k) L (hL ▸ hmem) (by rw [hik, hA1 k hkL (by omega), hL])
        simp only [List.drop_succ_cons, List.drop_zero]
        refine wwp_cutN 1 W (fun σ => Up m σ.m ∧ σ.s 5 = .sl (0 :: t) 1 0 (n + 12) none ∧ σ.s 1 = .list (lists Ls) ∧ σ.s 6 = iv k ∧ σ.s 27 = bv true ∧ σ.s 36 = bv true) (by simp [h5, h1, h6, h27, h31, h35, e50]; exact Up.adoptM W hU 36 (bv true)) ?_
        clear W hU h5 h1 h6 h27 h31 h35 hik e50 σ
        rintro σ W ⟨hU, h5, h1, h6, h27, h36⟩
        simp only [List.drop_succ_cons, List.drop_zero]
        refine wwp_cutN 10 W (fun σ => Up m σ.m ∧ σ.s 5 = .sl (0 :: t) 1 0 (n + 12) none ∧ σ.s 1 = .list (lists Ls) ∧ σ.s 6 = iv k ∧ σ.s 39 = bv false ∧ σ.s 44 = bv false) (by simp [hU, h5, h1, h6, ← hn, a2, h27, h36]) ?_
        clear W hU h5 h1 h6 h27 h36 σ
        rintro σ W ⟨hU, h5, h1, h6, h39, h44⟩
        simp only [List.drop_succ_cons, List.drop_zero]
        simp [hU, h5, h1, h6, h39, h44]
      · obtain ⟨i, hi⟩ : ∃ i, k = n + i := ⟨k - n, by omega⟩
        have e59 := h59 i (by omega)
        have e38 := h38 i (by omega)
        subst hi
        rw [hA2 i (by omega) (by omega)] at hxk hik
        obtain ⟨k, hk'⟩ : ∃ k, k = n + i := ⟨_, rfl⟩
        rw [← hk'] at hxk hik h6 hkn hlt
        have a1 : ¬ (k : Int) < n := by omega
        have a2 : (n : Int) ≤ (k : Int) := by omega
        have a3 : IntKind.i64.wrap ((k : Int) - n) = i := by rw [wrap_in (by omega) (by omega)]; omega
        have a4 : n ≤ k := by omega
        have c1 : (ints [mk i]).length = 1 := by simp
        have c2 : (ints [mk i]).take 1 = ints [mk i] := List.take_of_length_le (by simp)
        refine wwp_cutN 14 W (fun σ => Up m σ.m ∧ σ.s 5 = .sl (0 :: t) 1 0 (n + 12) none ∧ σ.s 1 = .list (lists Ls) ∧ σ.s 6 = iv k ∧ σ.s 27 = bv false) (by simp [hU, h5, h1, h6, ← hn, hkn, a1]) ?_
        clear W hU h5 h1 h6 hmt hik σ
        rintro σ W ⟨hU, h5, h1, h6, h27⟩
        simp only [List.drop_succ_cons, List.drop_zero]
        refine wwp_cutN 8 W (fun σ => Up m σ.m ∧ σ.s 5 = .sl (0 :: t) 1 0 (n + 12) none ∧ σ.s 1 = .list (lists Ls) ∧ σ.s 6 = iv k ∧ σ.s 39 = bv false ∧ σ.s 44 = bv true) (by simp [hU, h5, h1, h6, ← hn, a2, a4, h27]) ?_
        clear W hU h5 h1 h6 h27 σ
        rintro σ W ⟨hU, h5, h1, h6, h39, h44⟩
        have hmt := hU _ _ hmu
        simp only [List.drop_succ_cons, List.drop_zero]
        refine wwp_cutN 8 W (fun σ => Up m σ.m ∧ σ.s 5 = .sl (0 :: t) 1 0 (n + 12) none ∧ σ.s 1 = .list (lists Ls) ∧ σ.s 6 = iv k ∧ σ.s 39 = bv false ∧ σ.s 44 = bv true ∧ σ.s 48 = .sl (0 :: tk k) 1 0 1 none ∧ σ.s 52 = iv i) (by simp [hU, hmt, h5, h1, h6, ← hn, hlt, hxk, a3, h39, h44]) ?_
        clear W hU h5 h1 h6 hmt h39 h44 σ
        rintro σ W ⟨hU, h5, h1, h6, h39, h44, h48, h52⟩
        have hik := hU _ _ (hin k (by omega))
        simp only [List.drop_succ_cons, List.drop_zero]
        refine wwp_cutN 1 W (fun σ => Up m σ.m ∧ σ.s 5 = .sl (0 :: t) 1 0 (n + 12) none ∧ σ.s 1 = .list (lists Ls) ∧ σ.s 6 = iv k ∧ σ.s 39 = bv false ∧ σ.s 44 = bv true ∧ σ.s 48 = .sl (0 :: tk k) 1 0 1 none ∧ ∃ u G, σ.s 53 = .sl u 1 0 1 none ∧ σ.m u = some (.row G 3 (ints [mk i]))) (by simp [h5, h1, h6, h39, h44, h48, h52, e59]; exact Up.adopt W hU 53 _ _) ?_
        clear W hU h5 h1 h6 h39 h44 h48 h52 hik σ
        rintro σ W ⟨hU, h5, h1, h6, h39, h44, h48, u, G, h53, mu⟩
        have hik := hU _ _ (hin k (by omega))
        have hAk : A[k]'(by omega) = ([mk i], 1) := by
          have : ∀ k (h : k < A.length), k = n + i → A[k] = ([mk i], 1) := by rintro k h rfl; exact hA2 i (by omega) h
          exact this k (by omega) hk'
        rw [hAk] at hik
        simp only [List.drop_succ_cons, List.drop_zero]
        simp [hU, hik, mu, h5, h1, h6, h39, h44, h48, h53, e38, c1, c2]
        omega
    · clear W hU h5 h1 h6 hmt hik σ
      rintro σ ⟨hU, h5, h1, h6⟩
      simp [hU, h5, h1, h6, hw1]
      exact ⟨⟨k + 1, by omega, rfl⟩, by omega⟩
  · refine wwp_off ?_
    have hlz : ¬ (k : Int) < (n : Int) + 12 := by omega
    simp [hU, h5, h1, h6, hlt, hlz]
theorem c36 (m : Mem) (t g : Tok) (a : Mv) (hm : m t = some (.row g 53 (rowsL (a.rows ++ marksR 12)))) (hl : a.rows.length ≤ 100000) : VCm Try.prog 36 m [.agg (a.cellsW (.sl t 5 0 a.rows.length none)), .agg a.cells] (bv true) (upM m) :=
  wcontract_m (Γ := mkEnv [(48, S48)] [] [(61, S61)]) (sound_mk (by simp [s48]) (by simp) (by simp [s61])) mixed is36 (by rw [nt36]; simp)
    (c36w S48 S61 m t g a (marksR 12) hm (by have := S48_self a (by omega); simpa [Mv.cells, Mv.cellsW] using this) (fun M h => S61_at h hl))
theorem c37 (m : Mem) (t g : Tok) (tk gr : Nat → Tok) (Ls : List (List Int)) (hl : Ls.length ≤ 1000) (hL : ∀ L ∈ Ls, L.length ≤ 100000) (hm : m t = some (.row g 34 (hdsL tk 0 (lentL Ls)))) (hls : LsL tk gr m 0 (lentL Ls)) :
    VCm Try.prog 37 m [.sl t 1 0 Ls.length none, .list (lists Ls)] (bv true) (upM m) :=
  wcontract_m (Γ := mkEnv [(38, S38)] [(59, S59)] [(50, S50)]) (sound_mk (by simp [s38]) (by simp [s59]) (by simp [s50])) mixed is37 (by rw [nt37]; simp)
    (c37w S38 S59 S50 (fun i => markI 1 i) (marksI 12) m t g tk gr Ls hl hm hls (fun M T G L hmem h => S50_at h (hL L hmem)) (fun i hi => S59_at i (by omega)) (fun i hi => by rw [S38_at _ _ (by simp) (by simp)]; simp))
open Classical in
noncomputable def S36 : FM := fun m ds => match ds with
  | [.agg [.v (.int .i64 a), .v (.int .i64 b), .v (.int .i64 c), .v (.int .i64 d), .v (.int .i64 e), .sl t 5 0 n none], .agg xs] =>
    if ∃ g l, m t = some (.row g 53 (rowsL (l ++ marksR 12))) ∧ xs = (⟨a, b, c, d, e, l⟩ : Mv).cells ∧ n = l.length ∧ l.length ≤ 100000 then some (bv true, upM m) else none
  | _ => none
theorem s36 : OkM 36 S36 := fun m ds d m' h => by
  unfold S36 at h
  split at h
  · split at h
    · rename_i hc
      cases h
      obtain ⟨g, l, h1, rfl, rfl, h4⟩ := hc
      exact c36 m _ g ⟨_, _, _, _, _, l⟩ h1 h4
    · cases h
  · cases h
theorem S36_at {m : Mem} {t g : Tok} {a : Mv} (h : m t = some (.row g 53 (rowsL (a.rows ++ marksR 12)))) (hl : a.rows.length ≤ 100000) : S36 m [.agg (a.cellsW (.sl t 5 0 a.rows.length none)), .agg a.cells] = some (bv true, upM m) := by
  simp only [S36, Mv.cellsW]
  exact if_pos ⟨g, a.rows, h, rfl, rfl, hl⟩
open Classical in
noncomputable def S37 : FM := fun m ds => match ds with
  | [.sl t 1 0 n none, .list es] => if ∃ g tk gr Ls, m t = some (.row g 34 (hdsL tk 0 (lentL Ls))) ∧ LsL tk gr m 0 (lentL Ls) ∧ es = lists Ls ∧ n = Ls.length ∧ Ls.length ≤ 1000 ∧ ∀ L ∈ Ls, L.length ≤ 100000 then some (bv true, upM m) else none
  | _ => none
theorem s37 : OkM 37 S37 := fun m ds d m' h => by
  unfold S37 at h
  split at h
  · split at h
    · rename_i hc
      cases h
      obtain ⟨g, tk, gr, Ls, h1, h2, rfl, rfl, h5, h6⟩ := hc
      exact c37 m _ g tk gr Ls h5 h6 h1 h2
    · cases h
  · cases h
theorem S37_at {m : Mem} {t g : Tok} {tk gr : Nat → Tok} {Ls : List (List Int)} (hm : m t = some (.row g 34 (hdsL tk 0 (lentL Ls)))) (hls : LsL tk gr m 0 (lentL Ls)) (hl : Ls.length ≤ 1000) (hL : ∀ L ∈ Ls, L.length ≤ 100000) :
    S37 m [.sl t 1 0 Ls.length none, .list (lists Ls)] = some (bv true, upM m) := by
  simp only [S37]
  exact if_pos ⟨g, tk, gr, Ls, hm, hls, rfl, rfl, hl, hL⟩
end Go.Proofs.Ytpmgaaalfdjikaa
namespace Go.Proofs.Ytpmgaaalfdjikaa
open Go.RowKit
set_option linter.unusedSimpArgs false
set_option linter.unusedVariables false

def W11 : WC × List VRes := ((.seq (.reg [(.stm (.eff (.box 2 (.t 0)) none)), (.set [(4, (.c (.v (.bool false))))] [4])]) (.seq (.seq (.reg [(.set [(14, (.ap .inot [(.ap (.call 32) [(.ap (.load 6 true) [(.t 2)]), (.t 1)])]))] [11, 12, 13, 14])]) (.cond (.t 14) (.seq (.reg [(.set [(4, (.c (.v (.bool true))))] [4])]) .ret) .skip)) (.seq (.reg [(.set [(15, (.ap (.load 6 true) [(.t 2)]))] [15]), (.stm (.eff (.callq 16 33 [(.t 15)]) none)), (.set [(17, (.t 1))] [17]), (.stm (.eff (.callq 18 34 [(.t 17)]) none)), (.stm (.eff (.box 5 (.c (.agg [(.v (.int .i64 0)), (.v (.int .i64 0)), (.v (.int .i64 0)), (.v (.int .i64 0)), (.v (.int .i64 0)), .nil]))) none)), (.stm (.eff (.store 6 (.t 5) (.t 16)) none)), (.set [(6, (.t 18))] [6])]) (.seq (.reg [(.set [(7, (.ap (.ext 0) [(.ap (.call 15) [(.ap (.load 6 true) [(.t 5)]), (.t 6)])])), (8, (.ap (.ext 1) [(.ap (.call 15) [(.ap (.load 6 true) [(.t 5)]), (.t 6)])]))] [20, 21, 22, 19, 23, 24, 7, 8])]) (.seq (.reg [(.set [(9, (.ap (.ext 0) [(.ap (.call 35) [(.ap (.load 6 true) [(.t 2)]), (.t 1)])])), (10, (.ap (.ext 1) [(.ap (.call 35) [(.ap (.load 6 true) [(.t 2)]), (.t 1)])]))] [26, 27, 28, 25, 29, 30, 9, 10])]) (.seq (.reg [(.stm (.op 31 .mv [(.t 7)] none)), (.stm (.op 32 .mv [(.t 9)] none)), (.stm (.op 33 (.ibin .eql) [(.t 31), (.t 32)] none)), (.stm (.op 34 .mv [(.t 33)] none)), (.stm (.op 35 .mv [(.t 8)] (some (34, true)))), (.stm (.op 36 .mv [(.t 10)] (some (34, true)))), (.stm (.op 37 (.ibin .eql) [(.t 35), (.t 36)] (some (34, true)))), (.stm (.op 38 .pick [(.t 34), (.t 37), (.c (.v (.bool false)))] none)), (.stm (.op 39 .mv [(.t 38)] none)), (.stm (.op 40 (.load 6 true) [(.t 5)] (some (39, true)))), (.stm (.op 41 (.load 6 true) [(.t 2)] (some (39, true)))), (.stm (.eff (.callm 42 36 [(.t 40), (.t 41)]) (some (39, true)))), (.stm (.op 43 .pick [(.t 39), (.t 42), (.c (.v (.bool false)))] none)), (.stm (.op 44 .mv [(.t 43)] none)), (.stm (.op 45 .mv [(.t 6)] (some (44, true)))), (.stm (.op 46 .mv [(.t 1)] (some (44, true)))), (.stm (.eff (.callm 47 37 [(.t 45), (.t 46)]) (some (44, true)))), (.set [(4, (.ite (.t 44) (.t 47) (.c (.v (.bool false)))))] [48, 4])]) .ret)))))), [(.t 4)])
theorem is11 : IsFn Try.prog frOf 11 Try.f11 W11 := ⟨by kernel_rfl, by kernel_rfl, by kernel_rfl⟩
theorem nt11 : Try.f11.ntmps = 49 := by kernel_rfl
def W3 : WC × List VRes := ((.seq (.reg [(.stm (.eff (.box 2 (.t 0)) none)), (.set [(4, (.c (.v (.bool false))))] [4])]) (.seq (.reg [(.set [(4, (.ite (.ap (.call 11) [(.ap (.load 6 true) [(.t 2)]), (.t 1)]) (.ap (.call 12) []) (.c (.v (.bool false)))))] [5, 6, 7, 8, 9, 10, 4])]) .ret)), [(.t 4)])
theorem is3 : IsFn Try.prog frOf 3 Try.f3 W3 := ⟨by kernel_rfl, by kernel_rfl, by kernel_rfl⟩
theorem nt3 : Try.f3.ntmps = 11 := by kernel_rfl


theorem view_lent {tk gr : Nat → Tok} {m : Mem} {n : Nat} : ∀ {Fs : List (List Int × Nat)} {j : Nat}, LsL tk gr m j Fs → (∀ p ∈ Fs, p.2 ≤ p.1.length) → viewRows (viewC m (n + 1)) (hdsL tk j Fs) = some (lists (Fs.map fun p => p.1.take p.2))
  | [], j, _, _ => rfl
  | p :: Fs, j, h, hp => by
    have ih := view_lent (n := n) (Fs := Fs) (j := j + 1) (fun i p' hi => by
      have := h (i + 1) p' (by simpa using hi)
      rwa [show j + (i + 1) = j + 1 + i by omega] at this) (fun q hq => hp q (List.mem_cons_of_mem _ hq))
    have h1 := h 0 p rfl
    rw [Nat.add_zero] at h1
    have h2 := hp p List.mem_cons_self
    have h3 : (ints p.1).take p.2 = ints (p.1.take p.2) := by simp [ints, List.map_take]
    rw [hdsL, viewRows_cons (viewC m (n + 1)) _ _ (fun _ => rfl), ih]
    have h0 : viewRow (viewC m (n + 1)) [.sl (tk j) 1 0 p.2 none] = some [.list (ints (p.1.take p.2))] := by
      rw [viewRow_cons (viewC m (n + 1)) _ _ (fun _ => rfl)]
      simp [h1, h2, h3]
    rw [h0]
    rfl
theorem hdsL_take (tk : Nat → Tok) : ∀ (Fs Gs : List (List Int × Nat)) (j : Nat), (hdsL tk j (Fs ++ Gs)).take Fs.length = hdsL tk j Fs
  | [], _, _ => by simp [hdsL]
  | p :: Fs, Gs, j => by simp [hdsL, hdsL_take tk Fs Gs (j + 1)]
theorem LsL.front {tk gr : Nat → Tok} {m : Mem} {j : Nat} {Fs Gs : List (List Int × Nat)} (h : LsL tk gr m j (Fs ++ Gs)) : LsL tk gr m j Fs := fun i p hi => h i p (by
  rw [List.getElem?_append_left (List.getElem?_eq_some_iff.1 hi).1]; exact hi)
theorem lentF_view (M : List Int) (Ls : List (List Int)) : (lentF M Ls).map (fun p => p.1.take p.2) = Ls := by
  simp only [lentF, List.map_map]
  conv => rhs; rw [← List.map_id Ls]
  exact List.map_congr_left fun L _ => by simp
def tkB (j : Nat) : Tok := [19, 0, j + 1]
def grB (j : Nat) : Tok := [19, 0, 0, j]
/-- What is lent in best: the movement and the lists. -/
structure BsA (m : Mv) (Ls : List (List Int)) (E : List Row) (M : List Int) (G : List (List Int × Nat)) (σ : St) : Prop where
  s1 : σ.s 1 = .list (lists Ls)
  s2 : σ.s 2 = .ptr [3, 0] 0
  m3 : σ.m [3, 0] = some (.box [iv m.t, iv m.r, iv m.s, iv m.c, iv m.w, .list (rowsL m.rows)])
  s5 : σ.s 5 = .ptr [6, 0] 0
  m6 : σ.m [6, 0] = some (.box [iv m.t, iv m.r, iv m.s, iv m.c, iv m.w, .sl [17, 0] 5 0 m.rows.length none])
  s6 : σ.s 6 = .sl [19, 0] 1 0 Ls.length none
  m17 : σ.m [17, 0] = some (.row [17, 0, 0] 53 (rowsL (m.rows ++ E)))
  m19 : σ.m [19, 0] = some (.row [19, 0, 0] 34 (hdsL tkB 0 (lentF M Ls ++ G)))
  ls : LsL tkB grB σ.m 0 (lentF M Ls ++ G)
theorem c11w (p32 p15 p35 : FP) (q33 q34 : FQ) (m36 m37 : FM) (m : Mv) (Ls : List (List Int)) (E : List Row) (M : List Int) (G : List (List Int × Nat)) (a e : Int)
    (h32 : p32 [.agg [iv m.t, iv m.r, iv m.s, iv m.c, iv m.w, .list (rowsL m.rows)], .list (lists Ls)] = some (bv true))
    (h33 : q33 [.agg [iv m.t, iv m.r, iv m.s, iv m.c, iv m.w, .list (rowsL m.rows)]] = some (.agg [iv m.t, iv m.r, iv m.s, iv m.c, iv m.w, .sl [] 5 0 m.rows.length none], rowMem 53 (rowsL (m.rows ++ E))))
    (h34 : q34 [.list (lists Ls)] = some (.sl [] 1 0 Ls.length none, lentMem (lentF M Ls ++ G)))
    (h15 : p15 [.agg [iv m.t, iv m.r, iv m.s, iv m.c, iv m.w, .list (rowsL m.rows)], .list (lists Ls)] = some (.tup [iv a, iv e]))
    (h35 : p35 [.agg [iv m.t, iv m.r, iv m.s, iv m.c, iv m.w, .list (rowsL m.rows)], .list (lists Ls)] = some (.tup [iv a, iv e]))
    (h36 : ∀ Mm : Mem, Mm [17, 0] = some (.row [17, 0, 0] 53 (rowsL (m.rows ++ E))) → m36 Mm [.agg [iv m.t, iv m.r, iv m.s, iv m.c, iv m.w, .sl [17, 0] 5 0 m.rows.length none], .agg [iv m.t, iv m.r, iv m.s, iv m.c, iv m.w, .list (rowsL m.rows)]] = some (bv true, upM Mm))
    (h37 : ∀ Mm : Mem, Mm [19, 0] = some (.row [19, 0, 0] 34 (hdsL tkB 0 (lentF M Ls ++ G))) → LsL tkB grB Mm 0 (lentF M Ls ++ G) → m37 Mm [.sl [19, 0] 1 0 Ls.length none, .list (lists Ls)] = some (bv true, upM Mm)) :
    wwp (mkEnv [(32, p32), (15, p15), (35, p35)] [(33, q33), (34, q34)] [(36, m36), (37, m37)]) W11.1 (fun e s => okExit e ∧ resV W11.2 s = some (bv true)) (initV [.agg m.cells, .list (lists Ls)]) := by
  have htk : (rowsL (m.rows ++ E)).take m.rows.length = rowsL m.rows := by rw [rowsL_append]; exact List.take_left' (by simp)
  have hll : (lentF M Ls).length = Ls.length := lentF_len M Ls
  have hht : (hdsL tkB 0 (lentF M Ls ++ G)).take Ls.length = hdsL tkB 0 (lentF M Ls) := by rw [← hll]; exact hdsL_take _ _ _ _
  have hhl : Ls.length ≤ (hdsL tkB 0 (lentF M Ls ++ G)).length := by rw [hdsL_len, List.length_append, hll]; omega
  simp only [W11]
  refine wwp_cutW (wf_init _) (fun σ => σ.s 1 = .list (lists Ls) ∧ σ.s 2 = .ptr [3, 0] 0 ∧ σ.m [3, 0] = some (.box [iv m.t, iv m.r, iv m.s, iv m.c, iv m.w, .list (rowsL m.rows)]) ∧ σ.c 5 = 0 ∧ σ.c 16 = 0 ∧ σ.c 18 = 0) (by simp [Mv.cells, Mv.cellsW]) ?_
  rintro σ W ⟨h1, h2, m3, k5, k16, k18⟩
  refine wwp_condW W (fun σ => σ.s 1 = .list (lists Ls) ∧ σ.s 2 = .ptr [3, 0] 0 ∧ σ.m [3, 0] = some (.box [iv m.t, iv m.r, iv m.s, iv m.c, iv m.w, .list (rowsL m.rows)]) ∧ σ.c 5 = 0 ∧ σ.c 16 = 0 ∧ σ.c 18 = 0) (by simp [h1, h2, m3, k5, k16, k18, h32]) ?_
  clear W h1 h2 m3 k5 k16 k18 σ
  rintro σ W ⟨h1, h2, m3, k5, k16, k18⟩
  refine wwp_cutW W (BsA m Ls E M G) ?_ ?_
  · simp [h1, h2, m3, k5, k16, k18, h33, h34, putAt]
    refine ⟨by simp [h1], by simp [h2], by simp [m3], by simp [k5], by simp [k5], by simp [k18], by simp [k16], ?_, ?_⟩
    · simp [lentMem, hdsL_ren, k18]; rfl
    · intro i p hi
      have := lentMem_LsL (lentF M Ls ++ G) i p hi
      simp only [Nat.zero_add] at this ⊢
      simp [tkB, grB, this, k18]
  clear W h1 h2 m3 k5 k16 k18 σ
  intro σ W B
  have hview : viewRows (viewC σ.m 5) (hdsL tkB 0 (lentF M Ls)) = some (lists Ls) := by
    rw [view_lent (n := 4) (LsL.front B.ls) (fun p hp => by
      obtain ⟨L, _, rfl⟩ := List.mem_map.1 hp
      simp), lentF_view]
  refine wwp_cutW W (fun σ => BsA m Ls E M G σ ∧ σ.s 7 = iv a ∧ σ.s 8 = iv e) ?_ ?_
  · simp [B.s5, B.m6, B.s6, B.m17, B.m19, htk, hht, hhl, hview, h15]
    exact ⟨by simp [B.s1], by simp [B.s2], by simp [B.m3], by simp [B.s5], by simp [B.m6], by simp [B.s6], by simp [B.m17], by simp [B.m19], by simpa using B.ls⟩
  clear W B hview σ
  rintro σ W ⟨B, h7, h8⟩
  refine wwp_cutW W (fun σ => BsA m Ls E M G σ ∧ σ.s 7 = iv a ∧ σ.s 8 = iv e ∧ σ.s 9 = iv a ∧ σ.s 10 = iv e) ?_ ?_
  · simp [B.s1, B.s2, B.m3, h35, h7, h8]
    exact ⟨by simp [B.s1], by simp [B.s2], by simp [B.m3], by simp [B.s5], by simp [B.m6], by simp [B.s6], by simp [B.m17], by simp [B.m19], by simpa using B.ls⟩
  clear W B h7 h8 σ
  rintro σ W ⟨B, h7, h8, h9, h10⟩
  refine wwp_cutN 11 W (fun σ => BsA m Ls E M G σ ∧ σ.s 39 = bv true ∧ σ.s 40 = .agg [iv m.t, iv m.r, iv m.s, iv m.c, iv m.w, .sl [17, 0] 5 0 m.rows.length none] ∧ σ.s 41 = .agg [iv m.t, iv m.r, iv m.s, iv m.c, iv m.w, .list (rowsL m.rows)]) ?_ ?_
  · simp [B.s1, B.s2, B.m3, B.s5, B.m6, h7, h8, h9, h10]
    exact ⟨by simp [B.s1], by simp [B.s2], by simp [B.m3], by simp [B.s5], by simp [B.m6], by simp [B.s6], by simp [B.m17], by simp [B.m19], by simpa using B.ls⟩
  clear W B h7 h8 h9 h10 σ
  rintro σ W ⟨B, h39, h40, h41⟩
  simp only [List.drop_succ_cons, List.drop_zero]
  have e36 := h36 σ.m B.m17
  refine wwp_cutN 1 W (fun σ => σ.s 1 = .list (lists Ls) ∧ σ.s 6 = .sl [19, 0] 1 0 Ls.length none ∧ σ.m [19, 0] = some (.row [19, 0, 0] 34 (hdsL tkB 0 (lentF M Ls ++ G))) ∧ LsL tkB grB σ.m 0 (lentF M Ls ++ G) ∧ σ.s 39 = bv true ∧ σ.s 42 = bv true) ?_ ?_
  · simp [B.s1, B.s6, h39, h40, h41, e36]
    refine ⟨by rw [adoptM_keep W B.m19]; simp only [HO.ren, hdsL_ren], fun i p hi => by rw [adoptM_keep W (B.ls i p hi)]; simp⟩
  clear W B h39 h40 h41 e36 σ
  rintro σ W ⟨h1, h6, m19, hls, h39, h42⟩
  simp only [List.drop_succ_cons, List.drop_zero]
  have e37 := h37 σ.m m19 hls
  simp [h1, h6, h39, h42, e37]
end Go.Proofs.Ytpmgaaalfdjikaa
namespace Go.Proofs.Ytpmgaaalfdjikaa
open Go.RowKit Go.ChangeShapes Go.WideShapes Go.ChangeAt
set_option linter.unusedSimpArgs false
set_option linter.unusedVariables false
set_option linter.constructorNameAsVariable false

def S32 : List D → Option D
  | [.agg xs, .list es] => (asMv xs).bind fun m => (asLists es).map fun Ls => bv (fewB m Ls)
  | _ => none
theorem s32 : OkP 32 S32 := fun ds d h => by
  unfold S32 at h
  split at h
  · rw [Option.bind_eq_some_iff] at h
    obtain ⟨m, hm, h⟩ := h
    obtain ⟨Ls, hL, rfl⟩ := Option.map_eq_some_iff.1 h
    rw [asMv_eq hm, asLists_eq hL]
    exact c32 m Ls
  · cases h
theorem S32_at (m : Mv) (Ls : List (List Int)) : S32 [.agg m.cells, .list (lists Ls)] = some (bv (fewB m Ls)) := by
  simp only [S32, asMv_of, Option.bind_some, asLists_lists, Option.map_some]
def S33 : List D → Option (D × Mem)
  | [.agg xs] => (asMv xs).bind fun m => if m.rows.length ≤ 100000 then some (.agg (m.cellsW (.sl [] 5 0 m.rows.length none)), rowMem 53 (rowsL (m.rows ++ marksR 12))) else none
  | _ => none
theorem s33 : OkQ 33 S33 := fun ds d mm h => by
  unfold S33 at h
  split at h
  · rw [Option.bind_eq_some_iff] at h
    obtain ⟨m, hm, h⟩ := h
    split at h
    · rename_i hc
      cases h
      rw [asMv_eq hm]
      exact c33 m hc
    · cases h
  · cases h
theorem S33_at (m : Mv) (h : m.rows.length ≤ 100000) : S33 [.agg m.cells] = some (.agg (m.cellsW (.sl [] 5 0 m.rows.length none)), rowMem 53 (rowsL (m.rows ++ marksR 12))) := by
  simp only [S33, asMv_of, Option.bind_some]
  rw [if_pos h]
def S34 : List D → Option (D × Mem)
  | [.list es] => (asLists es).bind fun Ls => if Ls.length ≤ 1000 ∧ Ls.all (fun L => decide (L.length ≤ 100000)) = true then some (.sl [] 1 0 Ls.length none, lentMem (lentL Ls)) else none
  | _ => none
theorem s34 : OkQ 34 S34 := fun ds d mm h => by
  unfold S34 at h
  split at h
  · rw [Option.bind_eq_some_iff] at h
    obtain ⟨Ls, hL, h⟩ := h
    split at h
    · rename_i hc
      cases h
      rw [asLists_eq hL]
      exact c34 Ls hc.1 fun L hL => by simpa using List.all_eq_true.1 hc.2 L hL
    · cases h
  · cases h
theorem S34_at (Ls : List (List Int)) (hl : Ls.length ≤ 1000) (hL : ∀ L ∈ Ls, L.length ≤ 100000) : S34 [.list (lists Ls)] = some (.sl [] 1 0 Ls.length none, lentMem (lentL Ls)) := by
  simp only [S34, asLists_lists, Option.bind_some]
  rw [if_pos ⟨hl, List.all_eq_true.2 fun L h => decide_eq_true (hL L h)⟩]
def S35 : List D → Option D
  | [.agg xs, .list es] => (asMv xs).bind fun m => (asLists es).bind fun Ls => if m.rows.length ≤ 60 ∧ Ls.length ≤ 1000000 ∧ Ls.all (fun L => decide (L.length ≤ 1000000)) = true then some (.tup [iv (bestR m Ls).1, iv (bestR m Ls).2]) else none
  | _ => none
theorem s35 : OkP 35 S35 := fun ds d h => by
  unfold S35 at h
  split at h
  · rw [Option.bind_eq_some_iff] at h
    obtain ⟨m, hm, h⟩ := h
    rw [Option.bind_eq_some_iff] at h
    obtain ⟨Ls, hL, h⟩ := h
    split at h <;> cases h
    rename_i hc
    rw [asMv_eq hm, asLists_eq hL]
    exact c35 m Ls hc.1 hc.2.1 fun L hL => by simpa using List.all_eq_true.1 hc.2.2 L hL
  · cases h
theorem S35_at (m : Mv) (Ls : List (List Int)) (hm : m.rows.length ≤ 60) (hl : Ls.length ≤ 1000000) (hL : ∀ L ∈ Ls, L.length ≤ 1000000) : S35 [.agg m.cells, .list (lists Ls)] = some (.tup [iv (bestR m Ls).1, iv (bestR m Ls).2]) := by
  simp only [S35, Mv.cells, Mv.cellsW, asMv_cells, asLists_lists, Option.bind_some]
  rw [if_pos ⟨hm, hl, List.all_eq_true.2 fun L h => decide_eq_true (hL L h)⟩]
theorem few_iff {m : Mv} {Ls : List (List Int)} : fewB m Ls = true ↔ m.rows.length ≤ 60 ∧ Ls.length ≤ 70 ∧ ∀ L ∈ Ls, L.length ≤ 50 := by
  simp [fewB, and_assoc]
theorem c11 (m : Mv) (Ls : List (List Int)) : VCp Try.prog 11 [.agg m.cells, .list (lists Ls)] (bv true) := by
  refine wcontract_p (Γ := mkEnv [(32, S32), (15, S15), (35, S35)] [(33, S33), (34, S34)] [(36, S36), (37, S37)]) (sound_mk (by simp [s32, s15, s35]) (by simp [s33, s34]) (by simp [s36, s37])) mixed is11 (by rw [nt11]; simp) ?_ rfl
  have h32 := S32_at m Ls
  cases hf : fewB m Ls with
  | false =>
    rw [hf] at h32
    simp only [Mv.cells, Mv.cellsW] at h32
    simp [W11, Mv.cells, Mv.cellsW, h32]
  | true =>
    rw [hf] at h32
    obtain ⟨f1, f2, f3⟩ := few_iff.1 hf
    exact c11w S32 S15 S35 S33 S34 S36 S37 m Ls (marksR 12) (marksI 12) (lentE (fun i => markI 1 i) 12) _ _ h32 (S33_at m (by omega)) (S34_at Ls (by omega) fun L h => by have := f3 L h; omega)
      (S15_at m Ls (by omega) fun L h => by have := f3 L h; omega) (S35_at m Ls f1 (by omega) fun L h => by have := f3 L h; omega)
      (fun Mm h => S36_at (a := m) h (by omega)) (fun Mm h hls => S37_at h hls (by omega) fun L h => by have := f3 L h; omega)
def S11 : List D → Option D
  | [.agg xs, .list es] => (asMv xs).bind fun m => (asLists es).map fun Ls => bv true
  | _ => none
theorem s11 : OkP 11 S11 := fun ds d h => by
  unfold S11 at h
  split at h
  · rw [Option.bind_eq_some_iff] at h
    obtain ⟨m, hm, h⟩ := h
    obtain ⟨Ls, hL, rfl⟩ := Option.map_eq_some_iff.1 h
    rw [asMv_eq hm, asLists_eq hL]
    exact c11 m Ls
  · cases h
theorem S11_at (m : Mv) (Ls : List (List Int)) : S11 [.agg m.cells, .list (lists Ls)] = some (bv true) := by
  simp only [S11, asMv_of, Option.bind_some, asLists_lists, Option.map_some]
theorem c3 (m : Mv) (Ls : List (List Int)) : VCp Try.prog 3 [.agg m.cells, .list (lists Ls)] (bv true) := by
  refine wcontract_p (Γ := mkEnv [(11, S11), (12, S12)] [] []) (sound_mk (by simp [s11, s12]) (by simp) (by simp)) mixed is3 (by rw [nt3]; simp) ?_ rfl
  have h11 := S11_at m Ls
  simp only [Mv.cells, Mv.cellsW] at h11
  simp [W3, Mv.cells, Mv.cellsW, h11, S12]

theorem cells24 : Try.prog.cellsOf 24 = 6 := by kernel_rfl
theorem cells22 : Try.prog.cellsOf 22 = 1 := by kernel_rfl
theorem cells53 : Try.prog.cellsOf 53 = 5 := by kernel_rfl
theorem list6 {α : Type} {l : List α} (h : l.length = 6) : ∃ a b c d e f, l = [a, b, c, d, e, f] := by
  match l, h with
  | [a, b, c, d, e, f], _ => exact ⟨a, b, c, d, e, f, rfl⟩
theorem list5 {α : Type} {l : List α} (h : l.length = 5) : ∃ a b c d e, l = [a, b, c, d, e] := by
  match l, h with
  | [a, b, c, d, e], _ => exact ⟨a, b, c, d, e, rfl⟩
def i64ok (z : Int) : Prop := -9223372036854775808 ≤ z ∧ z ≤ 9223372036854775807
set_option maxRecDepth 100000 in
theorem tyI {n : Nat} {ds : List D} (h : HasTy Try.prog (n + 1) 3 ds) : ∃ z : Int, ds = [iv z] ∧ i64ok z := by
  simp only [HasTy, Try.underlying3] at h
  obtain ⟨z, h1, h2⟩ := h
  exact ⟨z, h1, wf_i64 h2⟩
set_option maxRecDepth 100000 in
theorem tyRow {n : Nat} {ds : List D} (h : HasTy Try.prog (n + 2) 53 ds) : ∃ x : Row, ds = x.cells ∧ i64ok x.r ∧ i64ok x.t ∧ i64ok x.ns ∧ i64ok x.ew ∧ i64ok x.s := by
  rw [HasTy, Try.underlying53] at h
  simp only [cells53] at h
  obtain ⟨hl, h⟩ := h
  obtain ⟨a, b, c, d, e, rfl⟩ := list5 hl
  simp only [List.mem_cons, List.not_mem_nil, or_false, forall_eq_or_imp, forall_eq, cells3, List.drop_zero, List.drop_succ_cons, List.take_succ_cons, List.take_zero] at h
  obtain ⟨h1, h2, h3, h4, h5⟩ := h
  obtain ⟨z1, e1, w1⟩ := tyI h1
  obtain ⟨z2, e2, w2⟩ := tyI h2
  obtain ⟨z3, e3, w3⟩ := tyI h3
  obtain ⟨z4, e4, w4⟩ := tyI h4
  obtain ⟨z5, e5, w5⟩ := tyI h5
  simp only [List.cons.injEq, and_true] at e1 e2 e3 e4 e5
  subst e1 e2 e3 e4 e5
  exact ⟨⟨z1, z2, z3, z4, z5⟩, rfl, w1, w2, w3, w4, w5⟩
def Mv.i64 (m : Mv) : Prop := i64ok m.t ∧ i64ok m.r ∧ i64ok m.s ∧ i64ok m.c ∧ i64ok m.w ∧ ∀ x ∈ m.rows, i64ok x.r ∧ i64ok x.t ∧ i64ok x.ns ∧ i64ok x.ew ∧ i64ok x.s
set_option maxRecDepth 100000 in
theorem argMv {d : D} (h : ArgTy Try.prog 4 24 d) : ∃ m : Mv, m.i64 ∧ d = .agg m.cells := by
  simp only [ArgTy, Try.underlying24] at h
  obtain ⟨ds, rfl, h⟩ := h
  rw [HasTy, Try.underlying24] at h
  simp only [cells24] at h
  obtain ⟨hl, h⟩ := h
  obtain ⟨a, b, c, d, e, f, rfl⟩ := list6 hl
  simp only [List.mem_cons, List.not_mem_nil, or_false, forall_eq_or_imp, forall_eq, cells3, cells22, List.drop_zero, List.drop_succ_cons, List.take_succ_cons, List.take_zero] at h
  obtain ⟨h1, h2, h3, h4, h5, h6⟩ := h
  obtain ⟨z1, e1, w1⟩ := tyI h1
  obtain ⟨z2, e2, w2⟩ := tyI h2
  obtain ⟨z3, e3, w3⟩ := tyI h3
  obtain ⟨z4, e4, w4⟩ := tyI h4
  obtain ⟨z5, e5, w5⟩ := tyI h5
  rw [HasTy, Try.underlying22] at h6
  obtain ⟨es, e6, _, h6⟩ := h6
  simp only [List.cons.injEq, and_true] at e1 e2 e3 e4 e5 e6
  subst e1 e2 e3 e4 e5 e6
  obtain ⟨l, rfl, hlt⟩ := list_of Row.cells (fun x : Row => i64ok x.r ∧ i64ok x.t ∧ i64ok x.ns ∧ i64ok x.ew ∧ i64ok x.s) (l := es) fun y hy => tyRow (h6 y hy)
  exact ⟨⟨z1, z2, z3, z4, z5, l⟩, ⟨w1, w2, w3, w4, w5, hlt⟩, rfl⟩
set_option maxRecDepth 100000 in
theorem tyIs {n : Nat} {ds : List D} (h : HasTy Try.prog (n + 2) 34 ds) : ∃ L : List Int, ds = [.list (ints L)] ∧ ∀ z ∈ L, i64ok z := by
  rw [HasTy, Try.underlying34] at h
  obtain ⟨es, e, _, h⟩ := h
  obtain ⟨l, rfl, hlt⟩ := list_of (fun z : Int => [iv z]) i64ok (l := es) fun y hy => tyI (h y hy)
  exact ⟨l, e, hlt⟩
set_option maxRecDepth 100000 in
theorem argIs {d : D} (h : ArgTy Try.prog 4 34 d) : ∃ L : List Int, d = .list (ints L) ∧ ∀ z ∈ L, i64ok z := by
  simp only [ArgTy, Try.underlying34] at h
  obtain ⟨L, e, hL⟩ := tyIs h
  simp only [List.cons.injEq, and_true] at e
  exact ⟨L, e, hL⟩
set_option maxRecDepth 100000 in
theorem argLs {d : D} (h : ArgTy Try.prog 4 25 d) : ∃ Ls : List (List Int), d = .list (lists Ls) := by
  simp only [ArgTy, Try.underlying25] at h
  rw [HasTy, Try.underlying25] at h
  obtain ⟨es, e, _, h⟩ := h
  obtain ⟨l, rfl, hlt⟩ := list_of (fun L : List Int => [.list (ints L)]) (fun _ => True) (l := es) fun y hy => by
    obtain ⟨L, e, _⟩ := tyIs (h y hy)
    exact ⟨L, e, trivial⟩
  simp only [List.cons.injEq, and_true] at e
  exact ⟨l, e⟩
theorem params3L : Try.f3.params.toList = [24, 25] := by rw [Try.params3]
set_option maxRecDepth 100000 in
theorem best_args (Ds : List D) (h : ArgsTy Try.prog 4 Try.f3.params.toList Ds) : VCp Try.prog 3 Ds (bv true) := by
  rw [params3L] at h
  obtain ⟨d0, r0, rfl, h0, h⟩ := argsTy_cons h
  obtain ⟨d1, r1, rfl, h1, h⟩ := argsTy_cons h
  obtain rfl := argsTy_nil h
  obtain ⟨m, hm, rfl⟩ := argMv h0
  obtain ⟨Ls, rfl⟩ := argLs h1
  exact c3 m Ls
theorem best_spec {H : Type} (ds : List (DataW H)) (hl : ds.length = Try.f3.params.size) : Rows.turnBestSpec.fn H ds = { results := [.lit (.bool true)], args := ds } := by
  rw [Try.params3] at hl
  match ds, hl with
  | [a, b], _ => rfl
theorem best_tys : ∀ t ∈ Try.f3.params.toList, TyOK t := by
  rw [params3L]
  simp [tyOK24, tyOK25]
set_option maxRecDepth 100000 in
theorem best_lifted (os : Os) (started : os.Started) (H : Type) (enc : TypeId × Value → H) :
    ReturnsInHanded {} Try.checked os 3 .any (Rows.turnBestSpec.pre6 enc Try.prog Try.f3 Rows.turnBestRow.domain false) (Rows.turnBestSpec.post enc Try.prog Try.f3 false true false false) := by
  refine returnsInHanded_of_change (C := Try.checked) own started (by kernel_rfl) Try.func3
    (ChangeSpec.witness6 (enc := enc) (C := Try.checked) false ⟨#[], #[.agg #[.int .i64 0, .int .i64 0, .int .i64 0, .int .i64 0, .int .i64 0, .slice none 0 0], .slice none 0 0], []⟩ 8 (by kernel_rfl) (by kernel_rfl) (by kernel_rfl) (by kernel_rfl)) ?_
  intro W base args ds gs before hval hW _ _
  exact law_contract (P := Try.prog) (fn := Try.f3) (s := Rows.turnBestSpec) (n := 4) (tb := 4) laidOut rfl best_spec (by kernel_rfl) Try.underlying4 best_tys best_args W base args ds gs before hval hW
/-- The statement. -/
theorem turnBest_holds : Rows.TurnBestSaid :=
  OpenClaim.holds_of_wide 3 Try.f3 rfl rfl rfl rfl rfl rfl rfl ⟨rfl, rfl, rfl, rfl, rfl⟩ rfl rfl rfl rfl rfl (by kernel_rfl) Try.func3 (by kernel_rfl)
    (of_decide_eq_true (by kernel_rfl)) (by unfold Func.isWrapper; first | (rw [if_pos (by decide +kernel)]; kernel_rfl) | (rw [if_neg (by decide +kernel)]; exact ⟨rfl, rfl⟩))
    (fun os started H enc _ => best_lifted os started H enc)
end Go.Proofs.Ytpmgaaalfdjikaa
