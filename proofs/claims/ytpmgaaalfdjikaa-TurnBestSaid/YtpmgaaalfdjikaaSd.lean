/- Contracts: Table, SameIntLists, slices.Max. Lemmas; no condition. -/
import Derived.Test.YtpmgaaalfdjikaaSa
import Derived.Test.YtpmgaaalfdjikaaRc
namespace Go.Proofs.Ytpmgaaalfdjikaa
open Go.RowKit
set_option linter.unusedSimpArgs false
set_option linter.unusedVariables false

def W26 : WC × List VRes := ((.seq (.reg [(.stm (.eff (.box 1 (.t 0)) none)), (.set [(2, (.c .nil)), (3, (.c (.v (.int .i64 0))))] [2, 3])]) (.seq (.seq (.reg [(.set [(10, (.ap .inot [(.ap (.call 27) [(.ap (.load 6 true) [(.t 1)])])]))] [8, 9, 10])]) (.cond (.t 10) (.seq (.reg [(.set [(2, (.c .nil)), (3, (.c (.v (.int .i64 290))))] [2, 3])]) .ret) .skip)) (.seq (.reg [(.set [(4, (.ap (.call 53) [(.ap (.load 6 true) [(.t 1)])]))] [11, 12, 4])]) (.seq (.reg [(.set [(13, (.ap (.load 6 true) [(.t 1)]))] [13]), (.stm (.eff (.callq 14 54 [(.t 13)]) none)), (.set [(5, (.t 14))] [5])]) (.seq (.reg [(.set [(6, (.c .nil))] [6])]) (.seq (.seq (.reg [(.set [(7, (.c (.v (.int .i64 1))))] [7])]) (.block 0 (.loop (.seq (.seq (.reg [(.set [(17, (.ap (.ibin .leq) [(.t 7), (.t 4)]))] [15, 16, 17])]) (.cond (.t 17) .skip (.exit 0))) (.seq (.block 1 (.reg [(.set [(20, (.t 6)), (27, (.ap (.sla 50 true true) [(.ap (.aidx 50 50) [(.ap .chk [(.t 5)]), (.t 7)]), (.c (.v (.int .i64 1))), (.ap (.ibin .add) [(.t 4), (.c (.v (.int .i64 1)))])]))] [20, 21, 22, 23, 24, 25, 26, 27]), (.stm (.eff (.callq 28 55 [(.t 27)]) none)), (.stm (.eff (.lit 29 34 1 1 [.nil] [(0, 1)] [(.t 28)]) none)), (.stm (.eff (.app 30 34 1 (.t 20) (.t 29)) none)), (.set [(6, (.t 30))] [6])])) (.reg [(.set [(7, (.ap (.ibin .add) [(.t 7), (.c (.v (.int .i64 1)))]))] [18, 19, 7])])))))) (.seq (.reg [(.set [(2, (.t 6)), (3, (.c (.v (.int .i64 0))))] [31, 2, 3])]) .ret))))))), [(.t 2), (.t 3)])
theorem is26 : IsFn Try.prog frOf 26 Try.f26 W26 := ⟨by kernel_rfl, by kernel_rfl, by kernel_rfl⟩
theorem nt26 : Try.f26.ntmps = 32 := by kernel_rfl
def W30 : WC × List VRes := ((.seq (.reg [(.set [(4, (.c (.v (.bool false))))] [4])]) (.seq (.seq (.reg [(.set [(10, (.ap (.ibin .neq) [(.ap .llen [(.t 0)]), (.ap .llen [(.t 1)])]))] [6, 7, 8, 9, 10])]) (.cond (.t 10) (.seq (.reg [(.set [(4, (.c (.v (.bool false))))] [4])]) .ret) .skip)) (.seq (.seq (.reg [(.set [(5, (.c (.v (.int .i64 0))))] [5])]) (.block 0 (.loop (.seq (.seq (.reg [(.set [(14, (.ap (.ibin .lss) [(.t 5), (.ap .llen [(.t 0)])]))] [11, 12, 13, 14])]) (.cond (.t 14) .skip (.exit 0))) (.seq (.block 1 (.seq (.reg [(.set [(26, (.ap .inot [(.ap (.call 38) [(.ap (.load 1 false) [(.ap (.idx 34 1) [(.t 0), (.t 5)])]), (.ap (.load 1 false) [(.ap (.idx 34 1) [(.t 1), (.t 5)])])])]))] [17, 18, 19, 20, 21, 22, 23, 24, 25, 26])]) (.cond (.t 26) (.seq (.reg [(.set [(4, (.c (.v (.bool false))))] [4])]) .ret) .skip))) (.reg [(.set [(5, (.ap (.ibin .add) [(.t 5), (.c (.v (.int .i64 1)))]))] [15, 16, 5])])))))) (.seq (.reg [(.set [(4, (.c (.v (.bool true))))] [4])]) .ret)))), [(.t 4)])
theorem is30 : IsFn Try.prog frOf 30 Try.f30 W30 := ⟨by kernel_rfl, by kernel_rfl, by kernel_rfl⟩
theorem nt30 : Try.f30.ntmps = 27 := by kernel_rfl
def W57 : WC × List VRes := ((.seq (.reg [(.set [(2, (.c (.v (.int .i64 0))))] [2])]) (.seq (.seq (.reg [(.set [(7, (.ap (.ibin .lss) [(.ap .llen [(.t 0)]), (.c (.v (.int .i64 1)))]))] [5, 6, 7])]) (.cond (.t 7) (.reg [(.stm .bad), (.stm .bad)]) .skip)) (.seq (.reg [(.set [(3, (.ap (.load 1 false) [(.ap (.idx 3 1) [(.t 0), (.c (.v (.int .i64 0)))])]))] [9, 10, 11, 3])]) (.seq (.seq (.reg [(.set [(4, (.c (.v (.int .i64 1))))] [4])]) (.block 0 (.loop (.seq (.seq (.reg [(.set [(15, (.ap (.ibin .lss) [(.t 4), (.ap .llen [(.t 0)])]))] [12, 13, 14, 15])]) (.cond (.t 15) .skip (.exit 0))) (.seq (.block 1 (.reg [(.set [(3, (.ap (.mx2 true) [(.t 3), (.ap (.load 1 false) [(.ap (.idx 3 1) [(.t 0), (.t 4)])])]))] [18, 19, 20, 21, 22, 23, 3])])) (.reg [(.set [(4, (.ap (.ibin .add) [(.t 4), (.c (.v (.int .i64 1)))]))] [16, 17, 4])])))))) (.seq (.reg [(.set [(2, (.t 3))] [24, 2])]) .ret))))), [(.t 2)])
theorem is57 : IsFn Try.prog frOf 57 Try.f57 W57 := ⟨by kernel_rfl, by kernel_rfl, by kernel_rfl⟩
theorem nt57 : Try.f57.ntmps = 25 := by kernel_rfl


/-- Lists, each a slice of its own. -/
def hdsF (tk : Nat → Tok) : Nat → List (List Int) → List (List D)
  | _, [] => []
  | j, L :: Ls => [hd (tk j) L] :: hdsF tk (j + 1) Ls
theorem hdsF_len (tk : Nat → Tok) : ∀ (Ls : List (List Int)) (j : Nat), (hdsF tk j Ls).length = Ls.length
  | [], _ => rfl
  | _ :: Ls, j => by simp [hdsF, hdsF_len tk Ls (j + 1)]
theorem hdsF_snoc (tk : Nat → Tok) (L : List Int) : ∀ (Ls : List (List Int)) (j : Nat), hdsF tk j (Ls ++ [L]) = hdsF tk j Ls ++ [[hd (tk (j + Ls.length)) L]]
  | [], j => by simp [hdsF]
  | L' :: Ls, j => by
    simp only [List.cons_append, hdsF, hdsF_snoc tk L Ls (j + 1), List.length_cons]
    rw [show j + 1 + Ls.length = j + (Ls.length + 1) by omega]
theorem hdsF_size (tk : Nat → Tok) : ∀ (Ls : List (List Int)) (j : Nat), ∀ c ∈ hdsF tk j Ls, c.length = 1
  | [], _, c, h => by simp [hdsF] at h
  | L :: Ls, j, c, h => by
    simp only [hdsF, List.mem_cons] at h
    rcases h with rfl | h
    · rfl
    · exact hdsF_size tk Ls (j + 1) c h
@[simp] theorem hdsF_fa (tk : Nat → Tok) (j : Nat) (Ls : List (List Int)) : (∀ c, c ∈ hdsF tk j Ls → c.length = 1) = True := by
  simp only [eq_iff_iff, iff_true]; exact hdsF_size tk Ls j
@[simp] theorem hdsF_ex (tk : Nat → Tok) (j : Nat) (Ls : List (List Int)) : (∃ c, c ∈ hdsF tk j Ls ∧ ¬ c.length = 1) = False := by
  simp only [eq_iff_iff, iff_false]; rintro ⟨c, h1, h2⟩; exact h2 (hdsF_size tk Ls j c h1)
theorem hdsF_at (tk : Nat → Tok) : ∀ (Ls : List (List Int)) (j k : Nat) (h : k < Ls.length), (hdsF tk j Ls)[k]? = some [hd (tk (j + k)) Ls[k]]
  | L :: Ls, j, 0, h => rfl
  | L :: Ls, j, k + 1, h => by
    have := hdsF_at tk Ls (j + 1) k (by simpa using h)
    simp only [hdsF, List.getElem?_cons_succ, List.getElem_cons_succ]
    rw [this, show j + 1 + k = j + (k + 1) by omega]
theorem hd_renC (f : Tok → Tok) (t : Tok) (L : List Int) : (hd t L).renC f = hd (f t) L := by unfold hd; split <;> rfl
theorem hdsF_ren (tk : Nat → Tok) (f : Tok → Tok) : ∀ (Ls : List (List Int)) (j : Nat), (hdsF tk j Ls).map (List.map (D.renC f)) = hdsF (fun j => f (tk j)) j Ls
  | [], _ => rfl
  | L :: Ls, j => by simp only [hdsF, List.map_cons, List.map_nil, hd_renC, hdsF_ren tk f Ls (j + 1)]
def LsF (tk gr : Nat → Tok) (m : Mem) (j : Nat) (Ls : List (List Int)) : Prop := ∀ i L, Ls[i]? = some L → L ≠ [] → m (tk (j + i)) = some (.row (gr (j + i)) 3 (ints L))
theorem view_listsF {tk gr : Nat → Tok} {m : Mem} {n : Nat} : ∀ {Ls : List (List Int)} {j : Nat}, LsF tk gr m j Ls → viewRows (viewC m (n + 1)) (hdsF tk j Ls) = some (lists Ls)
  | [], j, _ => rfl
  | L :: Ls, j, h => by
    have ih := view_listsF (n := n) (Ls := Ls) (j := j + 1) fun i L' hi hL => by
      have := h (i + 1) L' (by simpa using hi) hL
      rwa [show j + (i + 1) = j + 1 + i by omega] at this
    rw [hdsF, viewRows_cons (viewC m (n + 1)) _ _ (fun _ => rfl), ih]
    have h0 : viewRow (viewC m (n + 1)) [hd (tk j) L] = some [.list (ints L)] := by
      rw [viewRow_cons (viewC m (n + 1)) _ _ (fun _ => rfl), hd_viewC (fun hne => ⟨_, by have := h 0 L rfl hne; simpa using this⟩)]
      simp
    rw [h0]
    rfl
theorem LsF.old {tk gr : Nat → Tok} {m m' : Mem} {Ls : List (List Int)} {j : Nat} (h : LsF tk gr m j Ls) (hm : ∀ i, i < Ls.length → ∀ es, m (tk (j + i)) = some (.row (gr (j + i)) 3 es) → m' (tk (j + i)) = some (.row (gr (j + i)) 3 es)) : LsF tk gr m' j Ls :=
  fun i L hi hL => hm i (List.getElem?_eq_some_iff.1 hi).1 _ (h i L hi hL)
theorem LsF.snoc {tk gr : Nat → Tok} {m : Mem} {Ls : List (List Int)} {j : Nat} (h : LsF tk gr m j Ls) {L : List Int} (hL : L ≠ [] → m (tk (j + Ls.length)) = some (.row (gr (j + Ls.length)) 3 (ints L))) : LsF tk gr m j (Ls ++ [L]) := fun i L' hi hne => by
  by_cases hlt : i < Ls.length
  · rw [List.getElem?_append_left hlt] at hi; exact h i L' hi hne
  · have : i = Ls.length := by
      have := (List.getElem?_eq_some_iff.1 hi).1
      simp at this; omega
    subst this
    simp at hi
    subst hi
    exact hL hne
/-- .. handed back. -/
def tableMem (Ls : List (List Int)) : Mem := fun t => match t with
  | [] => some (.row [0] 34 (hdsF (fun j => [j + 1]) 0 Ls))
  | [0] => none
  | [k + 1] => (Ls[k]?).bind fun L => if L = [] then none else some (.row [0, k] 3 (ints L))
  | _ => none
theorem tableMem_LsF (Ls : List (List Int)) : LsF (fun j => [j + 1]) (fun j => [0, j]) (tableMem Ls) 0 Ls := fun i L hi hL => by
  simp only [Nat.zero_add, tableMem, hi, Option.bind_some, if_neg hL]
def tableRen (t g : Tok) (tk gr : Nat → Tok) : Tok → Tok
  | [] => t
  | [0] => g
  | [k + 1] => tk k
  | [0, k] => gr k
  | _ => []
theorem Out.table {σ : St} {t g : Tok} {tk gr : Nat → Tok} {n : Nat} {Ls : List (List Int)} {x : Value} (h : σ.m t = some (.row g 34 (hdsF tk 0 Ls))) (hl : LsF tk gr σ.m 0 Ls) (ht : ∀ k, tk k ≠ t) (hi : ∀ j k, tk j = tk k → j = k) (hg : ∀ k, gr k ≠ g) (hgi : ∀ j k, gr j = gr k → j = k) :
    Out σ (.tup [.sl t 1 0 n none, .v x]) (.tup [.sl [] 1 0 n none, .v x]) (tableMem Ls) := by
  refine ⟨tableRen t g tk gr, rfl, rfl, fun s o ho => ?_, fun s s' o o' h1 h2 he => ?_⟩
  · unfold tableMem at ho
    split at ho
    · cases ho
      refine ⟨fun c hc d hd' => ?_, ?_⟩
      · have : ∀ (Ls : List (List Int)) (j : Nat) (tk : Nat → Tok), ∀ c ∈ hdsF tk j Ls, ∀ d ∈ c, d.noFC = true := by
          intro Ls
          induction Ls with
          | nil => intro j tk c hc; simp [hdsF] at hc
          | cons L Ls ih =>
            intro j tk c hc d hd'
            simp only [hdsF, List.mem_cons] at hc
            rcases hc with rfl | hc
            · simp only [List.mem_singleton] at hd'
              subst hd'
              unfold hd
              split <;> rfl
            · exact ih _ _ c hc d hd'
        exact this Ls 0 _ c hc d hd'
      · simp only [HO.ren, hdsF_ren, tableRen, h]
    · cases ho
    · rename_i k
      rw [Option.bind_eq_some_iff] at ho
      obtain ⟨L, hL, ho⟩ := ho
      split at ho
      · cases ho
      · rename_i hne
        cases ho
        refine ⟨fun c hc d hd' => ?_, ?_⟩
        · obtain ⟨z, _, rfl⟩ := List.mem_map.1 hc
          simp only [List.mem_singleton] at hd'
          subst hd'
          rfl
        · have := hl k L hL hne
          simp only [Nat.zero_add] at this
          simp only [HO.ren, ints_ren, tableRen, this]
    · cases ho
  · have dom : ∀ s o, tableMem Ls s = some o → (s = [] ∧ (o.ren (tableRen t g tk gr)).grp = some g) ∨ ∃ k, s = [k + 1] ∧ (o.ren (tableRen t g tk gr)).grp = some (gr k) := fun s o ho => by
      unfold tableMem at ho
      split at ho
      · cases ho
        exact .inl ⟨rfl, rfl⟩
      · cases ho
      · rename_i k
        rw [Option.bind_eq_some_iff] at ho
        obtain ⟨L, hL, ho⟩ := ho
        split at ho
        · cases ho
        · cases ho
          exact .inr ⟨k, rfl, rfl⟩
      · cases ho
    rcases dom s o h1 with ⟨rfl, g1⟩ | ⟨j, rfl, g1⟩ <;> rcases dom s' o' h2 with ⟨rfl, g2⟩ | ⟨k, rfl, g2⟩ <;> rw [g1, g2] at he
    · rcases he with he | ⟨_, he⟩
      · exact absurd he.symm (ht k)
      · exact absurd (Option.some.inj he).symm (hg k)
    · rcases he with he | ⟨_, he⟩
      · exact absurd he (ht j)
      · exact absurd (Option.some.inj he) (hg j)
    · rcases he with he | ⟨_, he⟩
      · rw [hi j k he]
      · rw [hgi j k (Option.some.inj he)]
def tabL (m : Mv) (n : Nat) : List (List Int) := (List.range n).map fun p => (List.range n).map fun q => conT m ((p + 1) * 50 + (q + 1))
theorem tabL_len (m : Mv) (n : Nat) : (tabL m n).length = n := by simp [tabL]
def tableR (m : Mv) : D × Mem :=
  if fitB m = true then (if (great m.rows).toNat = 0 then (.tup [.nil, iv 0], noMem) else (.tup [.sl [] 1 0 (great m.rows).toNat none, iv 0], tableMem (tabL m (great m.rows).toNat))) else (.tup [.nil, iv 290], noMem)
theorem Out.flatNil {σ : St} {x : Value} : Out σ (.tup [.nil, .v x]) (.tup [.nil, .v x]) noMem := Out.flat rfl rfl

theorem c26w (p27 p53 : FP) (q54 q55 : FQ) (m : Mv) (n : Nat) (hn : n ≤ 49) (h27 : p27 [.agg [iv m.t, iv m.r, iv m.s, iv m.c, iv m.w, .list (rowsL m.rows)]] = some (bv true)) (h53 : p53 [.agg [iv m.t, iv m.r, iv m.s, iv m.c, iv m.w, .list (rowsL m.rows)]] = some (iv n))
    (h54 : q54 [.agg [iv m.t, iv m.r, iv m.s, iv m.c, iv m.w, .list (rowsL m.rows)]] = some (.ptr [] 0, boxMem (tab 2500 fun i => iv (conT m i))))
    (h55 : ∀ L : List Int, L ≠ [] → L.length ≤ 1000000 → q55 [.list (ints L)] = some (.sl [] 1 0 L.length none, rowMem 3 (ints L))) (d : D) (mm : Mem) (hd0 : n = 0 → d = .tup [.nil, iv 0] ∧ mm = noMem) (hd1 : 0 < n → d = .tup [.sl [] 1 0 n none, iv 0] ∧ mm = tableMem (tabL m n)) :
    wwp (mkEnv [(27, p27), (53, p53)] [(54, q54), (55, q55)] []) W26.1 (fun e s => okExit e ∧ ∃ d0, resV W26.2 s = some d0 ∧ Out s d0 d mm) (initV [.agg m.cells]) := by
  simp only [W26]
  refine wwp_cut (fun σ => σ.s 1 = .ptr [2, 0] 0 ∧ σ.m [2, 0] = some (.box [iv m.t, iv m.r, iv m.s, iv m.c, iv m.w, .list (rowsL m.rows)]) ∧ σ.c 14 = 0 ∧ σ.c 28 = 0 ∧ σ.c 29 = 0 ∧ σ.c 30 = 0) (by simp [Mv.cells, Mv.cellsW]) ?_
  rintro σ ⟨h1, m2, k1, k2, k3, k4⟩
  refine wwp_cutG (fun σ => σ.s 1 = .ptr [2, 0] 0 ∧ σ.m [2, 0] = some (.box [iv m.t, iv m.r, iv m.s, iv m.c, iv m.w, .list (rowsL m.rows)]) ∧ σ.c 14 = 0 ∧ σ.c 28 = 0 ∧ σ.c 29 = 0 ∧ σ.c 30 = 0) (by simp [h1, m2, k1, k2, k3, k4, h27]) ?_
  clear h1 m2 k1 k2 k3 k4 σ
  rintro σ ⟨h1, m2, k1, k2, k3, k4⟩
  refine wwp_cut (fun σ => σ.s 1 = .ptr [2, 0] 0 ∧ σ.m [2, 0] = some (.box [iv m.t, iv m.r, iv m.s, iv m.c, iv m.w, .list (rowsL m.rows)]) ∧ σ.c 14 = 0 ∧ σ.c 28 = 0 ∧ σ.c 29 = 0 ∧ σ.c 30 = 0 ∧ σ.s 4 = iv n) (by simp [h1, m2, k1, k2, k3, k4, h53]) ?_
  clear h1 m2 k1 k2 k3 k4 σ
  rintro σ ⟨h1, m2, k1, k2, k3, k4, h4⟩
  refine wwp_cut (fun σ => σ.c 28 = 0 ∧ σ.c 29 = 0 ∧ σ.c 30 = 0 ∧ σ.s 4 = iv n ∧ σ.s 5 = .ptr [15, 0] 0 ∧ σ.m [15, 0] = some (.box (tab 2500 fun i => iv (conT m i)))) (by simp [h1, m2, k1, k2, k3, k4, h4, h54]) ?_
  clear h1 m2 k1 k2 k3 k4 h4 σ
  rintro σ ⟨k2, k3, k4, h4, h5, m15⟩
  obtain ⟨Ls, hLs⟩ : ∃ Ls, Ls = tabL m n := ⟨_, rfl⟩
  have hLl : Ls.length = n := by rw [hLs, tabL_len]
  refine wwp_cut (fun σ => σ.c 28 = 0 ∧ σ.c 29 = 0 ∧ σ.c 30 = 0 ∧ σ.s 4 = iv n ∧ σ.s 5 = .ptr [15, 0] 0 ∧ σ.m [15, 0] = some (.box (tab 2500 fun i => iv (conT m i))) ∧ σ.s 6 = .nil) (by simp [k2, k3, k4, h4, h5, m15]) ?_
  clear k2 k3 k4 h4 h5 m15 σ
  rintro σ ⟨k2, k3, k4, h4, h5, m15, h6⟩
  refine wwp_cutG (fun σ => σ.s 6 = (if n = 0 then .nil else .sl [31, n - 1] 1 0 n none) ∧ (0 < n → σ.m [31, n - 1] = some (.row [31, 0] 34 (hdsF (fun j => [29, j]) 0 Ls))) ∧ LsF (fun j => [29, j]) (fun j => [29, j, 0]) σ.m 0 Ls) ?_ ?_
  · refine wwp_cut (fun σ => σ.c 28 = 0 ∧ σ.c 29 = 0 ∧ σ.c 30 = 0 ∧ σ.s 4 = iv n ∧ σ.s 5 = .ptr [15, 0] 0 ∧ σ.m [15, 0] = some (.box (tab 2500 fun i => iv (conT m i))) ∧ σ.s 6 = .nil ∧ σ.s 7 = iv 1) (by simp [k2, k3, k4, h4, h5, m15, h6]) ?_
    clear k2 k3 k4 h4 h5 m15 h6 σ
    rintro σ ⟨k2, k3, k4, h4, h5, m15, h6, h7⟩
    simp only [wwp_block]
    refine wwp_loop (fun σ => ∃ k : Nat, k ≤ n ∧ σ.c 28 = k ∧ σ.c 29 = k ∧ σ.c 30 = k ∧ σ.s 4 = iv n ∧ σ.s 5 = .ptr [15, 0] 0 ∧ σ.m [15, 0] = some (.box (tab 2500 fun i => iv (conT m i))) ∧ σ.s 6 = varOf 31 k ∧ σ.s 7 = iv (k + 1) ∧
      (0 < k → σ.m [31, k - 1] = some (.row [31, 0] 34 (hdsF (fun j => [29, j]) 0 (Ls.take k)))) ∧ LsF (fun j => [29, j]) (fun j => [29, j, 0]) σ.m 0 (Ls.take k)) (fun σ => cnt (n + 1) (σ.s 7)) ?_ ?_
    · exact ⟨0, by omega, k2, k3, k4, h4, h5, m15, by simpa [varOf] using h6, by simpa using h7, by omega, fun i L h => by simp at h⟩
    · clear k2 k3 k4 h4 h5 m15 h6 h7 σ
      rintro σ hw ⟨k, hk, k2, k3, k4, h4, h5, m15, h6, h7, m31, hls⟩
      by_cases hlt : k < n
      · have hlL : k < Ls.length := by omega
        have htk : Ls.take (k + 1) = Ls.take k ++ [Ls[k]] := List.take_succ_eq_append_getElem hlL
        have hLk : Ls[k] = (List.range n).map fun q => conT m ((k + 1) * 50 + (q + 1)) := by
          have : ∀ (Ls : List (List Int)) (h : k < Ls.length), Ls = tabL m n → Ls[k] = (List.range n).map fun q => conT m ((k + 1) * 50 + (q + 1)) := by
            rintro _ h rfl
            simp [tabL]
          exact this Ls hlL hLs
        obtain ⟨L, hL⟩ : ∃ L, L = Ls[k] := ⟨_, rfl⟩
        rw [← hL] at htk hLk
        have hne : L ≠ [] := by rw [hLk]; simp; omega
        have hln : L.length = n := by rw [hLk]; simp
        have e55 := h55 L hne (by omega)
        have hcut : (((tab 2500 fun i => iv (conT m i)).drop ((k + 1) * 50 + 1)).take n).map (fun d => [d]) = ints L := by
          apply List.ext_getElem?
          intro i
          simp only [List.getElem?_map, List.getElem?_take, List.getElem?_drop]
          by_cases hi : i < n
          · rw [if_pos hi, tab_at (show (k + 1) * 50 + 1 + i < 2500 by omega), ints_at (by omega)]
            have e : L[i]'(by omega) = conT m ((k + 1) * 50 + (i + 1)) := by simp [hLk]
            rw [e, show (k + 1) * 50 + 1 + i = (k + 1) * 50 + (i + 1) by omega]
            rfl
          · rw [if_neg hi]
            have e : (ints L)[i]? = none := List.getElem?_eq_none (by rw [ints_len]; omega)
            rw [e]
            rfl
        have hw1 : IntKind.i64.wrap ((k : Int) + 1 + 1) = (k : Int) + 1 + 1 := wrap_in (by omega) (by omega)
        have hwn : IntKind.i64.wrap ((n : Int) + 1) = (n : Int) + 1 := wrap_in (by omega) (by omega)
        have a1 : (k : Int) + 1 ≤ n := by omega
        have b1 : (1 : Int) ≤ (n : Int) + 1 := by omega
        have b2 : (n : Int) + 1 ≤ 50 := by omega
        have b3 : (k + 1) * 50 + 1 + n ≤ 2500 := by omega
        have a2 : (0 : Int) ≤ (k : Int) + 1 ∧ (k : Int) + 1 < 50 := by omega
        rcases Nat.eq_zero_or_pos k with h0 | h0
        · subst h0
          simp [varOf] at h6
          simp at a1 a2 b3 hcut hw1
          simp [h4, h5, h7, h6, m15, k2, k3, k4, hw1, hwn, a1, a2, b1, b2, b3, hcut, one_made, e55]
          refine ⟨⟨1, by omega, rfl, by simp [varOf], by omega, fun _ => ?_, ?_⟩, by omega⟩
          · rw [htk, hdsF_snoc]
            simp [hd, hne, hdsF]
          · rw [htk]
            refine LsF.snoc (hls.old fun i hi es h => ?_) fun _ => ?_
            · simp at hi
            · simp [k2]
        · have n0 : ¬ k = 0 := by omega
          simp [varOf, n0] at h6
          have m31 := m31 h0
          have hmm : k + 1 ≤ maxMade := by unfold maxMade; omega
          have hfl := hdsF_len (fun j => [29, j]) (Ls.take k) 0
          have htl : (Ls.take k).length = k := by rw [List.length_take]; omega
          rw [htl] at hfl
          simp [h4, h5, h7, h6, m15, m31, k2, k3, k4, hw1, hwn, a1, a2, b1, b2, b3, hcut, hmm, hfl, one_made, e55]
          refine ⟨⟨k + 1, by omega, rfl, by simp [varOf], by omega, fun _ => ?_, ?_⟩, by omega⟩
          · rw [htk, hdsF_snoc]
            simp [hd, hne, htl, hfl, List.take_of_length_le]
          · rw [htk]
            refine LsF.snoc (hls.old fun i hi es h => ?_) fun _ => ?_
            · rw [htl] at hi
              have hik : ¬ i = k := by omega
              simp at h
              simp [h, k2, k3, k4, hik]
            · simp [htl, k2]
      · have hkn : k = n := by omega
        subst hkn
        rw [show Ls.take k = Ls by rw [← hLl]; exact List.take_length] at m31 hls
        have a1 : ¬ (k : Int) + 1 ≤ k := by omega
        simp [h4, h7, a1]
        exact ⟨by simpa [varOf] using h6, m31, hls⟩
  · clear k2 k3 k4 h4 h5 m15 h6 σ
    rintro σ ⟨h6, m31, hls⟩
    rcases Nat.eq_zero_or_pos n with h0 | h0
    · obtain ⟨rfl, rfl⟩ := hd0 h0
      rw [if_pos h0] at h6
      simp [h6]
      exact Out.flatNil
    · obtain ⟨rfl, rfl⟩ := hd1 h0
      rw [if_neg (by omega)] at h6
      rw [← hLs]
      simp [h6]
      exact Out.table (g := [31, 0]) (tk := fun j => [29, j]) (gr := fun j => [29, j, 0]) (by simpa using m31 h0) (by simpa [LsF] using hls) (fun k e => by simp at e) (fun j k e => by simpa using e) (fun k e => by simp at e) (fun j k e => by simpa using e)
theorem c26bad (p27 p53 : FP) (q54 q55 : FQ) (m : Mv) (h27 : p27 [.agg [iv m.t, iv m.r, iv m.s, iv m.c, iv m.w, .list (rowsL m.rows)]] = some (bv false)) :
    wwp (mkEnv [(27, p27), (53, p53)] [(54, q54), (55, q55)] []) W26.1 (fun e s => okExit e ∧ ∃ d0, resV W26.2 s = some d0 ∧ Out s d0 (.tup [.nil, iv 290]) noMem) (initV [.agg m.cells]) := by
  simp [W26, Mv.cells, Mv.cellsW, h27]
  exact Out.flatNil
theorem asMv_self (m : Mv) : asMv m.cells = some m := by simp only [Mv.cells, Mv.cellsW, asMv_cells]
theorem S27_at (m : Mv) : S27 [.agg m.cells] = some (bv (fitB m)) := by rw [S27, asMv_self]; rfl
theorem S53_at (m : Mv) (h : m.rows.length ≤ 1000000) : S53 [.agg m.cells] = some (iv (great m.rows)) := by rw [S53, asMv_self, Option.bind_some, if_pos h]
theorem S54_at (m : Mv) (h : m.rows.length ≤ 1000000) (hp : inPairs m.rows = true) : S54 [.agg m.cells] = some (.ptr [] 0, boxMem (tab 2500 fun i => iv (conT m i))) := by rw [S54, asMv_self, Option.bind_some, if_pos ⟨h, hp⟩]
theorem S55_at (L : List Int) (h : L ≠ []) (hl : L.length ≤ 1000000) : S55 [.list (ints L)] = some (.sl [] 1 0 L.length none, rowMem 3 (ints L)) := by
  have e : L.isEmpty = false := by cases L with | nil => exact absurd rfl h | cons => rfl
  rw [S55, asInts_ints, Option.bind_some, if_pos hl, e]
  rfl
theorem sound26 : Sound Try.prog (mkEnv [(27, S27), (53, S53)] [(54, S54), (55, S55)] []) := sound_mk (by simp [s27, s53]) (by simp [s54, s55]) (by simp)
theorem c26 (m : Mv) : VCq Try.prog 26 [.agg m.cells] (tableR m).1 (tableR m).2 := by
  cases hf : fitB m with
  | false =>
    have e : tableR m = (.tup [.nil, iv 290], noMem) := by unfold tableR; rw [hf]; rfl
    rw [e]
    have h := S27_at m
    rw [hf] at h
    exact wcontract_q sound26 mixed is26 (by rw [nt26]; simp) (c26bad S27 S53 S54 S55 m h)
  | true =>
    have hl := fit_len hf
    have hg := great_bounds (fit_pairs hf)
    obtain ⟨n, hn⟩ : ∃ n : Nat, great m.rows = n := ⟨(great m.rows).toNat, by omega⟩
    have h27 := S27_at m
    rw [hf] at h27
    have h53 := S53_at m (by omega)
    rw [hn] at h53
    have e0 : tableR m = if n = 0 then (.tup [.nil, iv 0], noMem) else (.tup [.sl [] 1 0 n none, iv 0], tableMem (tabL m n)) := by
      unfold tableR
      rw [hf, hn, if_pos rfl]
      simp
    refine wcontract_q sound26 mixed is26 (by rw [nt26]; simp) (c26w S27 S53 S54 S55 m n (by omega) h27 h53 (S54_at m (by omega) (fit_pairs hf)) S55_at _ _ (fun h => ?_) fun h => ?_)
    · rw [e0, if_pos h]; exact ⟨rfl, rfl⟩
    · rw [e0, if_neg (by omega)]; exact ⟨rfl, rfl⟩
def S26 : List D → Option (D × Mem)
  | [.agg xs] => (asMv xs).map tableR
  | _ => none
theorem s26 : OkQ 26 S26 := fun ds d mm h => by
  unfold S26 at h
  split at h
  · obtain ⟨m, hm, h⟩ := Option.map_eq_some_iff.1 h
    rw [asMv_eq hm]
    have := c26 m
    rw [h] at this
    exact this
  · cases h
theorem S26_at (m : Mv) : S26 [.agg m.cells] = some (tableR m) := by rw [S26, asMv_self]; rfl

theorem c30w (p38 : FP) (a b : List (List Int)) (h38 : ∀ i (h : i < a.length) (h' : i < b.length), p38 [.list (ints a[i]), .list (ints b[i])] = some (bv (decide (a[i] = b[i])))) (ha : a.length ≤ 1000000) (hb : b.length ≤ 1000000) :
    wwp (mkEnv [(38, p38)] [] []) W30.1 (fun e s => okExit e ∧ resV W30.2 s = some (bv (decide (a = b)))) (initV [.list (lists a), .list (lists b)]) := by
  simp [W30]
  refine condK_b (fun hl => ?_) (fun hl => ?_)
  · have : a ≠ b := fun e => by subst e; simp at hl
    simp [this]
  · have hl' : a.length = b.length := by simp at hl; omega
    simp
    refine wwp_loop (fun σ => ∃ k : Nat, k ≤ a.length ∧ σ.s 5 = iv k ∧ σ.s 0 = .list (lists a) ∧ σ.s 1 = .list (lists b) ∧ ∀ i (h : i < a.length), i < k → a[i] = b[i]'(by omega)) (fun σ => cnt a.length (σ.s 5)) ?_ ?_
    · exact ⟨0, by omega, by simp, by simp, by simp, by omega⟩
    · rintro σ hw ⟨k, hk, h5, h0, h1, hall⟩
      simp [h5, h0]
      refine condK_dec (fun hlt => ?_) (fun hge => ?_)
      · have hltb : k < b.length := by omega
        have e38 := h38 k hlt hltb
        simp [h5, h0, h1, lists_at hlt, lists_at hltb, hlt, hltb, e38]
        refine condK_b (fun hx => ?_) (fun hx => ?_)
        · have hx' : a[k] ≠ b[k] := by simpa using hx
          have : a ≠ b := fun e => hx' (by subst e; rfl)
          simp [this]
        · have hx' : a[k] = b[k] := by simpa using hx
          simp [h5, h0, h1, wrap_succ (show k ≤ 1000000000 by omega)]
          refine ⟨⟨k + 1, by omega, by omega, fun i hi hik => ?_⟩, by omega⟩
          by_cases h : i < k
          · exact hall i hi h
          · obtain rfl : i = k := by omega
            exact hx'
      · have : a = b := List.ext_getElem hl' fun i hi _ => hall i hi (by omega)
        simp [this]
theorem S38_at (a b : List Int) (ha : a.length ≤ 1000000) (hb : b.length ≤ 1000000) : S38 [.list (ints a), .list (ints b)] = some (bv (decide (a = b))) := by
  rw [S38, asInts_ints, Option.bind_some, asInts_ints, Option.bind_some, if_pos ⟨ha, hb⟩]
theorem sound30 : Sound Try.prog (mkEnv [(38, S38)] [] []) := sound_mk (by simp [s38]) (by simp) (by simp)
theorem c30 (a b : List (List Int)) (ha : a.length ≤ 1000000) (hb : b.length ≤ 1000000) (ha' : ∀ l ∈ a, l.length ≤ 1000000) (hb' : ∀ l ∈ b, l.length ≤ 1000000) : VCp Try.prog 30 [.list (lists a), .list (lists b)] (bv (decide (a = b))) :=
  wcontract_p sound30 mixed is30 (by rw [nt30]; simp) (c30w S38 a b (fun i h h' => S38_at _ _ (ha' _ (List.getElem_mem h)) (hb' _ (List.getElem_mem h'))) ha hb) rfl
def S30 : List D → Option D
  | [.list a, .list b] => (asLists a).bind fun a => (asLists b).bind fun b => if a.length ≤ 1000000 ∧ b.length ≤ 1000000 ∧ a.all (fun l => decide (l.length ≤ 1000000)) = true ∧ b.all (fun l => decide (l.length ≤ 1000000)) = true then some (bv (decide (a = b))) else none
  | _ => none
theorem s30 : OkP 30 S30 := fun ds d h => by
  unfold S30 at h
  split at h
  · rw [Option.bind_eq_some_iff] at h
    obtain ⟨a, ha, h⟩ := h
    rw [Option.bind_eq_some_iff] at h
    obtain ⟨b, hb, h⟩ := h
    split at h <;> cases h
    rename_i hc
    rw [asLists_eq ha, asLists_eq hb]
    exact c30 a b hc.1 hc.2.1 (fun l hl => of_decide_eq_true (List.all_eq_true.1 hc.2.2.1 l hl)) (fun l hl => of_decide_eq_true (List.all_eq_true.1 hc.2.2.2 l hl))
  · cases h
theorem S30_at (a b : List (List Int)) (ha : a.length ≤ 1000000) (hb : b.length ≤ 1000000) (ha' : ∀ l ∈ a, l.length ≤ 1000000) (hb' : ∀ l ∈ b, l.length ≤ 1000000) : S30 [.list (lists a), .list (lists b)] = some (bv (decide (a = b))) := by
  rw [S30, asLists_lists, Option.bind_some, asLists_lists, Option.bind_some, if_pos ⟨ha, hb, List.all_eq_true.2 fun l hl => decide_eq_true (ha' l hl), List.all_eq_true.2 fun l hl => decide_eq_true (hb' l hl)⟩]

def maxL (l : List Int) : Int := (l.drop 1).foldl (fun p x => max p x) (l.getD 0 0)
theorem maxL_succ {l : List Int} {k : Nat} (h : k < l.length) (h0 : 0 < k) : maxL (l.take (k + 1)) = max (maxL (l.take k)) l[k] := by
  match l, h with
  | x :: l, h =>
    obtain ⟨j, rfl⟩ : ∃ j, k = j + 1 := ⟨k - 1, by omega⟩
    simp only [List.length_cons] at h
    simp only [maxL, List.take_succ_cons, List.drop_succ_cons, List.drop_zero, List.getD_cons_zero, List.getElem_cons_succ]
    rw [List.take_succ_eq_append_getElem (by omega), List.foldl_append]
    rfl
theorem c57 (l : List Int) (h0 : l ≠ []) (hl : l.length ≤ 1000000) : VCp Try.prog 57 [.list (ints l)] (iv (maxL l)) := by
  refine wcontract_p sound0 mixed is57 (by rw [nt57]; simp) ?_ rfl
  have hpos : 0 < l.length := List.length_pos_iff.2 h0
  have a1 : ¬ (l.length : Int) < 1 := by omega
  have e0 := ints_at hpos
  simp [W57, h0, a1, e0]
  refine wwp_loop (fun σ => ∃ k : Nat, 1 ≤ k ∧ k ≤ l.length ∧ σ.s 4 = iv k ∧ σ.s 0 = .list (ints l) ∧ σ.s 3 = iv (maxL (l.take k))) (fun σ => cnt l.length (σ.s 4)) ?_ ?_
  · refine ⟨1, by omega, by omega, by simp, by simp, ?_⟩
    match l, h0 with
    | x :: l, _ => simp [maxL]
  · rintro σ hw ⟨k, hk0, hk, h4, h0', h3⟩
    simp [h4, h0']
    refine condK_dec (fun hlt => ?_) (fun hge => ?_)
    · have e := maxL_succ hlt (by omega)
      simp [h4, h0', h3, ints_at hlt, hlt, wrap_succ (show k ≤ 1000000000 by omega)]
      refine ⟨⟨k + 1, by omega, by omega, by omega, ?_⟩, by omega⟩
      rw [e]
      split <;> omega
    · rw [List.take_of_length_le (by omega)] at h3
      simp [h3]
def S57 : List D → Option D
  | [.list a] => (asInts a).bind fun a => if a.length ≤ 1000000 ∧ a.isEmpty = false then some (iv (maxL a)) else none
  | _ => none
theorem s57 : OkP 57 S57 := fun ds d h => by
  unfold S57 at h
  split at h
  · rw [Option.bind_eq_some_iff] at h
    obtain ⟨a, ha, h⟩ := h
    split at h <;> cases h
    rename_i hc
    rw [asInts_eq ha]
    exact c57 a (by rintro rfl; simp at hc) hc.1
  · cases h
theorem S57_at (a : List Int) (ha : a.length ≤ 1000000) (h0 : a.isEmpty = false) : S57 [.list (ints a)] = some (iv (maxL a)) := by
  rw [S57, asInts_ints, Option.bind_some, if_pos ⟨ha, h0⟩]
end Go.Proofs.Ytpmgaaalfdjikaa
