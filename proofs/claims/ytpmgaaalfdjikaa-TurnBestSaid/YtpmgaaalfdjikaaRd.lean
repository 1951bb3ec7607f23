/- TurnLeast: for every sketch and every list of numbers the law returns true, and its arguments read as before. No condition. -/
import Derived.Test.YtpmgaaalfdjikaaRows
import Derived.Test.YtpmgaaalfdjikaaRc
import Derived.Test.YtpmgaaalfdjikaaQd
namespace Go.Proofs.Ytpmgaaalfdjikaa
open Go.RowKit Go.ChangeShapes Go.WideShapes Go.ChangeAt
set_option linter.unusedSimpArgs false
set_option linter.unusedVariables false
set_option linter.constructorNameAsVariable false

theorem sound16 : Sound Try.prog (mkEnv [(18, S18)] [(17, S17)] []) := sound_mk (by simp [s18]) (by simp [s17]) (by simp)
theorem S18_at (m : Mv) : S18 [.agg m.cells] = some (.tup [iv (unbR m).1, iv (unbR m).2]) := by simp [S18, Mv.cells, Mv.cellsW]
theorem c16 (m : Mv) (Ls : List (List Int)) (k : Nat) (hk : k < Ls.length) (hf : fitB m = true) (hr : m.rows.isEmpty = false) (hL : listOK m.r (-1) Ls[k] = true) (hl : Ls[k].length ≤ 1000000) :
    VCp Try.prog 16 [iv k, .lptr m.cells, .lptr [.list (lists Ls)]] (iv (unbV (exch m Ls[k]))) := by
  have h1 := S17_at m Ls[k] hl
  rw [turnR_ok hf hL hr] at h1
  have h2 := S18_at (exch m Ls[k])
  have h3 : unbR (exch m Ls[k]) = (unbV (exch m Ls[k]), 0) := by unfold unbR; rw [if_pos (fit_exch hf)]
  rw [h3] at h2
  have h4 : (exch m Ls[k]).rows.length = m.rows.length := by simp [exch]
  exact wcontract_p sound16 mixed is16 (by rw [nt16]; simp) (c16w S18 S17 m.t m.r m.s m.c m.w (exch m Ls[k]).w (unbV (exch m Ls[k])) k k m.rows.length m.rows (exch m Ls[k]).rows Ls Ls[k] rfl (List.getElem?_eq_getElem hk) h1 h4 h2) rfl
def S16 : List D → Option D
  | [.v (.int .i64 i), .lptr xs, .lptr [.list es]] => (asMv xs).bind fun m => (asLists es).bind fun Ls =>
      if fitB m = true ∧ m.rows.isEmpty = false ∧ 0 ≤ i ∧ i < Ls.length ∧ listOK m.r (-1) (Ls.getD i.toNat []) = true ∧ (Ls.getD i.toNat []).length ≤ 1000000 then some (iv (unbV (exch m (Ls.getD i.toNat [])))) else none
  | _ => none
theorem s16 : OkP 16 S16 := fun ds d h => by
  unfold S16 at h
  split at h
  · rw [Option.bind_eq_some_iff] at h
    obtain ⟨m, hm, h⟩ := h
    rw [Option.bind_eq_some_iff] at h
    obtain ⟨Ls, hL, h⟩ := h
    rename_i i xs es
    split at h <;> cases h
    rename_i hc
    obtain ⟨a1, a2, a3, a4, a5, a6⟩ := hc
    rw [asMv_eq hm, asLists_eq hL]
    have hlt : i.toNat < Ls.length := by omega
    have e : Ls.getD i.toNat [] = Ls[i.toNat] := by simp [List.getD, hlt]
    rw [e] at a5 a6 ⊢
    have := c16 m Ls i.toNat hlt a1 a2 a5 a6
    rwa [Int.toNat_of_nonneg a3] at this
  · cases h
theorem S16_at {m : Mv} {Ls : List (List Int)} {k : Nat} (hk : k < Ls.length) (hf : fitB m = true) (hr : m.rows.isEmpty = false) (hL : listOK m.r (-1) Ls[k] = true) (hl : Ls[k].length ≤ 1000000) :
    S16 [iv k, .lptr m.cells, .lptr [.list (lists Ls)]] = some (iv (unbV (exch m Ls[k]))) := by
  have e : Ls.getD k [] = Ls[k] := by simp [List.getD, hk]
  simp only [S16, Mv.cells, Mv.cellsW, asMv_cells, asLists_lists, Option.bind_some, Int.toNat_natCast, e]
  rw [if_pos ⟨hf, hr, by omega, by omega, hL, hl⟩]
theorem chosenL_ok (r b : Nat) : listOK r (-1) (chosenL r b) = true := by
  rw [listOK_iff]
  refine ⟨⟨fun x hx => ?_, ?_⟩, fun x hx => ?_⟩
  · obtain ⟨k, hk, rfl⟩ := List.mem_map.1 hx
    omega
  · unfold chosenL
    rw [List.pairwise_map]
    refine List.Pairwise.imp (fun h => ?_) ((List.pairwise_lt_range (n := r)).filter _)
    omega
  · obtain ⟨k, hk, rfl⟩ := List.mem_map.1 hx
    have := List.mem_range.1 (List.mem_filter.1 hk).1
    omega
theorem asMv_of (m : Mv) : asMv m.cells = some m := by simp only [Mv.cells, Mv.cellsW, asMv_cells]
theorem S14_at (m : Mv) (r b : Nat) (hr : m.r = r) (hr' : r ≤ 16) (hb : b < 65536) : S14 [.agg m.cells, .v (.int .u16 b)] = some (chosenR r b) := by
  have hc : 0 ≤ (b : Int) ∧ (b : Int) < 65536 ∧ 0 ≤ m.r ∧ m.r ≤ 16 := ⟨by omega, by omega, by omega, by omega⟩
  have e1 : m.r.toNat = r := by omega
  have e2 : (b : Int).toNat = b := by omega
  rw [S14, asMv_of, Option.bind_some, if_pos hc, e1, e2]
theorem S15_at (m : Mv) (Ls : List (List Int)) (hl : Ls.length ≤ 1000000) (hL : ∀ L ∈ Ls, L.length ≤ 1000000) : S15 [.agg m.cells, .list (lists Ls)] = some (.tup [iv (bestR m Ls).1, iv (bestR m Ls).2]) := by
  simp only [S15, Mv.cells, Mv.cellsW, asMv_cells, asLists_lists, Option.bind_some]
  rw [if_pos ⟨hl, List.all_eq_true.2 fun L h => decide_eq_true (hL L h)⟩]
theorem bestR_ok {m : Mv} {Ls : List (List Int)} (hf : fitB m = true) (h64 : Ls.length ≤ 64) (h0 : 0 < Ls.length) (hL : ∀ L ∈ Ls, listOK m.r (-1) L = true) : bestR m Ls = ((bestGo (fun L => unbV (exch m L)) Ls Ls.length).1, 0) := by
  have h1 : bestE m Ls = 0 := by
    unfold bestE
    rw [if_pos hf, if_neg (by omega), if_neg (by omega), if_pos (List.all_eq_true.2 fun L h => by simpa using hL L h)]
  unfold bestR
  rw [if_pos h1]
theorem sound4 : Sound Try.prog (mkEnv [(12, S12), (15, S15), (16, S16)] [(13, S13), (14, S14)] []) := sound_mk (by simp [s12, s15, s16]) (by simp [s13, s14]) (by simp)
theorem c4 (x : Sk) (hx : x.ok) (l : List Nat) (hl : ∀ n ∈ l, n < 65536) : VCp Try.prog 4 [.agg x.cells, .list (u16s l)] (bv true) := by
  have hm := x.madeOK
  have hr2 := hm.r
  have ht2 := hm.t
  obtain ⟨m, hmv⟩ : ∃ m : Mv, m = ⟨x.T, x.R, x.T, 1, 2, x.sl.all.take x.sl.len⟩ := ⟨_, rfl⟩
  have hfit : fitB m = true := by rw [hmv]; exact fitOf
  have hlen : (x.sl.all.take x.sl.len).length = x.sl.len := by rw [List.length_take]; have := hm.le; omega
  have hne : m.rows.isEmpty = false := by
    rw [hmv]
    simp only
    cases h : x.sl.all.take x.sl.len with
    | nil => rw [h] at hlen; have := hm.pos; simp at hlen; omega
    | cons => rfl
  have hl60 : ∀ L, (exch m L).rows.length ≤ 60 := fun L => by
    have h1 : (exch m L).rows.length = m.rows.length := by simp [exch]
    have h2 : m.rows.length ≤ 36 := by
      have := ((fitB_iff m).1 hfit).1.2.2.2.2
      rw [hmv] at this
      simp only at this
      have h3 : (x.T : Int) * x.R ≤ 6 * 6 := Int.mul_le_mul (by omega) (by omega) (by omega) (by omega)
      rw [hmv]; simp only; omega
    omega
  have hR : m.r = x.R := by rw [hmv]
  obtain ⟨Ls, hLs⟩ : ∃ Ls, Ls = leastLs x.R (l.take 20) := ⟨_, rfl⟩
  have hn20 : Ls.length ≤ 20 := by rw [hLs]; simp [leastLs]; omega
  have hLok : ∀ L ∈ Ls, listOK m.r (-1) L = true ∧ L.length ≤ 1000000 := fun L hL => by
    rw [hLs] at hL
    obtain ⟨b, hb, rfl⟩ := List.mem_map.1 hL
    rw [hR]
    exact ⟨chosenL_ok _ _, by have := chosenL_len x.R b; omega⟩
  have hcells : m.cells = [iv x.T, iv x.R, iv x.T, iv 1, iv 2, .list (rowsL (x.sl.all.take x.sl.len))] := by rw [hmv]; rfl
  have e14 : ∀ n : Nat, n < 65536 → S14 [.agg m.cells, .v (.int .u16 n)] = some (chosenR x.R n) := fun n hn => S14_at m x.R n hR (by omega) hn
  obtain ⟨lev, hlev⟩ : ∃ lev : Nat → Int, lev = fun j => unbV (exch m (Ls.getD j [])) := ⟨_, rfl⟩
  have best : ∀ h, 0 < h → h ≤ Ls.length → ∃ a : Nat, a < h ∧ S15 [.agg m.cells, .list (lists (Ls.take h))] = some (.tup [iv a, iv 0]) ∧ (∀ j, j < h → lev a ≤ lev j) ∧ ∀ j, j < a → lev a < lev j := fun h h0 hh => by
    have hlen' : (Ls.take h).length = h := by rw [List.length_take]; omega
    have hget : ∀ j, j < h → (Ls.take h).getD j [] = Ls.getD j [] := fun j hj => by simp [List.getD, List.getElem?_take, hj]
    obtain ⟨a, b1, b2, b3, b4⟩ := bestGo_law (fun L => unbV (exch m L)) (Ls.take h) h h0
    refine ⟨a, b1, ?_, fun j hj => ?_, fun j hj => ?_⟩
    · rw [S15_at m (Ls.take h) (by omega) fun L hL => (hLok L (List.mem_of_mem_take hL)).2, bestR_ok hfit (by omega) (by omega) fun L hL => (hLok L (List.mem_of_mem_take hL)).1, hlen', b2]
    · have := b3 j hj
      rw [hget j hj, hget a b1] at this
      rw [hlev]; exact this
    · have := b4 j hj
      rw [hget j (by omega), hget a b1] at this
      rw [hlev]; exact this
  have hall : Ls.take Ls.length = Ls := List.take_length
  have fin : ∃ a a2 : Nat, (0 < Ls.length → S15 [.agg m.cells, .list (lists Ls)] = some (.tup [iv a, iv 0])) ∧ (0 < Ls.length → S15 [.agg m.cells, .list (lists (Ls.take (1 + (Ls.length - 1) / 2)))] = some (.tup [iv a2, iv 0])) ∧
      (0 < Ls.length → a < Ls.length ∧ a2 < Ls.length ∧ 0 ≤ lev a ∧ (∀ j, j < Ls.length → lev a ≤ lev j) ∧ ∀ j, j < a → lev a < lev j) := by
    rcases Nat.eq_zero_or_pos Ls.length with h0 | h0
    · exact ⟨0, 0, by omega, by omega, by omega⟩
    · obtain ⟨a, b1, b2, b3, b4⟩ := best Ls.length h0 (Nat.le_refl _)
      obtain ⟨a2, c1, c2, c3, c4⟩ := best (1 + (Ls.length - 1) / 2) (by omega) (by omega)
      rw [hall] at b2
      exact ⟨a, a2, fun _ => b2, fun _ => c2, fun _ => ⟨b1, by omega, by rw [hlev]; exact unbV_nonneg (hl60 _), b3, b4⟩⟩
  obtain ⟨a, a2, f1, f2, f3⟩ := fin
  rw [hLs] at f1 f2 f3
  rw [hcells] at f1 f2 e14
  refine wcontract_p sound4 mixed is4 (by rw [nt4]; simp) (c4w S12 S15 S16 S13 S14 x x.T x.R x.sl.all x.sl.len x.sl.lim hm l hl rfl (S13_at hx) (fun n hn h => ?_) (fun n hn h => ?_) lev a a2 (fun h => ?_) f1 f2 (fun j hj => ?_) f3) rfl
  · rw [e14 n hn, chosenR, if_pos h]
  · rw [e14 n hn, chosenR, if_neg h]
  · have h1 := S15_at m [] (by simp) (by simp)
    have h2 : bestR m [] = (0, 6) := by
      have : bestE m [] = 6 := by
        unfold bestE
        rw [if_pos hfit]
        simp
      unfold bestR
      rw [this]; rfl
    rw [h2, hcells] at h1
    exact h1
  · rw [← hLs] at hj ⊢
    have e : Ls.getD j [] = Ls[j] := by simp [List.getD, hj]
    have hok := hLok Ls[j] (List.getElem_mem hj)
    have h1 := S16_at hj hfit hne hok.1 hok.2
    rw [hcells] at h1
    rw [h1, hlev]
    simp only [e]

theorem cells31 : Try.prog.cellsOf 31 = 1 := by kernel_rfl
theorem cells33 : Try.prog.cellsOf 33 = 1 := by kernel_rfl
set_option maxRecDepth 100000 in
theorem argU16s {d : D} (h : ArgTy Try.prog 4 31 d) : ∃ l : List Nat, (∀ n ∈ l, n < 65536) ∧ d = .list (u16s l) := by
  simp only [ArgTy, HasTy, Try.underlying31, Try.underlying33] at h
  obtain ⟨es, h1, h2, h3⟩ := h
  simp only [List.cons.injEq, and_true] at h1
  subst h1
  obtain ⟨l, rfl, hlt⟩ := list_of (fun n : Nat => [D.v (.int .u16 n)]) (fun n => n < 65536) (l := es) fun y hy => by
    obtain ⟨z, rfl, hz⟩ := h3 y hy
    obtain ⟨c1, c2⟩ := wf_u16 hz
    exact ⟨z.toNat, by rw [Int.toNat_of_nonneg c1], by omega⟩
  exact ⟨l, hlt, rfl⟩
theorem params4L : Try.f4.params.toList = [30, 31] := by rw [Try.params4]
set_option maxRecDepth 100000 in
theorem least_args (Ds : List D) (h : ArgsTy Try.prog 4 Try.f4.params.toList Ds) : VCp Try.prog 4 Ds (bv true) := by
  rw [params4L] at h
  obtain ⟨d0, r0, rfl, h0, h⟩ := argsTy_cons h
  obtain ⟨d1, r1, rfl, h1, h⟩ := argsTy_cons h
  obtain rfl := argsTy_nil h
  obtain ⟨x, hx, rfl⟩ := argSk h0
  obtain ⟨l, hl, rfl⟩ := argU16s h1
  exact c4 x hx l hl
theorem least_spec {H : Type} (ds : List (DataW H)) (hl : ds.length = Try.f4.params.size) : Rows.turnLeastSpec.fn H ds = { results := [.lit (.bool true)], args := ds } := by
  rw [Try.params4] at hl
  match ds, hl with
  | [a, b], _ => rfl
theorem least_tys : ∀ t ∈ Try.f4.params.toList, TyOK t := by
  rw [params4L]
  simp [tyOK30, tyOK31]
set_option maxRecDepth 100000 in
theorem least_lifted (os : Os) (started : os.Started) (H : Type) (enc : TypeId × Value → H) :
    ReturnsInHanded {} Try.checked os 4 .any (Rows.turnLeastSpec.pre6 enc Try.prog Try.f4 Rows.turnLeastRow.domain false) (Rows.turnLeastSpec.post enc Try.prog Try.f4 false true false false) := by
  refine returnsInHanded_of_change (C := Try.checked) own started (by kernel_rfl) Try.func4
    (ChangeSpec.witness6 (enc := enc) (C := Try.checked) false ⟨#[], #[.agg #[.int .u8 0, .int .u8 0, .slice none 0 0], .slice none 0 0], []⟩ 8 (by kernel_rfl) (by kernel_rfl) (by kernel_rfl) (by kernel_rfl)) ?_
  intro W base args ds gs before hval hW _ _
  exact law_contract (P := Try.prog) (fn := Try.f4) (s := Rows.turnLeastSpec) (n := 4) (tb := 4) laidOut rfl least_spec (by kernel_rfl) Try.underlying4 least_tys least_args W base args ds gs before hval hW
/-- The statement. -/
theorem turnLeast_holds : Rows.TurnLeastSaid :=
  OpenClaim.holds_of_wide 4 Try.f4 rfl rfl rfl rfl rfl rfl rfl ⟨rfl, rfl, rfl, rfl, rfl⟩ rfl rfl rfl rfl rfl (by kernel_rfl) Try.func4 (by kernel_rfl)
    (of_decide_eq_true (by kernel_rfl)) (by unfold Func.isWrapper; first | (rw [if_pos (by decide +kernel)]; kernel_rfl) | (rw [if_neg (by decide +kernel)]; exact ⟨rfl, rfl⟩))
    (fun os started H enc _ => least_lifted os started H enc)
end Go.Proofs.Ytpmgaaalfdjikaa
