/- TurnSmall: the law returns true (third part of the proof). No condition. -/
import Derived.Test.YtpmgaaalfdjikaaZb
namespace Go.Proofs.Ytpmgaaalfdjikaa
open Go.RowKit
set_option linter.unusedSimpArgs false
set_option linter.unusedVariables false
theorem c73g (k i : Nat) (hk : k≤1000000) (hi : i≤1000000) : VCp Try.prog 73 [iv k,iv i] (.agg (markRw k i).cells):=by
  have h:=S64g_at k i hk hi
  refine wcontract_p (Γ:=mkEnv [(64,S64g)] [] []) (sound_mk (by simp [s64g]) (by simp) (by simp)) mixed is73 (by rw [nt73]; simp) ?_ rfl
  simp [W73,h,markRw,Row.cells]
def S73g : List D→Option D
  | [.v (.int .i64 k),.v (.int .i64 i)]=>if 0≤k∧k≤1000000∧0≤i∧i≤1000000 then some (.agg (markRw k i).cells) else none
  | _=>none
theorem s73g : OkP 73 S73g:=fun ds d h=>by
  unfold S73g at h
  split at h
  · split at h
    · rename_i k i hc
      cases h
      obtain ⟨a,rfl⟩ : ∃ a : Nat,k = a:=⟨k.toNat,by omega⟩
      obtain ⟨b,rfl⟩ : ∃ b : Nat,i = b:=⟨i.toNat,by omega⟩
      exact c73g a b (by omega) (by omega)
    · cases h
  · cases h
theorem S73g_at (k i : Nat) (hk : k≤1000000) (hi : i≤1000000) : S73g [iv k,iv i] = some (.agg (markRw k i).cells):=by
  simp only [S73g]
  rw [if_pos (by omega)]
theorem struck_grp {g : Tok} {n : Nat} {o : HO} (h : o.grp ≠ some g) : HO.struck g n (some o) = some o:=by
  cases o with
  | row g' e es=>simp only [struck_row]; rw [if_neg]; rintro ⟨rfl,_⟩; exact h rfl
  | _=>rfl
theorem struck_len {g g' : Tok} {n e : Nat} {es : List (List D)} (h : g' ≠ g ∨ es.length≤n) : HO.struck g n (some (.row g' e es)) = some (.row g' e es):=by
  simp only [struck_row]
  rw [if_neg]
  rintro ⟨h1,h2⟩
  rcases h with h | h
  · exact h h1
  · omega
def Pres (g : Tok) (n : Nat) (M M' : Mem) : Prop:=∀ τ o,M τ = some o→HO.struck g n (some o) = some o→M' τ = some o
def PresX (t g : Tok) (n : Nat) (M M' : Mem) : Prop:=∀ τ o,M τ = some o→τ ≠ t→HO.struck g n (some o) = some o→M' τ = some o
theorem Pres.x {t g : Tok} {n : Nat} {M M' : Mem} (h : Pres g n M M') : PresX t g n M M':=fun τ o h1 _ h3=>h τ o h1 h3
theorem PresX.row {t g : Tok} {n : Nat} {M M' : Mem} (h : PresX t g n M M') {τ g' : Tok} {e : Nat} {es : List (List D)} (h1 : M τ = some (.row g' e es)) (h2 : τ ≠ t) (h3 : g' ≠ g ∨ es.length≤n) : M' τ = some (.row g' e es):=h τ _ h1 h2 (struck_len h3)
theorem Pres.row {g : Tok} {n : Nat} {M M' : Mem} (h : Pres g n M M') {τ g' : Tok} {e : Nat} {es : List (List D)} (h1 : M τ = some (.row g' e es)) (h3 : g' ≠ g ∨ es.length≤n) : M' τ = some (.row g' e es):=h τ _ h1 (struck_len h3)
structure FlI where
  K : Nat
  nl : Nat→Bool
  ez : Nat→Option Tok
  ln : Nat→Nat
  tk : Nat→Tok
  gr : Nat→Tok
  lt : Tok
  lg : Tok
  U : Mem
  mrk : Nat→Nat→Int
def FlI.emp (F : FlI) (k : Nat) : D:=match F.ez k with | none=>.nil | some t=>.sl t 1 0 0 (some 0)
def FlI.hdr (F : FlI) (k : Nat) : D:=if F.nl k then F.emp k else .sl (F.tk k) 1 0 (F.ln k) none
def FlI.hrow (F : FlI) : List (List D):=(List.range F.K).map fun k=>[F.hdr k]
structure FlI.OK (F : FlI) : Prop where
  K1 : F.K≤100
  zero : ∀ k,F.nl k = true→F.ln k = 0
  small : ∀ k,k < F.K→F.ln k≤1000
  ezE : ∀ k t,k < F.K→F.ez k = some t→∃ j,j < F.K∧F.nl j = false∧t = F.tk j
  tkI : ∀ j k,j < F.K→k < F.K→F.nl j = false→F.nl k = false→F.tk j = F.tk k→j = k
  grI : ∀ j k,j < F.K→k < F.K→F.nl j = false→F.nl k = false→F.gr j = F.gr k→j = k
  tk0 : ∀ k,k < F.K→F.nl k = false→∃ r,F.tk k = 0 :: r
  gr0 : ∀ k,k < F.K→F.nl k = false→∃ r,F.gr k = 0 :: r
  U0 : ∀ t o g,F.U t = some o→o.grp = some g→∃ r,g = 0 :: r
  lt0 : ∃ r,F.lt = 0 :: r
  hl : F.U F.lt = some (.row F.lg 34 F.hrow)
  lgne : ∀ j,j < F.K→F.nl j = false→F.gr j ≠ F.lg
def FlI.Kp (F : FlI) (M : Mem) : Prop:=∀ t o,F.U t = some o→(∀ j,j < F.K→F.nl j = false→o.grp ≠ some (F.gr j))→M t = some o
def FlI.In (F : FlI) (C : Nat→List Int) (M : Mem) : Prop:=∀ j,j < F.K→F.nl j = false→M (F.tk j) = some (.row (F.gr j) 3 (ints (C j)))∧(C j).length = F.ln j
def FlI.mks (F : FlI) (k n : Nat) : List Int:=(List.range n).map (F.mrk k)
theorem FlI.mks_len (F : FlI) (k n : Nat) : (F.mks k n).length = n:=by simp [FlI.mks]
theorem FlI.mks_succ (F : FlI) (k n : Nat) : F.mks k (n + 1) = F.mks k n ++ [F.mrk k n]:=by simp [FlI.mks,List.range_succ]
theorem FlI.mks_at (F : FlI) {k n i : Nat} (h : i < n) : (ints (F.mks k n))[i]? = some [iv (F.mrk k i)]:=by simp [ints,FlI.mks,h]
theorem FlI.hrow_len (F : FlI) : F.hrow.length = F.K:=by simp [FlI.hrow]
theorem FlI.hrow_at (F : FlI) {k : Nat} (h : k < F.K) : F.hrow[k]? = some [F.hdr k]:=by simp [FlI.hrow,h]
@[simp] theorem FlI.hrow_ex (F : FlI) : (∃ c,c ∈ F.hrow∧¬ c.length = 1) = False:=by
  simp only [eq_iff_iff,iff_false,FlI.hrow]
  rintro ⟨c,h1,h2⟩
  obtain ⟨k,_,rfl⟩:=List.mem_map.1 h1
  exact h2 rfl
@[simp] theorem FlI.hrow_fa (F : FlI) : (∀ c,c ∈ F.hrow→c.length = 1) = True:=by
  simp only [eq_iff_iff,iff_true,FlI.hrow]
  intro c h1
  obtain ⟨k,_,rfl⟩:=List.mem_map.1 h1
  rfl
theorem FlI.hdr_len {F : FlI} (O : F.OK) (k : Nat) : (F.hdr k).lenD = some (F.ln k):=by
  unfold FlI.hdr
  split
  · rename_i h; rw [O.zero k h]; unfold FlI.emp; split <;> rfl
  · rfl
theorem FlI.hdr_sl {F : FlI} {k : Nat} (h : F.nl k = false) : F.hdr k = .sl (F.tk k) 1 0 (F.ln k) none:=by unfold FlI.hdr; rw [h]; rfl
theorem FlI.hdr_nl {F : FlI} {k : Nat} (h : F.nl k = true) : F.hdr k = F.emp k:=by unfold FlI.hdr; rw [h]; rfl
theorem FlI.emp_or {F : FlI} (O : F.OK) {k : Nat} (hk : k < F.K) : F.emp k = .nil ∨ ∃ j,j < F.K∧F.nl j = false∧F.emp k = .sl (F.tk j) 1 0 0 (some 0):=by
  unfold FlI.emp
  cases h : F.ez k with
  | none=>exact .inl rfl
  | some t=>obtain ⟨j,a,b,rfl⟩:=O.ezE k t hk h; exact .inr ⟨j,a,b,rfl⟩
theorem FlI.Kp.lt {F : FlI} (O : F.OK) {M : Mem} (h : F.Kp M) : M F.lt = some (.row F.lg 34 F.hrow):=h _ _ O.hl fun j hj hn e=>O.lgne j hj hn (Option.some.inj e).symm
def FlI.GG (F : FlI) (x u : Nat) (j : Nat) : Tok:=if F.nl j then [x,u * j] else F.gr j
theorem FlI.GG_ne {F : FlI} (O : F.OK) {x u : Nat} (hx : x ≠ 0) (hu : 0 < u) {j k : Nat} (hj : j < F.K) (hk : k < F.K) (h : j ≠ k) : F.GG x u j ≠ F.GG x u k:=fun e=>by
  unfold FlI.GG at e
  cases h1 : F.nl j <;> cases h2 : F.nl k <;> rw [h1,h2] at e
  · exact h (O.grI j k hj hk h1 h2 e)
  · obtain ⟨r,hr⟩:=O.gr0 j hj h1
    simp only [hr,cond_false,Bool.false_eq_true,if_false,if_true,List.cons.injEq] at e
    exact hx e.1.symm
  · obtain ⟨r,hr⟩:=O.gr0 k hk h2
    simp only [hr,Bool.false_eq_true,if_false,if_true,List.cons.injEq] at e
    exact hx e.1
  · simp only [if_true,List.cons.injEq,true_and,and_true] at e
    exact h (Nat.eq_of_mul_eq_mul_left hu e)
theorem FlI.gr_GG {F : FlI} (O : F.OK) {x u : Nat} (hx : x ≠ 0) {j k : Nat} (hj : j < F.K) (hk : k < F.K) (hn : F.nl j = false) (h : j ≠ k) : F.gr j ≠ F.GG x u k:=fun e=>by
  unfold FlI.GG at e
  cases h2 : F.nl k <;> rw [h2] at e
  · exact h (O.grI j k hj hk hn h2 e)
  · obtain ⟨r,hr⟩:=O.gr0 j hj hn
    simp only [hr,if_true,List.cons.injEq] at e
    exact hx e.1.symm
theorem FlI.GG_new {F : FlI} (O : F.OK) {x u : Nat} {k a : Nat} {r : Tok} (hk : k < F.K) (ha : a ≠ 0∧a ≠ x) : a :: r ≠ F.GG x u k:=fun e=>by
  unfold FlI.GG at e
  cases h2 : F.nl k <;> rw [h2] at e
  · obtain ⟨r',hr⟩:=O.gr0 k hk h2
    simp only [hr,Bool.false_eq_true,if_false,List.cons.injEq] at e
    exact ha.1 e.1
  · simp only [if_true,List.cons.injEq] at e
    exact ha.2 e.1
theorem FlI.Kp.presG {F : FlI} (O : F.OK) {M M' : Mem} {x u k n : Nat} (h : F.Kp M) (hx : x ≠ 0) (hk : k < F.K) (hp : Pres (F.GG x u k) n M M') : F.Kp M':=fun t o hU hg=>hp t o (h t o hU hg) (struck_grp fun e=>by
  unfold FlI.GG at e
  cases h2 : F.nl k <;> rw [h2] at e
  · exact hg k hk h2 e
  · obtain ⟨r,hr⟩:=O.U0 t o _ hU e
    simp only [if_true,List.cons.injEq] at hr
    exact hx hr.1)
theorem FlI.Kp.presN {F : FlI} (O : F.OK) {M M' : Mem} {a n : Nat} {r t : Tok} (h : F.Kp M) (ha : a ≠ 0) (ht : ∀ q,t ≠ 0 :: q) (hp : PresX t (a :: r) n M M') (hU0 : ∀ t o,F.U t = some o→∃ r,t = 0 :: r) : F.Kp M':=fun τ o hU hg=>hp τ o (h τ o hU hg) (fun e=>by
    obtain ⟨q,hq⟩:=hU0 τ o hU
    exact ht q (e ▸ hq)) (struck_grp fun e=>by
  obtain ⟨q,hq⟩:=O.U0 τ o _ hU e
  simp only [List.cons.injEq] at hq
  exact ha hq.1)
theorem FlI.In.presG {F : FlI} (O : F.OK) {C : Nat→List Int} {M M' : Mem} {x u k n : Nat} (h : F.In C M) (hx : x ≠ 0) (hk : k < F.K) (hn : F.ln k≤n) (hp : Pres (F.GG x u k) n M M') : F.In C M':=fun j hj hnl=>by
  obtain ⟨h1,h2⟩:=h j hj hnl
  refine ⟨hp.row h1 ?_,h2⟩
  by_cases e : j = k
  · subst e; right; rw [ints_len,h2]; exact hn
  · exact .inl (FlI.gr_GG O hx hj hk hnl e)
theorem FlI.In.presN {F : FlI} (O : F.OK) {C : Nat→List Int} {M M' : Mem} {a n : Nat} {r t : Tok} (h : F.In C M) (ha : a ≠ 0) (ht : ∀ q,t ≠ 0 :: q) (hp : PresX t (a :: r) n M M') : F.In C M':=fun j hj hnl=>by
  obtain ⟨h1,h2⟩:=h j hj hnl
  obtain ⟨q,hq⟩:=O.tk0 j hj hnl
  obtain ⟨q',hq'⟩:=O.gr0 j hj hnl
  exact ⟨hp.row h1 (by rw [hq]; exact (ht q).symm) (.inl (by rw [hq']; intro e; simp only [List.cons.injEq] at e; exact ha e.1.symm)),h2⟩
theorem FlI.Kp.store {F : FlI} (O : F.OK) {C : Nat→List Int} {M M' : Mem} {k n : Nat} (h : F.Kp M) (hi : F.In C M) (hk : k < F.K) (hnl : F.nl k = false) (hp : PresX (F.tk k) (F.gr k) n M M') : F.Kp M':=fun τ o hU hg=>hp τ o (h τ o hU hg) (fun e=>by
    have:=h τ o hU hg
    rw [e,(hi k hk hnl).1] at this
    exact hg k hk hnl (by rw [← Option.some.inj this]; rfl)) (struck_grp (hg k hk hnl))
theorem FlI.In.store {F : FlI} (O : F.OK) {C : Nat→List Int} {M M' : Mem} {k n : Nat} {L : List Int} (h : F.In C M) (hk : k < F.K) (hnl : F.nl k = false) (hp : PresX (F.tk k) (F.gr k) n M M') (hL : L.length = F.ln k) (hM : M' (F.tk k) = some (.row (F.gr k) 3 (ints L))) :
    F.In (fun j=>if j = k then L else C j) M':=fun j hj hn=>by
  obtain ⟨h1,h2⟩:=h j hj hn
  by_cases e : j = k
  · subst e
    simp only [if_true]
    exact ⟨hM,hL⟩
  · simp only [if_neg e]
    exact ⟨hp.row h1 (fun h=>e (O.tkI j k hj hk hn hnl h)) (.inl fun h=>e (O.grI j k hj hk hn hnl h)),h2⟩
structure FlR where
  K : Nat
  nl : Nat→Bool
  ez : Nat→Option Tok
  ln : Nat→Nat
  tk : Nat→Tok
  gr : Nat→Tok
  lt : Tok
  lg : Tok
  U : Mem
  mrk : Nat→Nat→Row
def FlR.emp (F : FlR) (k : Nat) : D:=match F.ez k with | none=>.nil | some t=>.sl t 5 0 0 (some 0)
def FlR.hdr (F : FlR) (k : Nat) : D:=if F.nl k then F.emp k else .sl (F.tk k) 5 0 (F.ln k) none
def FlR.hrow (F : FlR) : List (List D):=(List.range F.K).map fun k=>[F.hdr k]
structure FlR.OK (F : FlR) : Prop where
  K1 : F.K≤100
  zero : ∀ k,F.nl k = true→F.ln k = 0
  small : ∀ k,k < F.K→F.ln k≤1000
  ezE : ∀ k t,k < F.K→F.ez k = some t→∃ j,j < F.K∧F.nl j = false∧t = F.tk j
  tkI : ∀ j k,j < F.K→k < F.K→F.nl j = false→F.nl k = false→F.tk j = F.tk k→j = k
  grI : ∀ j k,j < F.K→k < F.K→F.nl j = false→F.nl k = false→F.gr j = F.gr k→j = k
  tk0 : ∀ k,k < F.K→F.nl k = false→∃ r,F.tk k = 0 :: r
  gr0 : ∀ k,k < F.K→F.nl k = false→∃ r,F.gr k = 0 :: r
  U0 : ∀ t o g,F.U t = some o→o.grp = some g→∃ r,g = 0 :: r
  lt0 : ∃ r,F.lt = 0 :: r
  hl : F.U F.lt = some (.row F.lg 22 F.hrow)
  lgne : ∀ j,j < F.K→F.nl j = false→F.gr j ≠ F.lg
def FlR.Kp (F : FlR) (M : Mem) : Prop:=∀ t o,F.U t = some o→(∀ j,j < F.K→F.nl j = false→o.grp ≠ some (F.gr j))→M t = some o
def FlR.In (F : FlR) (C : Nat→List Row) (M : Mem) : Prop:=∀ j,j < F.K→F.nl j = false→M (F.tk j) = some (.row (F.gr j) 53 (rowsL (C j)))∧(C j).length = F.ln j
def FlR.mks (F : FlR) (k n : Nat) : List Row:=(List.range n).map (F.mrk k)
theorem FlR.mks_len (F : FlR) (k n : Nat) : (F.mks k n).length = n:=by simp [FlR.mks]
theorem FlR.mks_succ (F : FlR) (k n : Nat) : F.mks k (n + 1) = F.mks k n ++ [F.mrk k n]:=by simp [FlR.mks,List.range_succ]
theorem FlR.mks_at (F : FlR) {k n i : Nat} (h : i < n) : (rowsL (F.mks k n))[i]? = some (F.mrk k i).cells:=by simp [rowsL,FlR.mks,h]
theorem FlR.hrow_len (F : FlR) : F.hrow.length = F.K:=by simp [FlR.hrow]
theorem FlR.hrow_at (F : FlR) {k : Nat} (h : k < F.K) : F.hrow[k]? = some [F.hdr k]:=by simp [FlR.hrow,h]
@[simp] theorem FlR.hrow_ex (F : FlR) : (∃ c,c ∈ F.hrow∧¬ c.length = 1) = False:=by
  simp only [eq_iff_iff,iff_false,FlR.hrow]
  rintro ⟨c,h1,h2⟩
  obtain ⟨k,_,rfl⟩:=List.mem_map.1 h1
  exact h2 rfl
@[simp] theorem FlR.hrow_fa (F : FlR) : (∀ c,c ∈ F.hrow→c.length = 1) = True:=by
  simp only [eq_iff_iff,iff_true,FlR.hrow]
  intro c h1
  obtain ⟨k,_,rfl⟩:=List.mem_map.1 h1
  rfl
theorem FlR.hdr_len {F : FlR} (O : F.OK) (k : Nat) : (F.hdr k).lenD = some (F.ln k):=by
  unfold FlR.hdr
  split
  · rename_i h; rw [O.zero k h]; unfold FlR.emp; split <;> rfl
  · rfl
theorem FlR.hdr_sl {F : FlR} {k : Nat} (h : F.nl k = false) : F.hdr k = .sl (F.tk k) 5 0 (F.ln k) none:=by unfold FlR.hdr; rw [h]; rfl
theorem FlR.hdr_nl {F : FlR} {k : Nat} (h : F.nl k = true) : F.hdr k = F.emp k:=by unfold FlR.hdr; rw [h]; rfl
theorem FlR.emp_or {F : FlR} (O : F.OK) {k : Nat} (hk : k < F.K) : F.emp k = .nil ∨ ∃ j,j < F.K∧F.nl j = false∧F.emp k = .sl (F.tk j) 5 0 0 (some 0):=by
  unfold FlR.emp
  cases h : F.ez k with
  | none=>exact .inl rfl
  | some t=>obtain ⟨j,a,b,rfl⟩:=O.ezE k t hk h; exact .inr ⟨j,a,b,rfl⟩
theorem FlR.Kp.lt {F : FlR} (O : F.OK) {M : Mem} (h : F.Kp M) : M F.lt = some (.row F.lg 22 F.hrow):=h _ _ O.hl fun j hj hn e=>O.lgne j hj hn (Option.some.inj e).symm
def FlR.GG (F : FlR) (x u : Nat) (j : Nat) : Tok:=if F.nl j then [x,u * j] else F.gr j
theorem FlR.GG_ne {F : FlR} (O : F.OK) {x u : Nat} (hx : x ≠ 0) (hu : 0 < u) {j k : Nat} (hj : j < F.K) (hk : k < F.K) (h : j ≠ k) : F.GG x u j ≠ F.GG x u k:=fun e=>by
  unfold FlR.GG at e
  cases h1 : F.nl j <;> cases h2 : F.nl k <;> rw [h1,h2] at e
  · exact h (O.grI j k hj hk h1 h2 e)
  · obtain ⟨r,hr⟩:=O.gr0 j hj h1
    simp only [hr,cond_false,Bool.false_eq_true,if_false,if_true,List.cons.injEq] at e
    exact hx e.1.symm
  · obtain ⟨r,hr⟩:=O.gr0 k hk h2
    simp only [hr,Bool.false_eq_true,if_false,if_true,List.cons.injEq] at e
    exact hx e.1
  · simp only [if_true,List.cons.injEq,true_and,and_true] at e
    exact h (Nat.eq_of_mul_eq_mul_left hu e)
theorem FlR.gr_GG {F : FlR} (O : F.OK) {x u : Nat} (hx : x ≠ 0) {j k : Nat} (hj : j < F.K) (hk : k < F.K) (hn : F.nl j = false) (h : j ≠ k) : F.gr j ≠ F.GG x u k:=fun e=>by
  unfold FlR.GG at e
  cases h2 : F.nl k <;> rw [h2] at e
  · exact h (O.grI j k hj hk hn h2 e)
  · obtain ⟨r,hr⟩:=O.gr0 j hj hn
    simp only [hr,if_true,List.cons.injEq] at e
    exact hx e.1.symm
theorem FlR.GG_new {F : FlR} (O : F.OK) {x u : Nat} {k a : Nat} {r : Tok} (hk : k < F.K) (ha : a ≠ 0∧a ≠ x) : a :: r ≠ F.GG x u k:=fun e=>by
  unfold FlR.GG at e
  cases h2 : F.nl k <;> rw [h2] at e
  · obtain ⟨r',hr⟩:=O.gr0 k hk h2
    simp only [hr,Bool.false_eq_true,if_false,List.cons.injEq] at e
    exact ha.1 e.1
  · simp only [if_true,List.cons.injEq] at e
    exact ha.2 e.1
theorem FlR.Kp.presG {F : FlR} (O : F.OK) {M M' : Mem} {x u k n : Nat} (h : F.Kp M) (hx : x ≠ 0) (hk : k < F.K) (hp : Pres (F.GG x u k) n M M') : F.Kp M':=fun t o hU hg=>hp t o (h t o hU hg) (struck_grp fun e=>by
  unfold FlR.GG at e
  cases h2 : F.nl k <;> rw [h2] at e
  · exact hg k hk h2 e
  · obtain ⟨r,hr⟩:=O.U0 t o _ hU e
    simp only [if_true,List.cons.injEq] at hr
    exact hx hr.1)
theorem FlR.Kp.presN {F : FlR} (O : F.OK) {M M' : Mem} {a n : Nat} {r t : Tok} (h : F.Kp M) (ha : a ≠ 0) (ht : ∀ q,t ≠ 0 :: q) (hp : PresX t (a :: r) n M M') (hU0 : ∀ t o,F.U t = some o→∃ r,t = 0 :: r) : F.Kp M':=fun τ o hU hg=>hp τ o (h τ o hU hg) (fun e=>by
    obtain ⟨q,hq⟩:=hU0 τ o hU
    exact ht q (e ▸ hq)) (struck_grp fun e=>by
  obtain ⟨q,hq⟩:=O.U0 τ o _ hU e
  simp only [List.cons.injEq] at hq
  exact ha hq.1)
theorem FlR.In.presG {F : FlR} (O : F.OK) {C : Nat→List Row} {M M' : Mem} {x u k n : Nat} (h : F.In C M) (hx : x ≠ 0) (hk : k < F.K) (hn : F.ln k≤n) (hp : Pres (F.GG x u k) n M M') : F.In C M':=fun j hj hnl=>by
  obtain ⟨h1,h2⟩:=h j hj hnl
  refine ⟨hp.row h1 ?_,h2⟩
  by_cases e : j = k
  · subst e; right; rw [rowsL_len,h2]; exact hn
  · exact .inl (FlR.gr_GG O hx hj hk hnl e)
theorem FlR.In.presN {F : FlR} (O : F.OK) {C : Nat→List Row} {M M' : Mem} {a n : Nat} {r t : Tok} (h : F.In C M) (ha : a ≠ 0) (ht : ∀ q,t ≠ 0 :: q) (hp : PresX t (a :: r) n M M') : F.In C M':=fun j hj hnl=>by
  obtain ⟨h1,h2⟩:=h j hj hnl
  obtain ⟨q,hq⟩:=O.tk0 j hj hnl
  obtain ⟨q',hq'⟩:=O.gr0 j hj hnl
  exact ⟨hp.row h1 (by rw [hq]; exact (ht q).symm) (.inl (by rw [hq']; intro e; simp only [List.cons.injEq] at e; exact ha e.1.symm)),h2⟩
theorem FlR.Kp.store {F : FlR} (O : F.OK) {C : Nat→List Row} {M M' : Mem} {k n : Nat} (h : F.Kp M) (hi : F.In C M) (hk : k < F.K) (hnl : F.nl k = false) (hp : PresX (F.tk k) (F.gr k) n M M') : F.Kp M':=fun τ o hU hg=>hp τ o (h τ o hU hg) (fun e=>by
    have:=h τ o hU hg
    rw [e,(hi k hk hnl).1] at this
    exact hg k hk hnl (by rw [← Option.some.inj this]; rfl)) (struck_grp (hg k hk hnl))
theorem FlR.In.store {F : FlR} (O : F.OK) {C : Nat→List Row} {M M' : Mem} {k n : Nat} {L : List Row} (h : F.In C M) (hk : k < F.K) (hnl : F.nl k = false) (hp : PresX (F.tk k) (F.gr k) n M M') (hL : L.length = F.ln k) (hM : M' (F.tk k) = some (.row (F.gr k) 53 (rowsL L))) :
    F.In (fun j=>if j = k then L else C j) M':=fun j hj hn=>by
  obtain ⟨h1,h2⟩:=h j hj hn
  by_cases e : j = k
  · subst e
    simp only [if_true]
    exact ⟨hM,hL⟩
  · simp only [if_neg e]
    exact ⟨hp.row h1 (fun h=>e (O.tkI j k hj hk hn hnl h)) (.inl fun h=>e (O.grI j k hj hk hn hnl h)),h2⟩
end Go.Proofs.Ytpmgaaalfdjikaa
namespace Go.Proofs.Ytpmgaaalfdjikaa
open Go.RowKit
set_option linter.unusedSimpArgs false
set_option linter.unusedVariables false
def W77 : WC × List VRes:=(.seq (.reg [.set [(2,.c (.v (.bool false)))] [2]]) (.seq (.seq (.reg [.set [(3,.c (.v (.int .i64 0)))] [3]]) (.block 0 (.loop (.seq (.seq (.reg [.set [(19,.ap (.ibin .lss) [.t 3,.ap .llen [.t 0]])] [16,17,18,19]]) (.cond (.t 19) .skip (.exit 0))) (.seq (.block 1 (.seq (.reg [.set [(4,.c (.v (.int .i64 0)))] [4]]) (.block 2 (.loop (.seq (.seq (.reg [.set [(28,.ap (.ibin .lss) [.t 4,.ap .llen [.ap (.load 1 false) [.ap (.idx 34 1) [.t 0,.t 3]]]])] [22,23,24,25,26,27,28]]) (.cond (.t 28) .skip (.exit 2))) (.seq (.block 3 (.reg [.set [(38,.ap (.call 64) [.t 3,.t 4]),(39,.ap (.idx 3 1) [.ap (.load 1 false) [.ap (.idx 34 1) [.t 0,.t 3]],.t 4])] [31,32,33,34,35,36,37,38,39],.stm (.eff (.store 1 (.t 39) (.t 38)) none)])) (.reg [.set [(4,.ap (.ibin .add) [.t 4,.c (.v (.int .i64 1))])] [29,30,4]]))))))) (.reg [.set [(3,.ap (.ibin .add) [.t 3,.c (.v (.int .i64 1))])] [20,21,3]])))))) (.seq (.reg [.set [(41,.ap .llen [.t 0])] [40,41],.stm (.eff (.mks 42 34 1 [.nil] (.t 41) (.t 41)) none),.set [(5,.t 42)] [5]]) (.seq (.seq (.reg [.set [(6,.c (.v (.int .i64 0)))] [6]]) (.block 4 (.loop (.seq (.seq (.reg [.set [(46,.ap (.ibin .lss) [.t 6,.ap .llen [.t 0]])] [43,44,45,46]]) (.cond (.t 46) .skip (.exit 4))) (.seq (.block 5 (.seq (.reg [.set [(7,.ap (.load 1 false) [.ap (.idx 34 1) [.t 0,.t 6]])] [49,50,51,52,7]]) (.seq (.seq (.reg [.set [(8,.c (.v (.int .i64 0)))] [8]]) (.block 6 (.loop (.seq (.seq (.reg [.set [(54,.ap (.ibin .lss) [.t 8,.c (.v (.int .i64 64))])] [53,54]]) (.cond (.t 54) .skip (.exit 6))) (.seq (.block 7 (.reg [.set [(57,.t 7),(66,.ap (.call 64) [.t 6,.ap (.ibin .add) [.ap .llen [.ap (.load 1 false) [.ap (.idx 34 1) [.t 0,.t 6]]],.t 8]])] [57,58,59,60,61,62,63,64,65,66],.stm (.eff (.lit 67 3 1 1 [.v (.int .i64 0)] [(0,1)] [.t 66]) none),.stm (.eff (.app 68 3 1 (.t 57) (.t 67)) none),.set [(7,.t 68)] [7]])) (.reg [.set [(8,.ap (.ibin .add) [.t 8,.c (.v (.int .i64 1))])] [55,56,8]])))))) (.reg [.set [(71,.t 7),(72,.ap (.idx 34 1) [.t 5,.t 6])] [69,70,71,72],.stm (.eff (.store 1 (.t 72) (.t 71)) none)])))) (.reg [.set [(6,.ap (.ibin .add) [.t 6,.c (.v (.int .i64 1))])] [47,48,6]])))))) (.seq (.seq (.reg [.set [(9,.c (.v (.int .i64 0)))] [9]]) (.block 8 (.loop (.seq (.seq (.reg [.set [(76,.ap (.ibin .lss) [.t 9,.ap .llen [.t 0]])] [73,74,75,76]]) (.cond (.t 76) .skip (.exit 8))) (.seq (.block 9 (.seq (.reg [.set [(10,.c (.v (.int .i64 0)))] [10]]) (.block 10 (.loop (.seq (.seq (.reg [.set [(85,.ap (.ibin .lss) [.t 10,.ap .llen [.ap (.load 1 false) [.ap (.idx 34 1) [.t 5,.t 9]]]])] [79,80,81,82,83,84,85]]) (.cond (.t 85) .skip (.exit 10))) (.seq (.block 11 (.seq (.reg [.set [(122,.ite (.ap .inot [.ap (.ibin .eql) [.ap (.load 1 false) [.ap (.idx 3 1) [.ap (.load 1 false) [.ap (.idx 34 1) [.t 5,.t 9]],.t 10]],.ap (.call 64) [.t 9,.t 10]]]) (.c (.v (.bool true))) (.ite (.ap (.ibin .lss) [.t 10,.ap .llen [.ap (.load 1 false) [.ap (.idx 34 1) [.t 0,.t 9]]]]) (.ap .inot [.ap (.ibin .eql) [.ap (.load 1 false) [.ap (.idx 3 1) [.ap (.load 1 false) [.ap (.idx 34 1) [.t 0,.t 9]],.t 10]],.ap (.call 64) [.t 9,.t 10]]]) (.c (.v (.bool false)))))] [88,89,90,91,92,93,94,95,96,97,98,99,100,101,102,103,104,105,106,107,108,109,110,111,112,113,114,115,116,117,118,119,120,121,122]]) (.cond (.t 122) (.seq (.reg [.set [(2,.c (.v (.bool false)))] [2]]) .ret) .skip))) (.reg [.set [(10,.ap (.ibin .add) [.t 10,.c (.v (.int .i64 1))])] [86,87,10]]))))))) (.reg [.set [(9,.ap (.ibin .add) [.t 9,.c (.v (.int .i64 1))])] [77,78,9]])))))) (.seq (.seq (.reg [.set [(11,.c (.v (.int .i64 0)))] [11]]) (.block 12 (.loop (.seq (.seq (.reg [.set [(126,.ap (.ibin .lss) [.t 11,.ap .llen [.t 0]])] [123,124,125,126]]) (.cond (.t 126) .skip (.exit 12))) (.seq (.block 13 (.seq (.reg [.stm (.eff (.mks 129 3 1 [.v (.int .i64 0)] (.c (.v (.int .i64 64))) (.c (.v (.int .i64 64)))) none),.set [(12,.t 129)] [12]]) (.seq (.seq (.reg [.set [(13,.c (.v (.int .i64 0)))] [13]]) (.block 14 (.loop (.seq (.seq (.reg [.set [(131,.ap (.ibin .lss) [.t 13,.c (.v (.int .i64 64))])] [130,131]]) (.cond (.t 131) .skip (.exit 14))) (.seq (.block 15 (.reg [.set [(141,.ap (.call 64) [.ap (.ibin .add) [.t 11,.ap .llen [.t 0]],.t 13]),(142,.ap (.idx 3 1) [.t 12,.t 13])] [134,135,136,137,138,139,140,141,142],.stm (.eff (.store 1 (.t 142) (.t 141)) none)])) (.reg [.set [(13,.ap (.ibin .add) [.t 13,.c (.v (.int .i64 1))])] [132,133,13]])))))) (.reg [.set [(143,.t 5),(144,.t 11),(148,.ap (.load 1 false) [.ap (.idx 34 1) [.t 0,.t 11]]),(149,.t 12)] [143,144,145,146,147,148,149],.stm (.eff (.app 150 3 1 (.t 148) (.t 149)) none),.set [(151,.ap (.idx 34 1) [.t 143,.t 144])] [151],.stm (.eff (.store 1 (.t 151) (.t 150)) none)])))) (.reg [.set [(11,.ap (.ibin .add) [.t 11,.c (.v (.int .i64 1))])] [127,128,11]])))))) (.seq (.seq (.reg [.set [(14,.c (.v (.int .i64 0)))] [14]]) (.block 16 (.loop (.seq (.seq (.reg [.set [(155,.ap (.ibin .lss) [.t 14,.ap .llen [.t 0]])] [152,153,154,155]]) (.cond (.t 155) .skip (.exit 16))) (.seq (.block 17 (.seq (.reg [.set [(15,.c (.v (.int .i64 0)))] [15]]) (.block 18 (.loop (.seq (.seq (.reg [.set [(164,.ap (.ibin .lss) [.t 15,.ap .llen [.ap (.load 1 false) [.ap (.idx 34 1) [.t 0,.t 14]]]])] [158,159,160,161,162,163,164]]) (.cond (.t 164) .skip (.exit 18))) (.seq (.block 19 (.seq (.reg [.set [(192,.ite (.ap .inot [.ap (.ibin .eql) [.ap (.load 1 false) [.ap (.idx 3 1) [.ap (.load 1 false) [.ap (.idx 34 1) [.t 0,.t 14]],.t 15]],.ap (.call 64) [.t 14,.t 15]]]) (.c (.v (.bool true))) (.ap .inot [.ap (.ibin .eql) [.ap (.load 1 false) [.ap (.idx 3 1) [.ap (.load 1 false) [.ap (.idx 34 1) [.t 5,.t 14]],.t 15]],.ap (.call 64) [.t 14,.t 15]]]))] [167,168,169,170,171,172,173,174,175,176,177,178,179,180,181,182,183,184,185,186,187,188,189,190,191,192]]) (.cond (.t 192) (.seq (.reg [.set [(2,.c (.v (.bool false)))] [2]]) .ret) .skip))) (.reg [.set [(15,.ap (.ibin .add) [.t 15,.c (.v (.int .i64 1))])] [165,166,15]]))))))) (.reg [.set [(14,.ap (.ibin .add) [.t 14,.c (.v (.int .i64 1))])] [156,157,14]])))))) (.seq (.reg [.set [(2,.c (.v (.bool true)))] [2]]) .ret))))))),[.t 2])
theorem is77 : IsFn Try.prog frOf 77 Try.f77 W77:=⟨by kernel_rfl,by kernel_rfl,by kernel_rfl⟩
theorem nt77 : Try.f77.ntmps = 193:=by kernel_rfl
def FlI.R1 (F : FlI) (C : Nat→List Int) (k i : Nat) (M : Mem) : Prop:=F.Kp M∧F.In C M∧∀ j,j < F.K→F.nl j = false→∀ q (h : q < (C j).length),j < k ∨ (j = k∧q < i)→(C j)[q] = F.mrk j q
theorem FlI.R1.step {F : FlI} (O : F.OK) {C : Nat→List Int} {k i : Nat} {M M' : Mem} (h : F.R1 C k i M) (hk : k < F.K) (hnl : F.nl k = false) (hi : i < F.ln k) (hp : PresX (F.tk k) (F.gr k) i M M') (hM : M' (F.tk k) = some (.row (F.gr k) 3 (ints ((C k).set i (F.mrk k i))))) :
    F.R1 (fun j=>if j = k then (C k).set i (F.mrk k i) else C j) k (i + 1) M':=by
  obtain ⟨h1,h2,h3⟩:=h
  refine ⟨h1.store O h2 hk hnl hp,h2.store O hk hnl hp (by rw [List.length_set]; exact (h2 k hk hnl).2) hM,fun j hj hn q hq hc=>?_⟩
  by_cases e : j = k
  · subst e
    simp only [if_true] at hq ⊢
    rw [List.getElem_set]
    split
    · rename_i e; rw [e]
    · exact h3 j hj hn q (by simpa using hq) (by omega)
  · simp only [if_neg e] at hq ⊢
    exact h3 j hj hn q hq (by omega)
theorem FlI.R1.next {F : FlI} {C : Nat→List Int} {k i : Nat} {M : Mem} (h : F.R1 C k i M) (hi : F.ln k≤i) : F.R1 C (k + 1) 0 M:=
  ⟨h.1,h.2.1,fun j hj hn q hq hc=>h.2.2 j hj hn q hq (by
    have:=(h.2.1 j hj hn).2
    by_cases e : j = k
    · subst e; right; exact ⟨rfl,by omega⟩
    · left; omega)⟩
theorem FlI.R1.done {F : FlI} {C : Nat→List Int} {M : Mem} (h : F.R1 C F.K 0 M) : F.Kp M∧F.In (fun j=>F.mks j (F.ln j)) M:=by
  refine ⟨h.1,fun j hj hn=>?_⟩
  obtain ⟨h1,h2⟩:=h.2.1 j hj hn
  have : C j = F.mks j (F.ln j):=by
    apply List.ext_getElem (by rw [F.mks_len,h2])
    intro q hq hq'
    rw [h.2.2 j hj hn q hq (.inl hj)]
    simp [FlI.mks]
  simp only [← this]
  exact ⟨h1,h2⟩
structure FlI.R2 (F : FlI) (k : Nat) (M : Mem) : Prop where
  kp : F.Kp M
  inn : F.In (fun j=>F.mks j (F.ln j)) M
  gs : ∃ hs : List (List D),M [43,0] = some (.row [43,0] 34 hs)∧hs.length = F.K∧(∀ c ∈ hs,c.length = 1)∧∀ j,j < k→hs[j]? = some [.sl [69,64 * j + 63] 1 0 (F.ln j + 64) none]
  ext : ∀ j,j < k→M [69,64 * j + 63] = some (.row (F.GG 69 64 j) 3 (ints (F.mks j (F.ln j + 64))))
theorem FlI.R2.pres {F : FlI} (O : F.OK) {k n : Nat} {M M' : Mem} (h : F.R2 k M) (hk : k < F.K) (hn : F.ln k≤n) (hp : Pres (F.GG 69 64 k) n M M') : F.R2 k M':=by
  refine ⟨h.kp.presG O (by omega) hk hp,h.inn.presG O (by omega) hk hn hp,?_,fun j hj=>?_⟩
  · obtain ⟨hs,h1,h2⟩:=h.gs
    exact ⟨hs,hp.row h1 (.inl (FlI.GG_new O hk (by omega))),h2⟩
  · exact hp.row (h.ext j hj) (.inl (FlI.GG_ne O (by omega) (by omega) (by omega) hk (by omega)))
structure FlI.R4 (F : FlI) (k : Nat) (M : Mem) : Prop where
  kp : F.Kp M
  inn : F.In (fun j=>F.mks j (F.ln j)) M
  gs : ∃ hs : List (List D),M [43,0] = some (.row [43,0] 34 hs)∧hs.length = F.K∧(∀ c ∈ hs,c.length = 1)∧∀ j,j < k→hs[j]? = some [.sl [151,j] 1 0 (F.ln j + 64) none]
  ext : ∀ j,j < k→M [151,j] = some (.row (F.GG 151 1 j) 3 (ints (F.mks j (F.ln j) ++ F.mks (j + F.K) 64)))
theorem FlI.R4.pres {F : FlI} (O : F.OK) {k n : Nat} {M M' : Mem} (h : F.R4 k M) (hk : k < F.K) (hn : F.ln k≤n) (hp : Pres (F.GG 151 1 k) n M M') : F.R4 k M':=by
  refine ⟨h.kp.presG O (by omega) hk hp,h.inn.presG O (by omega) hk hn hp,?_,fun j hj=>?_⟩
  · obtain ⟨hs,h1,h2⟩:=h.gs
    exact ⟨hs,hp.row h1 (.inl (FlI.GG_new O hk (by omega))),h2⟩
  · exact hp.row (h.ext j hj) (.inl (FlI.GG_ne O (by omega) (by omega) (by omega) hk (by omega)))
theorem FlI.R4.presN {F : FlI} (O : F.OK) (U0 : ∀ t o,F.U t = some o→∃ r,t = 0 :: r) {k n u : Nat} {M M' : Mem} (h : F.R4 k M) (hk : k≤F.K) (hp : PresX [130,u] [130,u] n M M') : F.R4 k M':=by
  refine ⟨h.kp.presN O (by omega) (by simp) hp U0,h.inn.presN O (by omega) (by simp) hp,?_,fun j hj=>?_⟩
  · obtain ⟨hs,h1,h2⟩:=h.gs
    exact ⟨hs,hp.row h1 (by simp) (.inl (by simp)),h2⟩
  · exact hp.row (h.ext j hj) (by simp) (.inl (FlI.GG_new O (by omega) (by omega)).symm)
theorem FlI.R4.presO {F : FlI} (O : F.OK) (U0 : ∀ t o,F.U t = some o→∃ r,t = 0 :: r) {k n u : Nat} {M M' : Mem} (h : F.R4 k M) (hk : k≤F.K) (hp : Pres [130,u] n M M') : F.R4 k M':=h.presN O U0 hk hp.x
theorem c77w (p64 : FP) (F : FlI) (O : F.OK) (U0 : ∀ t o,F.U t = some o→∃ r,t = 0 :: r) (C0 : Nat→List Int) (h64 : ∀ k i : Nat,k≤1000→i≤10000→p64 [iv k,iv i] = some (iv (F.mrk k i)))
    (s : St) (W : WF s) (hs0 : s.s 0 = .sl F.lt 1 0 F.K none) (hsm : s.m = F.U) (hsc : ∀ y,s.c y = 0) (hin : F.In C0 F.U) :
    wwp (mkEnv [(64,p64)] [] []) W77.1 (fun e s=>okExit e∧resV W77.2 s = some (bv true)∧F.Kp s.m) s:=by
  obtain ⟨K,hK⟩ : ∃ K,K = F.K:=⟨_,rfl⟩
  have hK1:=O.K1
  have hmK : K≤maxMade:=maxMade_le (by omega)
  have hrl:=F.hrow_len
  have hra : ∀ k,k < K→F.hrow[k]? = some [F.hdr k]:=fun k h=>F.hrow_at (by omega)
  have hlD:=fun k=>FlI.hdr_len O k
  rw [← hK] at hs0 hrl
  simp only [W77]
  refine wwp_cutW W (fun σ=>σ.s 0 = .sl F.lt 1 0 K none∧F.R1 C0 0 0 σ.m∧σ.c 42 = 0∧σ.c 68 = 0∧σ.c 129 = 0∧σ.c 150 = 0) (by simp [hs0,hsm,hsc]; exact ⟨fun t o h _=>h,hin,fun j _ _ q _ h=>absurd h (by omega)⟩) ?_
  clear W hs0 hsm hsc s
  rintro σ W ⟨h0,hR,c42,c68,c129,c150⟩
  refine wwp_cutG (fun σ=>WF σ∧σ.s 0 = .sl F.lt 1 0 K none∧(F.Kp σ.m∧F.In (fun j=>F.mks j (F.ln j)) σ.m)∧σ.c 42 = 0∧σ.c 68 = 0∧σ.c 129 = 0∧σ.c 150 = 0) ?_ ?_
  · refine wwp_cut (fun σ=>σ.s 0 = .sl F.lt 1 0 K none∧F.R1 C0 0 0 σ.m∧σ.c 42 = 0∧σ.c 68 = 0∧σ.c 129 = 0∧σ.c 150 = 0∧σ.s 3 = iv 0) (by simp [h0,hR,c42,c68,c129,c150]) ?_
    clear W h0 hR c42 c68 c129 c150 σ
    rintro σ ⟨h0,hR,c42,c68,c129,c150,h3⟩
    simp only [wwp_block]
    refine wwp_loop (fun σ=>∃ k : Nat,k≤K∧σ.s 0 = .sl F.lt 1 0 K none∧(∃ C,F.R1 C k 0 σ.m)∧σ.c 42 = 0∧σ.c 68 = 0∧σ.c 129 = 0∧σ.c 150 = 0∧σ.s 3 = iv k) (fun σ=>cnt K (σ.s 3)) ?_ ?_
    · exact ⟨0,by omega,h0,⟨C0,hR⟩,c42,c68,c129,c150,h3⟩
    clear h0 hR c42 c68 c129 c150 h3 σ
    rintro σ W ⟨k,hk,h0,⟨C,hR⟩,c42,c68,c129,c150,h3⟩
    refine wwp_seq_assoc ?_
    by_cases hlt : k < K
    · have hw1:=wrap_succ (show k≤1000000000 by omega)
      have hmu : cnt K (σ.s 3) = K - k:=by simp [h3]
      simp only [hmu]
      clear hmu
      have hz : (k : Int) < K:=by omega
      refine wwp_on (fun σ=>σ.s 0 = .sl F.lt 1 0 K none∧F.R1 C k 0 σ.m∧σ.c 42 = 0∧σ.c 68 = 0∧σ.c 129 = 0∧σ.c 150 = 0∧σ.s 3 = iv k) (by simp [h0,hR,c42,c68,c129,c150,h3,hz,hlt]) ?_
      clear W h0 hR c42 c68 c129 c150 h3 σ
      rintro σ ⟨h0,hR,c42,c68,c129,c150,h3⟩
      refine wwp_body (fun σ=>σ.s 0 = .sl F.lt 1 0 K none∧(∃ C,F.R1 C (k + 1) 0 σ.m)∧σ.c 42 = 0∧σ.c 68 = 0∧σ.c 129 = 0∧σ.c 150 = 0∧σ.s 3 = iv k) ?_ ?_
      · refine wwp_cut (fun σ=>σ.s 0 = .sl F.lt 1 0 K none∧F.R1 C k 0 σ.m∧σ.c 42 = 0∧σ.c 68 = 0∧σ.c 129 = 0∧σ.c 150 = 0∧σ.s 3 = iv k∧σ.s 4 = iv 0) (by simp [h0,hR,c42,c68,c129,c150,h3]) ?_
        clear h0 hR c42 c68 c129 c150 h3 σ
        rintro σ ⟨h0,hR,c42,c68,c129,c150,h3,h4⟩
        simp only [wwp_block]
        have hsm:=O.small k (by omega)
        obtain ⟨n,hn⟩ : ∃ n,n = F.ln k:=⟨_,rfl⟩
        have hlk:=hlD k
        rw [← hn] at hsm hlk
        refine wwp_loop (fun σ=>∃ i : Nat,i≤n∧σ.s 0 = .sl F.lt 1 0 K none∧(∃ C,F.R1 C k i σ.m)∧σ.c 42 = 0∧σ.c 68 = 0∧σ.c 129 = 0∧σ.c 150 = 0∧σ.s 3 = iv k∧σ.s 4 = iv i) (fun σ=>cnt n (σ.s 4)) ?_ ?_
        · exact ⟨0,by omega,h0,⟨C,hR⟩,c42,c68,c129,c150,h3,h4⟩
        clear h0 hR c42 c68 c129 c150 h3 h4 σ
        clear C
        rintro σ W ⟨i,hi,h0,⟨C,hR⟩,c42,c68,c129,c150,h3,h4⟩
        have hlr:=hR.1.lt O
        have hrk:=hra k hlt
        refine wwp_seq_assoc ?_
        by_cases hin' : i < n
        · have hw2:=wrap_succ (show i≤1000000000 by omega)
          have hmu2 : cnt n (σ.s 4) = n - i:=by simp [h4]
          simp only [hmu2]
          clear hmu2
          have hnl : F.nl k = false:=by
            cases h : F.nl k
            · rfl
            · have:=O.zero k h; omega
          have hz2 : (i : Int) < n:=by omega
          refine wwp_on (fun σ=>WF σ∧σ.s 0 = .sl F.lt 1 0 K none∧F.R1 C k i σ.m∧σ.c 42 = 0∧σ.c 68 = 0∧σ.c 129 = 0∧σ.c 150 = 0∧σ.s 3 = iv k∧σ.s 4 = iv i) (by simp [h0,hR,c42,c68,c129,c150,h3,h4,hlr,hlt,hrk,hlk,hz2,hin']; exact W.of rfl rfl) ?_
          clear W h0 hR c42 c68 c129 c150 h3 h4 hlr σ
          rintro σ ⟨W,h0,hR,c42,c68,c129,c150,h3,h4⟩
          have hlr:=hR.1.lt O
          rw [FlI.hdr_sl hnl,← hn] at hrk
          obtain ⟨hck,hcl⟩:=hR.2.1 k (by omega) hnl
          have hci:=ints_at (l:=C k) (k:=i) (by omega)
          have e64:=h64 k i (by omega) (by omega)
          refine wwp_body (fun σ=>σ.s 0 = .sl F.lt 1 0 K none∧(∃ C,F.R1 C k (i + 1) σ.m)∧σ.c 42 = 0∧σ.c 68 = 0∧σ.c 129 = 0∧σ.c 150 = 0∧σ.s 3 = iv k∧σ.s 4 = iv i) ?_ ?_
          · have hcl2 : i < (C k).length:=by omega
            obtain ⟨X,hX⟩ : ∃ X,X = ints (C k):=⟨_,rfl⟩
            obtain ⟨x,hx⟩ : ∃ x,x = (C k)[i]:=⟨_,rfl⟩
            rw [← hX,← hx] at hci
            rw [← hX] at hck
            have hXs : X.set i [iv (F.mrk k i)] = ints ((C k).set i (F.mrk k i)):=by rw [ints_set,hX]
            simp [h0,c42,c68,c129,c150,h3,h4,hlr,hlt,hrk,e64,hck,hci,hin']
            exact ⟨_,hR.step O (by omega) hnl (by omega) (fun τ o g1 g2 g3=>by simp [g1,g2,g3]) (by simp [← hXs])⟩
          · clear W h0 hR c42 c68 c129 c150 h3 h4 hlr hck hcl hci hrk σ
            rintro σ ⟨h0,hR,c42,c68,c129,c150,h3,h4⟩
            simp [h0,c42,c68,c129,c150,h3,h4,hw2]
            exact ⟨⟨i + 1,by omega,hR,rfl⟩,by omega⟩
        · refine wwp_off ?_
          have hz2 : ¬ (i : Int) < n:=by omega
          simp [h0,c42,c68,c129,c150,h3,h4,hlr,hlt,hrk,hlk,hz2,hin']
          exact ⟨C,hR.next (by omega)⟩
      · clear h0 hR c42 c68 c129 c150 h3 σ
        rintro σ ⟨h0,hR,c42,c68,c129,c150,h3⟩
        simp [h0,c42,c68,c129,c150,h3,hw1]
        exact ⟨⟨k + 1,by omega,hR,rfl⟩,by omega⟩
    · obtain rfl : k = K:=by omega
      refine wwp_off ?_
      simp [h0,c42,c68,c129,c150,h3]
      rw [hK] at hR
      exact ⟨W.of rfl rfl,hR.done⟩
  clear W h0 hR c42 c68 c129 c150 σ
  rintro σ ⟨W,h0,⟨hkp,hin2⟩,c42,c68,c129,c150⟩
  -- gs
  refine wwp_cutW W (fun σ=>σ.s 0 = .sl F.lt 1 0 K none∧F.R2 0 σ.m∧σ.s 5 = .sl [43,0] 1 0 K none∧σ.c 68 = 0∧σ.c 129 = 0∧σ.c 150 = 0) ?_ ?_
  · simp [h0,c42,c68,c129,c150,hmK]
    have hp : ∀ M' : Mem,M' = (fun τ=>if τ = [43,0] then some (.row [43,0] 34 (List.replicate K [.nil])) else σ.m τ)→F.R2 0 M':=fun M' e=>by
      have hp : PresX [43,0] [43,0] 0 σ.m M':=fun τ o g1 _ g2=>by
        have:=W.ne g1 42 0 [] (by omega)
        rw [e]
        simp only [if_neg this,g1]
      refine ⟨hkp.presN O (by omega) (by simp) hp U0,hin2.presN O (by omega) (by simp) hp,⟨List.replicate K [.nil],by simp [e],by simp [hK],fun c hc=>by rw [(List.mem_replicate.1 hc).2]; rfl,fun j hj=>absurd hj (by omega)⟩,fun j hj=>absurd hj (by omega)⟩
    refine hp _ (funext fun τ=>?_)
    simp [c42]
  clear W h0 hkp hin2 c42 c68 c129 c150 σ
  rintro σ W ⟨h0,hR,h5,c68,c129,c150⟩
  refine wwp_cutG (fun σ=>σ.s 0 = .sl F.lt 1 0 K none∧F.R2 K σ.m∧σ.s 5 = .sl [43,0] 1 0 K none∧σ.c 129 = 0∧σ.c 150 = 0) ?_ ?_
  · refine wwp_cut (fun σ=>σ.s 0 = .sl F.lt 1 0 K none∧F.R2 0 σ.m∧σ.s 5 = .sl [43,0] 1 0 K none∧σ.c 68 = 0∧σ.c 129 = 0∧σ.c 150 = 0∧σ.s 6 = iv 0) (by simp [h0,hR,h5,c68,c129,c150]) ?_
    clear W h0 hR h5 c68 c129 c150 σ
    rintro σ ⟨h0,hR,h5,c68,c129,c150,h6⟩
    simp only [wwp_block]
    refine wwp_loop (fun σ=>∃ k : Nat,k≤K∧σ.s 0 = .sl F.lt 1 0 K none∧F.R2 k σ.m∧σ.s 5 = .sl [43,0] 1 0 K none∧σ.c 68 = 64 * k∧σ.c 129 = 0∧σ.c 150 = 0∧σ.s 6 = iv k) (fun σ=>cnt K (σ.s 6)) ?_ ?_
    · exact ⟨0,by omega,h0,hR,h5,c68,c129,c150,h6⟩
    clear h0 hR h5 c68 c129 c150 h6 σ
    rintro σ W ⟨k,hk,h0,hR,h5,c68,c129,c150,h6⟩
    refine wwp_seq_assoc ?_
    by_cases hlt : k < K
    · have hw1:=wrap_succ (show k≤1000000000 by omega)
      have hmu : cnt K (σ.s 6) = K - k:=by simp [h6]
      simp only [hmu]
      clear hmu
      have hz : (k : Int) < K:=by omega
      have hrk:=hra k hlt
      have hsm:=O.small k (by omega)
      obtain ⟨n,hn⟩ : ∃ n,n = F.ln k:=⟨_,rfl⟩
      have hlk:=hlD k
      rw [← hn] at hsm hlk
      refine wwp_on (fun σ=>σ.s 0 = .sl F.lt 1 0 K none∧F.R2 k σ.m∧σ.s 5 = .sl [43,0] 1 0 K none∧σ.c 68 = 64 * k∧σ.c 129 = 0∧σ.c 150 = 0∧σ.s 6 = iv k) (by simp [h0,hR,h5,c68,c129,c150,h6,hz,hlt]) ?_
      clear W h0 hR h5 c68 c129 c150 h6 σ
      rintro σ ⟨h0,hR,h5,c68,c129,c150,h6⟩
      refine wwp_body (fun σ=>σ.s 0 = .sl F.lt 1 0 K none∧F.R2 (k + 1) σ.m∧σ.s 5 = .sl [43,0] 1 0 K none∧σ.c 68 = 64 * (k + 1)∧σ.c 129 = 0∧σ.c 150 = 0∧σ.s 6 = iv k) ?_ ?_
      · have hlr:=hR.kp.lt O
        refine wwp_cut (fun σ=>σ.s 0 = .sl F.lt 1 0 K none∧F.R2 k σ.m∧σ.s 5 = .sl [43,0] 1 0 K none∧σ.c 68 = 64 * k∧σ.c 129 = 0∧σ.c 150 = 0∧σ.s 6 = iv k∧σ.s 7 = F.hdr k) (by simp [h0,hR,h5,c68,c129,c150,h6,hlr,hrk,hlt]) ?_
        clear h0 hR h5 c68 c129 c150 h6 hlr σ
        rintro σ ⟨h0,hR,h5,c68,c129,c150,h6,h7⟩
        have g64 : k = k:=rfl
        refine wwp_cutG (fun σ=>WF σ∧σ.s 0 = .sl F.lt 1 0 K none∧F.R2 k σ.m∧σ.s 5 = .sl [43,0] 1 0 K none∧σ.c 68 = 64 * k + 64∧σ.c 129 = 0∧σ.c 150 = 0∧σ.s 6 = iv k∧σ.s 7 = .sl [69,64 * k + 63] 1 0 (n + 64) none∧σ.m [69,64 * k + 63] = some (.row (F.GG 69 64 k) 3 (ints (F.mks k (n + 64))))) ?_ ?_
        · refine wwp_cut (fun σ=>σ.s 0 = .sl F.lt 1 0 K none∧F.R2 k σ.m∧σ.s 5 = .sl [43,0] 1 0 K none∧σ.c 68 = 64 * k∧σ.c 129 = 0∧σ.c 150 = 0∧σ.s 6 = iv k∧σ.s 7 = F.hdr k∧σ.s 8 = iv 0) (by simp [h0,hR,h5,c68,c129,c150,h6,h7]) ?_
          clear h0 hR h5 c68 c129 c150 h6 h7 σ
          rintro σ ⟨h0,hR,h5,c68,c129,c150,h6,h7,h8⟩
          simp only [wwp_block]
          refine wwp_loop (fun σ=>∃ i : Nat,i≤64∧σ.s 0 = .sl F.lt 1 0 K none∧F.R2 k σ.m∧σ.s 5 = .sl [43,0] 1 0 K none∧σ.c 68 = 64 * k + i∧σ.c 129 = 0∧σ.c 150 = 0∧σ.s 6 = iv k∧((i = 0∧σ.s 7 = F.hdr k) ∨ (0 < i∧σ.s 7 = .sl [69,64 * k + (i - 1)] 1 0 (n + i) none∧σ.m [69,64 * k + (i - 1)] = some (.row (F.GG 69 64 k) 3 (ints (F.mks k (n + i))))))∧σ.s 8 = iv i) (fun σ=>cnt 64 (σ.s 8)) ?_ ?_
          · exact ⟨0,by omega,h0,hR,h5,c68,c129,c150,h6,.inl ⟨rfl,h7⟩,h8⟩
          clear h0 hR h5 c68 c129 c150 h6 h7 h8 σ
          rintro σ W ⟨i,hi,h0,hR,h5,c68,c129,c150,h6,h7,h8⟩
          refine wwp_seq_assoc ?_
          by_cases hi64 : i < 64
          · have hw2:=wrap_succ (show i≤1000000000 by omega)
            have hmu2 : cnt 64 (σ.s 8) = 64 - i:=by simp [h8]
            simp only [hmu2]
            clear hmu2
            have hz2 : (i : Int) < 64:=by omega
            refine wwp_on (fun σ=>WF σ∧σ.s 0 = .sl F.lt 1 0 K none∧F.R2 k σ.m∧σ.s 5 = .sl [43,0] 1 0 K none∧σ.c 68 = 64 * k + i∧σ.c 129 = 0∧σ.c 150 = 0∧σ.s 6 = iv k∧((i = 0∧σ.s 7 = F.hdr k) ∨ (0 < i∧σ.s 7 = .sl [69,64 * k + (i - 1)] 1 0 (n + i) none∧σ.m [69,64 * k + (i - 1)] = some (.row (F.GG 69 64 k) 3 (ints (F.mks k (n + i))))))∧σ.s 8 = iv i) (by simp [h0,hR,h5,c68,c129,c150,h6,h8,hz2,hi64]; exact ⟨W.of rfl rfl,h7⟩) ?_
            clear W h0 hR h5 c68 c129 c150 h6 h7 h8 σ
            rintro σ ⟨W,h0,hR,h5,c68,c129,c150,h6,h7,h8⟩
            have hlr:=hR.kp.lt O
            have e64:=h64 k (n + i) (by omega) (by omega)
            rw [Int.natCast_add] at e64
            have hw3 : IntKind.i64.wrap ((n : Int) + i) = (n : Int) + i:=wrap_in (by omega) (by omega)
            refine wwp_body (fun σ=>σ.s 0 = .sl F.lt 1 0 K none∧F.R2 k σ.m∧σ.s 5 = .sl [43,0] 1 0 K none∧σ.c 68 = 64 * k + (i + 1)∧σ.c 129 = 0∧σ.c 150 = 0∧σ.s 6 = iv k∧σ.s 7 = .sl [69,64 * k + i] 1 0 (n + (i + 1)) none∧σ.m [69,64 * k + i] = some (.row (F.GG 69 64 k) 3 (ints (F.mks k (n + (i + 1)))))∧σ.s 8 = iv i) ?_ ?_
            · have hms : ints (F.mks k (n + (i + 1))) = ints (F.mks k (n + i)) ++ [[iv (F.mrk k (n + i))]]:=by rw [← Nat.add_assoc,FlI.mks_succ,ints_append]; rfl
              obtain ⟨x,hx⟩ : ∃ x,x = F.mrk k (n + i):=⟨_,rfl⟩
              rw [hms]
              rw [← hx] at e64 ⊢
              have hml : (ints (F.mks k (n + i))).length = n + i:=by rw [ints_len,FlI.mks_len]
              obtain ⟨X,hX⟩ : ∃ X,X = ints (F.mks k (n + i)):=⟨_,rfl⟩
              have hXn : n + i = 0→X = []:=fun h=>by rw [hX,h]; rfl
              rw [← hX] at hml ⊢
              have hmx : n + i + 1≤maxMade:=maxMade_le (by omega)
              have hxt : X.take (n + i) = X:=List.take_of_length_le (by omega)
              rcases h7 with ⟨hi0,h7⟩ | ⟨hi0,h7,m7⟩
              · cases hnl : F.nl k with
                | true=>
                  have hn0 : n = 0:=by rw [hn]; exact O.zero k hnl
                  subst hi0 hn0
                  rw [FlI.hdr_nl hnl] at h7
                  have hX0:=hXn rfl
                  have hGG : F.GG 69 64 k = [69,64 * k]:=by unfold FlI.GG; rw [hnl]; rfl
                  rw [hGG,hX0]
                  have e65 : p64 [iv k,iv 0] = some (iv x):=by simpa using e64
                  rcases FlI.emp_or O (show k < F.K by omega) with hE | ⟨j,hj,hjn,hE⟩
                  · rw [hE] at h7
                    simp [h0,h5,c68,c129,c150,h6,h7,h8,hlr,hrk,hlt,hlk,e65,one_made]
                    refine hR.pres O (by omega) (n:=0) (by omega) fun τ o g1 g2=>?_
                    have a:=W.ne g1 68 (64 * k) [] (by omega)
                    have b:=W.ne g1 67 (σ.c 67) []
                    simp [a,b,g1,c68]
                  · obtain ⟨q,hq⟩:=O.tk0 j hj hjn
                    have mj:=(hR.inn j hj hjn).1
                    rw [hq] at hE mj
                    rw [hE] at h7
                    simp [h0,h5,c68,c129,c150,h6,h7,h8,hlr,hrk,hlt,hlk,e65,one_made,mj]
                    refine hR.pres O (by omega) (n:=0) (by omega) fun τ o g1 g2=>?_
                    have a:=W.ne g1 68 (64 * k) [] (by omega)
                    have b:=W.ne g1 67 (σ.c 67) []
                    simp [a,b,g1,c68]
                | false=>
                  subst hi0
                  rw [FlI.hdr_sl hnl,← hn] at h7
                  have hGG : F.GG 69 64 k = F.gr k:=by unfold FlI.GG; rw [hnl]; rfl
                  obtain ⟨q,hq⟩:=O.tk0 k (by omega) hnl
                  have hck:=(hR.inn k (by omega) hnl).1
                  simp only [← hn,hq] at hck
                  rw [← Nat.add_zero n,← hX] at hck
                  rw [hq] at h7
                  simp only [Nat.add_zero] at hml hmx hxt
                  rw [hGG]
                  have hw4 : IntKind.i64.wrap (n : Int) = n:=wrap_in (by omega) (by omega)
                  simp at e64
                  simp [h0,h5,c68,c129,c150,h6,h7,h8,hlr,hrk,hlt,hlk,hw4,e64,one_made,hck,hml,hmx,hxt]
                  refine hR.pres O (by omega) (n:=n) (by omega) fun τ o g1 g2=>?_
                  have a:=W.ne g1 68 (64 * k) [] (by omega)
                  have b:=W.ne g1 67 (σ.c 67) []
                  rw [hGG] at g2
                  simp [a,b,g1,g2,c68]
              · obtain ⟨v,hv⟩ : ∃ v,v = 64 * k + (i - 1):=⟨_,rfl⟩
                rw [← hv] at h7 m7
                rw [← hX] at m7
                have hi0' : ¬ i = 0:=by omega
                have hv' : ¬ v = 64 * k + i:=by omega
                simp [h0,h5,c68,c129,c150,h6,h7,m7,h8,hlr,hrk,hlt,hlk,hw3,e64,one_made,hml,hmx,hxt]
                refine ⟨hR.pres O (by omega) (n:=n + i) (by omega) fun τ o g1 g2=>?_,by omega,by omega⟩
                have a:=W.ne g1 68 (64 * k + i) [] (by omega)
                have b:=W.ne g1 67 (σ.c 67) []
                simp [a,b,g1,g2,c68]
            · clear W h0 hR h5 c68 c129 c150 h6 h7 h8 hlr σ
              rintro σ ⟨h0,hR,h5,c68,c129,c150,h6,h7,m7,h8⟩
              simp [h0,hR,h5,c68,c129,c150,h6,h7,m7,h8,hw2]
              exact ⟨⟨i + 1,by omega,rfl,.inr ⟨by omega,by simp,by simpa using m7⟩,by simp⟩,by omega⟩
          · obtain rfl : i = 64:=by omega
            rcases h7 with ⟨hi0,_⟩ | ⟨_,h7,m7⟩
            · omega
            refine wwp_off ?_
            simp [h0,hR,h5,c68,c129,c150,h6,h7,h8]
            exact ⟨W.of rfl rfl,m7⟩
        · clear h0 hR h5 c68 c129 c150 h6 h7 σ
          rintro σ ⟨W,h0,hR,h5,c68,c129,c150,h6,h7,m7⟩
          obtain ⟨hs,hg,hgl,hgs,hga⟩:=hR.gs
          rw [← hK] at hgl
          have hge : (∃ c,c ∈ hs∧¬ c.length = 1) = False:=by simp only [eq_iff_iff,iff_false]; rintro ⟨c,a,b⟩; exact b (hgs c a)
          obtain ⟨d,hd⟩ : ∃ d,hs[k]? = some [d]:=by
            have h1 : k < hs.length:=by omega
            have h2:=hgs hs[k] (List.getElem_mem h1)
            match h3 : hs[k],h2 with
            | [d],_=>exact ⟨d,by simp [h1,h3]⟩
          simp [h0,h5,c68,c129,c150,h6,h7,hg,hd,hge,hlt]
          have hp : PresX [43,0] [43,0] k σ.m (fun τ=>if τ = [43,0] then some (.row [43,0] 34 (hs.set k [.sl [69,64 * k + 63] 1 0 (n + 64) none])) else HO.struck [43,0] k (σ.m τ)):=fun τ o g1 g2 g3=>by simp [g1,g2,g3]
          refine ⟨⟨hR.kp.presN O (by omega) (by simp) hp U0,hR.inn.presN O (by omega) (by simp) hp,⟨hs.set k [.sl [69,64 * k + 63] 1 0 (n + 64) none],by simp,by simp [hgl,hK],fun c hc=>?_,fun j hj=>?_⟩,fun j hj=>?_⟩,by omega⟩
          · rcases List.mem_or_eq_of_mem_set hc with h | rfl
            · exact hgs c h
            · rfl
          · by_cases e : j = k
            · subst e; rw [List.getElem?_set_self (by omega),← hn]
            · rw [List.getElem?_set_ne (by omega)]; exact hga j (by omega)
          · by_cases e : j = k
            · subst e
              rw [hn] at m7
              exact hp.row m7 (by simp) (.inl (FlI.GG_new O (by omega) (by omega)).symm)
            · exact hp.row (hR.ext j (by omega)) (by simp) (.inl (FlI.GG_new O (by omega) (by omega)).symm)
      · clear h0 hR h5 c68 c129 c150 h6 σ
        rintro σ ⟨h0,hR,h5,c68,c129,c150,h6⟩
        simp [h0,hR,h5,c68,c129,c150,h6,hw1]
        exact ⟨⟨k + 1,by omega,hR,rfl,by simp⟩,by omega⟩
    · obtain rfl : k = K:=by omega
      refine wwp_off ?_
      simp [h0,hR,h5,c129,c150,h6]
  clear W h0 hR h5 c68 c129 c150 σ
  rintro σ ⟨h0,hR,h5,c129,c150⟩
  -- read
  refine wwp_cutG (fun σ=>σ.s 0 = .sl F.lt 1 0 K none∧F.R2 K σ.m∧σ.s 5 = .sl [43,0] 1 0 K none∧σ.c 129 = 0∧σ.c 150 = 0) ?_ ?_
  · refine wwp_cut (fun σ=>σ.s 0 = .sl F.lt 1 0 K none∧F.R2 K σ.m∧σ.s 5 = .sl [43,0] 1 0 K none∧σ.c 129 = 0∧σ.c 150 = 0∧σ.s 9 = iv 0) (by simp [h0,hR,h5,c129,c150]) ?_
    clear h0 hR h5 c129 c150 σ
    rintro σ ⟨h0,hR,h5,c129,c150,h9⟩
    simp only [wwp_block]
    refine wwp_loop (fun σ=>∃ k : Nat,k≤K∧σ.s 0 = .sl F.lt 1 0 K none∧F.R2 K σ.m∧σ.s 5 = .sl [43,0] 1 0 K none∧σ.c 129 = 0∧σ.c 150 = 0∧σ.s 9 = iv k) (fun σ=>cnt K (σ.s 9)) ?_ ?_
    · exact ⟨0,by omega,h0,hR,h5,c129,c150,h9⟩
    clear h0 hR h5 c129 c150 h9 σ
    rintro σ W ⟨k,hk,h0,hR,h5,c129,c150,h9⟩
    clear W
    refine wwp_seq_assoc ?_
    by_cases hlt : k < K
    · have hw1:=wrap_succ (show k≤1000000000 by omega)
      have hmu : cnt K (σ.s 9) = K - k:=by simp [h9]
      simp only [hmu]
      clear hmu
      have hz : (k : Int) < K:=by omega
      have hrk:=hra k hlt
      have hsm:=O.small k (by omega)
      obtain ⟨n,hn⟩ : ∃ n,n = F.ln k:=⟨_,rfl⟩
      have hlk:=hlD k
      rw [← hn] at hsm hlk
      refine wwp_on (fun σ=>σ.s 0 = .sl F.lt 1 0 K none∧F.R2 K σ.m∧σ.s 5 = .sl [43,0] 1 0 K none∧σ.c 129 = 0∧σ.c 150 = 0∧σ.s 9 = iv k) (by simp [h0,hR,h5,c129,c150,h9,hz,hlt]) ?_
      clear h0 hR h5 c129 c150 h9 σ
      rintro σ ⟨h0,hR,h5,c129,c150,h9⟩
      refine wwp_body (fun σ=>σ.s 0 = .sl F.lt 1 0 K none∧F.R2 K σ.m∧σ.s 5 = .sl [43,0] 1 0 K none∧σ.c 129 = 0∧σ.c 150 = 0∧σ.s 9 = iv k) ?_ ?_
      · refine wwp_cut (fun σ=>σ.s 0 = .sl F.lt 1 0 K none∧F.R2 K σ.m∧σ.s 5 = .sl [43,0] 1 0 K none∧σ.c 129 = 0∧σ.c 150 = 0∧σ.s 9 = iv k∧σ.s 10 = iv 0) (by simp [h0,hR,h5,c129,c150,h9]) ?_
        clear h0 hR h5 c129 c150 h9 σ
        rintro σ ⟨h0,hR,h5,c129,c150,h9,h10⟩
        simp only [wwp_block]
        refine wwp_loop (fun σ=>∃ i : Nat,i≤n + 64∧σ.s 0 = .sl F.lt 1 0 K none∧F.R2 K σ.m∧σ.s 5 = .sl [43,0] 1 0 K none∧σ.c 129 = 0∧σ.c 150 = 0∧σ.s 9 = iv k∧σ.s 10 = iv i) (fun σ=>cnt (n + 64) (σ.s 10)) ?_ ?_
        · exact ⟨0,by omega,h0,hR,h5,c129,c150,h9,h10⟩
        clear h0 hR h5 c129 c150 h9 h10 σ
        rintro σ W ⟨i,hi,h0,hR,h5,c129,c150,h9,h10⟩
        clear W
        have hlr:=hR.kp.lt O
        obtain ⟨hs,hg,hgl,hgs,hga⟩:=hR.gs
        rw [← hK] at hgl
        have hgk:=hga k hlt
        rw [← hn] at hgk
        have hge : (∃ c,c ∈ hs∧¬ c.length = 1) = False:=by simp only [eq_iff_iff,iff_false]; rintro ⟨c,a,b⟩; exact b (hgs c a)
        refine wwp_seq_assoc ?_
        by_cases hin' : i < n + 64
        · have hw2:=wrap_succ (show i≤1000000000 by omega)
          have hmu2 : cnt (n + 64) (σ.s 10) = n + 64 - i:=by simp [h10]
          simp only [hmu2]
          clear hmu2
          have hz2 : (i : Int) < (n : Int) + 64:=by omega
          refine wwp_on (fun σ=>σ.s 0 = .sl F.lt 1 0 K none∧F.R2 K σ.m∧σ.s 5 = .sl [43,0] 1 0 K none∧σ.c 129 = 0∧σ.c 150 = 0∧σ.s 9 = iv k∧σ.s 10 = iv i) (by simp [h0,hR,h5,c129,c150,h9,h10,hlt,hg,hgk,hge,hz2]) ?_
          clear h0 hR h5 c129 c150 h9 h10 hlr hs hg hgl hgs hga hgk hge σ
          rintro σ ⟨h0,hR,h5,c129,c150,h9,h10⟩
          have hlr:=hR.kp.lt O
          obtain ⟨hs,hg,hgl,hgs,hga⟩:=hR.gs
          rw [← hK] at hgl
          have hgk:=hga k hlt
          have hex:=hR.ext k hlt
          rw [← hn] at hgk hex
          have hge : (∃ c,c ∈ hs∧¬ c.length = 1) = False:=by simp only [eq_iff_iff,iff_false]; rintro ⟨c,a,b⟩; exact b (hgs c a)
          have e64:=h64 k i (by omega) (by omega)
          have hxi:=F.mks_at (k:=k) hin'
          obtain ⟨X,hX⟩ : ∃ X,X = ints (F.mks k (n + 64)):=⟨_,rfl⟩
          have hXl : X.length = n + 64:=by rw [hX,ints_len,FlI.mks_len]
          have hXs : X.all (fun c=>c.length == 1) = true:=by rw [hX]; exact ints_size _
          rw [← hX] at hex hxi
          refine wwp_body (fun σ=>σ.s 0 = .sl F.lt 1 0 K none∧F.R2 K σ.m∧σ.s 5 = .sl [43,0] 1 0 K none∧σ.c 129 = 0∧σ.c 150 = 0∧σ.s 9 = iv k∧σ.s 10 = iv i) ?_ ?_
          · by_cases hin2 : i < n
            · have hnl : F.nl k = false:=by
                cases h : F.nl k
                · rfl
                · have:=O.zero k h; omega
              have hz3 : (i : Int) < n:=by omega
              have hci:=(hR.inn k (by omega) hnl).1
              have hyi:=F.mks_at (k:=k) hin2
              simp only [← hn] at hci
              rw [FlI.hdr_sl hnl,← hn] at hrk
              obtain ⟨x,hx⟩ : ∃ x,x = F.mrk k i:=⟨_,rfl⟩
              rw [← hx] at e64 hxi hyi
              simp [h0,hR,h5,c129,c150,h9,h10,hlr,hlt,hrk,hg,hgk,hge,hex,hxi,hci,hyi,e64,hz3,hin2,hin',hz2]
            · have hz3 : ¬ (i : Int) < n:=by omega
              obtain ⟨x,hx⟩ : ∃ x,x = F.mrk k i:=⟨_,rfl⟩
              rw [← hx] at e64 hxi
              simp [h0,hR,h5,c129,c150,h9,h10,hlr,hlt,hrk,hlk,hg,hgk,hge,hex,hxi,e64,hz3,hin2,hin',hz2]
          · clear h0 hR h5 c129 c150 h9 h10 hlr hs hg hgl hgs hga hgk hge hex σ
            rintro σ ⟨h0,hR,h5,c129,c150,h9,h10⟩
            simp [h0,hR,h5,c129,c150,h9,h10,hw2]
            exact ⟨⟨i + 1,by omega,rfl⟩,by omega⟩
        · refine wwp_off ?_
          have hz2 : ¬ (i : Int) < (n : Int) + 64:=by omega
          simp [h0,hR,h5,c129,c150,h9,h10,hlt,hg,hgk,hge,hz2]
      · clear h0 hR h5 c129 c150 h9 σ
        rintro σ ⟨h0,hR,h5,c129,c150,h9⟩
        simp [h0,hR,h5,c129,c150,h9,hw1]
        exact ⟨⟨k + 1,by omega,rfl⟩,by omega⟩
    · obtain rfl : k = K:=by omega
      refine wwp_off ?_
      simp [h0,hR,h5,c129,c150,h9]
  clear h0 hR h5 c129 c150 σ
  rintro σ ⟨h0,hR,h5,c129,c150⟩
  -- many
  refine wwp_cutG (fun σ=>σ.s 0 = .sl F.lt 1 0 K none∧F.R4 K σ.m∧σ.s 5 = .sl [43,0] 1 0 K none) ?_ ?_
  · have hR4 : F.R4 0 σ.m:=⟨hR.kp,hR.inn,by obtain ⟨hs,a,b,c,_⟩:=hR.gs; exact ⟨hs,a,b,c,fun j h=>absurd h (by omega)⟩,fun j h=>absurd h (by omega)⟩
    refine wwp_cut (fun σ=>σ.s 0 = .sl F.lt 1 0 K none∧F.R4 0 σ.m∧σ.s 5 = .sl [43,0] 1 0 K none∧σ.c 129 = 0∧σ.c 150 = 0∧σ.s 11 = iv 0) (by simp [h0,hR4,h5,c129,c150]) ?_
    clear h0 hR hR4 h5 c129 c150 σ
    rintro σ ⟨h0,hR,h5,c129,c150,h11⟩
    simp only [wwp_block]
    refine wwp_loop (fun σ=>∃ k : Nat,k≤K∧σ.s 0 = .sl F.lt 1 0 K none∧F.R4 k σ.m∧σ.s 5 = .sl [43,0] 1 0 K none∧σ.c 129 = k∧σ.c 150 = k∧σ.s 11 = iv k) (fun σ=>cnt K (σ.s 11)) ?_ ?_
    · exact ⟨0,by omega,h0,hR,h5,c129,c150,h11⟩
    clear h0 hR h5 c129 c150 h11 σ
    rintro σ W ⟨k,hk,h0,hR,h5,c129,c150,h11⟩
    refine wwp_seq_assoc ?_
    by_cases hlt : k < K
    · have hw1:=wrap_succ (show k≤1000000000 by omega)
      have hmu : cnt K (σ.s 11) = K - k:=by simp [h11]
      simp only [hmu]
      clear hmu
      have hz : (k : Int) < K:=by omega
      have hrk:=hra k hlt
      have hsm:=O.small k (by omega)
      have hm64 : 64≤maxMade:=maxMade_le (by omega)
      have hm64i : (64 : Int)≤(maxMade : Int):=by omega
      obtain ⟨n,hn⟩ : ∃ n,n = F.ln k:=⟨_,rfl⟩
      have hlk:=hlD k
      rw [← hn] at hsm hlk
      refine wwp_on (fun σ=>WF σ∧σ.s 0 = .sl F.lt 1 0 K none∧F.R4 k σ.m∧σ.s 5 = .sl [43,0] 1 0 K none∧σ.c 129 = k∧σ.c 150 = k∧σ.s 11 = iv k) (by simp [h0,hR,h5,c129,c150,h11,hz,hlt]; exact W.of rfl rfl) ?_
      clear W h0 hR h5 c129 c150 h11 σ
      rintro σ ⟨W,h0,hR,h5,c129,c150,h11⟩
      refine wwp_body (fun σ=>σ.s 0 = .sl F.lt 1 0 K none∧F.R4 (k + 1) σ.m∧σ.s 5 = .sl [43,0] 1 0 K none∧σ.c 129 = k + 1∧σ.c 150 = k + 1∧σ.s 11 = iv k) ?_ ?_
      · refine wwp_cutW W (fun σ=>σ.s 0 = .sl F.lt 1 0 K none∧F.R4 k σ.m∧σ.s 5 = .sl [43,0] 1 0 K none∧σ.c 129 = k + 1∧σ.c 150 = k∧σ.s 11 = iv k∧σ.s 12 = .sl [130,k] 1 0 64 none∧∃ L : List Int,σ.m [130,k] = some (.row [130,k] 3 (ints L))∧L.length = 64) ?_ ?_
        · simp [h0,h5,c129,c150,h11,hm64i]
          refine ⟨hR.presO O U0 (by omega) (u:=k) (n:=0) fun τ o g1 g2=>?_,List.replicate 64 (0 : Int),by simp [ints],by simp⟩
          have:=W.ne g1 129 k [] (by omega)
          simp [this,g1,c129]
        clear W h0 hR h5 c129 c150 h11 σ
        rintro σ W ⟨h0,hR,h5,c129,c150,h11,h12,L,mL,hL⟩
        refine wwp_cutG (fun σ=>WF σ∧σ.s 0 = .sl F.lt 1 0 K none∧F.R4 k σ.m∧σ.s 5 = .sl [43,0] 1 0 K none∧σ.c 129 = k + 1∧σ.c 150 = k∧σ.s 11 = iv k∧σ.s 12 = .sl [130,k] 1 0 64 none∧σ.m [130,k] = some (.row [130,k] 3 (ints (F.mks (k + K) 64)))) ?_ ?_
        · refine wwp_cut (fun σ=>σ.s 0 = .sl F.lt 1 0 K none∧F.R4 k σ.m∧σ.s 5 = .sl [43,0] 1 0 K none∧σ.c 129 = k + 1∧σ.c 150 = k∧σ.s 11 = iv k∧σ.s 12 = .sl [130,k] 1 0 64 none∧σ.m [130,k] = some (.row [130,k] 3 (ints L))∧σ.s 13 = iv 0) (by simp [h0,hR,h5,c129,c150,h11,h12,mL]) ?_
          clear W h0 hR h5 c129 c150 h11 h12 mL σ
          rintro σ ⟨h0,hR,h5,c129,c150,h11,h12,mL,h13⟩
          simp only [wwp_block]
          refine wwp_loop (fun σ=>∃ i : Nat,i≤64∧σ.s 0 = .sl F.lt 1 0 K none∧F.R4 k σ.m∧σ.s 5 = .sl [43,0] 1 0 K none∧σ.c 129 = k + 1∧σ.c 150 = k∧σ.s 11 = iv k∧σ.s 12 = .sl [130,k] 1 0 64 none∧(∃ L : List Int,σ.m [130,k] = some (.row [130,k] 3 (ints L))∧L.length = 64∧∀ q (h : q < L.length),q < i→L[q] = F.mrk (k + K) q)∧σ.s 13 = iv i) (fun σ=>cnt 64 (σ.s 13)) ?_ ?_
          · exact ⟨0,by omega,h0,hR,h5,c129,c150,h11,h12,⟨L,mL,hL,fun q _ h=>absurd h (by omega)⟩,h13⟩
          clear h0 hR h5 c129 c150 h11 h12 mL h13 hL L σ
          rintro σ W ⟨i,hi,h0,hR,h5,c129,c150,h11,h12,⟨L,mL,hL,hLm⟩,h13⟩
          refine wwp_seq_assoc ?_
          by_cases hi64 : i < 64
          · have hw2:=wrap_succ (show i≤1000000000 by omega)
            have hmu2 : cnt 64 (σ.s 13) = 64 - i:=by simp [h13]
            simp only [hmu2]
            clear hmu2
            have hz2 : (i : Int) < 64:=by omega
            refine wwp_on (fun σ=>σ.s 0 = .sl F.lt 1 0 K none∧F.R4 k σ.m∧σ.s 5 = .sl [43,0] 1 0 K none∧σ.c 129 = k + 1∧σ.c 150 = k∧σ.s 11 = iv k∧σ.s 12 = .sl [130,k] 1 0 64 none∧σ.m [130,k] = some (.row [130,k] 3 (ints L))∧σ.s 13 = iv i) (by simp [h0,hR,h5,c129,c150,h11,h12,mL,h13,hz2]) ?_
            clear W h0 hR h5 c129 c150 h11 h12 mL h13 σ
            rintro σ ⟨h0,hR,h5,c129,c150,h11,h12,mL,h13⟩
            have e64:=h64 (k + K) i (by omega) (by omega)
            rw [Int.natCast_add] at e64
            have hw3 : IntKind.i64.wrap ((k : Int) + K) = (k : Int) + K:=wrap_in (by omega) (by omega)
            have hLi:=ints_at (l:=L) (k:=i) (by omega)
            refine wwp_body (fun σ=>σ.s 0 = .sl F.lt 1 0 K none∧F.R4 k σ.m∧σ.s 5 = .sl [43,0] 1 0 K none∧σ.c 129 = k + 1∧σ.c 150 = k∧σ.s 11 = iv k∧σ.s 12 = .sl [130,k] 1 0 64 none∧(∃ L : List Int,σ.m [130,k] = some (.row [130,k] 3 (ints L))∧L.length = 64∧∀ q (h : q < L.length),q < i + 1→L[q] = F.mrk (k + K) q)∧σ.s 13 = iv i) ?_ ?_
            · obtain ⟨x,hx⟩ : ∃ x,x = F.mrk (k + K) i:=⟨_,rfl⟩
              obtain ⟨y,hy⟩ : ∃ y,y = L[i]:=⟨_,rfl⟩
              obtain ⟨X,hX⟩ : ∃ X,X = ints L:=⟨_,rfl⟩
              have hXs : X.set i [iv x] = ints (L.set i x):=by rw [ints_set,hX]
              rw [← hx] at e64
              rw [← hX,← hy] at hLi
              rw [← hX] at mL
              have hi64' : i < 64:=hi64
              simp [h0,h5,c129,c150,h11,h12,mL,h13,hw3,e64,hLi,hi64']
              refine ⟨hR.presN O U0 (by omega) (u:=k) (n:=i) fun τ o g1 g2 g3=>?_,L.set i x,by simp [← hXs],by simp [hL],fun q hq hqi=>?_⟩
              · simp [g1,g2,g3]
              · rw [List.getElem_set]
                split
                · rename_i e; rw [hx,e]
                · exact hLm q (by simpa using hq) (by omega)
            · clear h0 hR h5 c129 c150 h11 h12 mL h13 hLi hLm hL L σ
              rintro σ ⟨h0,hR,h5,c129,c150,h11,h12,hLL,h13⟩
              simp [h0,hR,h5,c129,c150,h11,h12,h13,hw2]
              exact ⟨⟨i + 1,by omega,hLL,by simp⟩,by omega⟩
          · obtain rfl : i = 64:=by omega
            refine wwp_off ?_
            have : L = F.mks (k + K) 64:=by
              apply List.ext_getElem (by rw [hL,FlI.mks_len])
              intro q h1 h2
              rw [hLm q h1 (by omega)]
              simp [FlI.mks]
            subst this
            simp [h0,hR,h5,c129,c150,h11,h12,h13,mL]
            exact W.of rfl rfl
        · clear W h0 hR h5 c129 c150 h11 h12 mL hL L σ
          rintro σ ⟨W,h0,hR,h5,c129,c150,h11,h12,mL⟩
          have hlr:=hR.kp.lt O
          have hml : (ints (F.mks (k + K) 64)).length = 64:=by rw [ints_len,FlI.mks_len]
          obtain ⟨Y,hY⟩ : ∃ Y,Y = ints (F.mks (k + K) 64):=⟨_,rfl⟩
          have hYs : (∃ c,c ∈ Y∧¬ c.length = 1) = False:=by rw [hY]; exact ints_ex _
          have hYa : (∀ c,c ∈ Y→c.length = 1) = True:=by rw [hY]; exact ints_fa _
          have hYn : ¬ Y = []:=fun h=>by rw [← hY,h] at hml; simp at hml
          rw [← hY] at mL hml
          have hYt : Y.take 64 = Y:=List.take_of_length_le (by omega)
          refine wwp_cutN1 2 W (fun σ=>F.R4 k σ.m∧σ.s 0 = .sl F.lt 1 0 K none∧σ.s 5 = .sl [43,0] 1 0 K none∧σ.c 129 = k + 1∧σ.c 150 = k + 1∧σ.s 11 = iv k∧σ.s 143 = .sl [43,0] 1 0 K none∧σ.s 144 = iv k∧σ.s 150 = .sl [151,k] 1 0 (n + 64) none∧σ.m [151,k] = some (.row (F.GG 151 1 k) 3 (ints (F.mks k n ++ F.mks (k + K) 64)))) ?_ ?_
          · cases hnl : F.nl k with
            | true=>
              have hn0 : n = 0:=by rw [hn]; exact O.zero k hnl
              have hGG : F.GG 151 1 k = [151,k]:=by unfold FlI.GG; rw [hnl]; simp
              rw [FlI.hdr_nl hnl] at hrk
              have hm0 : F.mks k n = []:=by rw [hn0]; rfl
              rw [hGG,hm0,List.nil_append,← hY,hn0]
              rcases FlI.emp_or O (show k < F.K by omega) with hE | ⟨j,hj,hjn,hE⟩
              · rw [hE] at hrk
                simp [h0,h5,c129,c150,h11,h12,hlr,hrk,hlt,mL,hml,hYs,hYa,hYn,hYt,hm64]
                refine hR.pres O (by omega) (n:=n) (by omega) fun τ o g1 g2=>?_
                have a:=W.ne g1 150 k [] (by omega)
                simp [a,g1,c150]
              · have mj:=(hR.inn j hj hjn).1
                rw [hE] at hrk
                have p64' : 0 < 64:=by omega
                simp [h0,h5,c129,c150,h11,h12,hlr,hrk,hlt,mL,hml,hYs,hYa,hYn,hYt,hm64,mj]
                refine hR.pres O (by omega) (n:=n) (by omega) fun τ o g1 g2=>?_
                have a:=W.ne g1 150 k [] (by omega)
                simp [a,g1,c150]
            | false=>
              have hGG : F.GG 151 1 k = F.gr k:=by unfold FlI.GG; rw [hnl]; rfl
              rw [FlI.hdr_sl hnl,← hn] at hrk
              have hck:=(hR.inn k (by omega) hnl).1
              simp only [← hn] at hck
              have hnm : n + 64≤maxMade:=maxMade_le (by omega)
              have hZl : (ints (F.mks k n)).length = n:=by rw [ints_len,FlI.mks_len]
              rw [hGG,ints_append,← hY]
              obtain ⟨Z,hZ⟩ : ∃ Z,Z = ints (F.mks k n):=⟨_,rfl⟩
              rw [← hZ] at hck hZl ⊢
              have hZt : Z.take n = Z:=List.take_of_length_le (by omega)
              simp [h0,h5,c129,c150,h11,h12,hlr,hrk,hlt,mL,hml,hYs,hYa,hYn,hYt,hck,hZl,hZt,hnm]
              refine hR.pres O (by omega) (n:=n) (by omega) fun τ o g1 g2=>?_
              have a:=W.ne g1 150 k [] (by omega)
              rw [hGG] at g2
              simp [a,g1,g2,c150]
          clear W h0 hR h5 c129 c150 h11 h12 mL hlr σ
          rintro σ W ⟨hR,h0,h5,c129,c150,h11,h143,h144,h150,m151⟩
          simp only [List.drop_succ_cons,List.drop_zero]
          obtain ⟨hs,hg,hgl,hgs,hga⟩:=hR.gs
          rw [← hK] at hgl
          have hge : (∃ c,c ∈ hs∧¬ c.length = 1) = False:=by simp only [eq_iff_iff,iff_false]; rintro ⟨c,a,b⟩; exact b (hgs c a)
          obtain ⟨d,hd⟩ : ∃ d,hs[k]? = some [d]:=by
            have h1 : k < hs.length:=by omega
            have h2:=hgs hs[k] (List.getElem_mem h1)
            match h3 : hs[k],h2 with
            | [d],_=>exact ⟨d,by simp [h1,h3]⟩
          simp [h0,h5,c129,c150,h11,h143,h144,h150,hg,hd,hge,hlt]
          have hp : PresX [43,0] [43,0] k σ.m (fun τ=>if τ = [43,0] then some (.row [43,0] 34 (hs.set k [.sl [151,k] 1 0 (n + 64) none])) else HO.struck [43,0] k (σ.m τ)):=fun τ o g1 g2 g3=>by simp [g1,g2,g3]
          refine ⟨hR.kp.presN O (by omega) (by simp) hp U0,hR.inn.presN O (by omega) (by simp) hp,⟨hs.set k [.sl [151,k] 1 0 (n + 64) none],by simp,by simp [hgl,hK],fun c hc=>?_,fun j hj=>?_⟩,fun j hj=>?_⟩
          · rcases List.mem_or_eq_of_mem_set hc with h | rfl
            · exact hgs c h
            · rfl
          · by_cases e : j = k
            · subst e; rw [List.getElem?_set_self (by omega),← hn]
            · rw [List.getElem?_set_ne (by omega)]; exact hga j (by omega)
          · by_cases e : j = k
            · subst e
              rw [hn,hK] at m151
              exact hp.row m151 (by simp) (.inl (FlI.GG_new O (by omega) (by omega)).symm)
            · exact hp.row (hR.ext j (by omega)) (by simp) (.inl (FlI.GG_new O (by omega) (by omega)).symm)
      · clear W h0 hR h5 c129 c150 h11 σ
        rintro σ ⟨h0,hR,h5,c129,c150,h11⟩
        simp [h0,hR,h5,c129,c150,h11,hw1]
        exact ⟨⟨k + 1,by omega,hR,rfl,by simp⟩,by omega⟩
    · obtain rfl : k = K:=by omega
      refine wwp_off ?_
      simp [h0,hR,h5,h11]
  clear h0 hR h5 c129 c150 σ
  rintro σ ⟨h0,hR,h5⟩
  -- read again
  refine wwp_cutG (fun σ=>F.Kp σ.m) ?_ (fun σ h=>by simp [h])
  refine wwp_cut (fun σ=>σ.s 0 = .sl F.lt 1 0 K none∧F.R4 K σ.m∧σ.s 5 = .sl [43,0] 1 0 K none∧σ.s 14 = iv 0) (by simp [h0,hR,h5]) ?_
  clear h0 hR h5 σ
  rintro σ ⟨h0,hR,h5,h14⟩
  simp only [wwp_block]
  refine wwp_loop (fun σ=>∃ k : Nat,k≤K∧σ.s 0 = .sl F.lt 1 0 K none∧F.R4 K σ.m∧σ.s 5 = .sl [43,0] 1 0 K none∧σ.s 14 = iv k) (fun σ=>cnt K (σ.s 14)) ?_ ?_
  · exact ⟨0,by omega,h0,hR,h5,h14⟩
  clear h0 hR h5 h14 σ
  rintro σ W ⟨k,hk,h0,hR,h5,h14⟩
  clear W
  refine wwp_seq_assoc ?_
  by_cases hlt : k < K
  · have hw1:=wrap_succ (show k≤1000000000 by omega)
    have hmu : cnt K (σ.s 14) = K - k:=by simp [h14]
    simp only [hmu]
    clear hmu
    have hz : (k : Int) < K:=by omega
    have hrk:=hra k hlt
    have hsm:=O.small k (by omega)
    obtain ⟨n,hn⟩ : ∃ n,n = F.ln k:=⟨_,rfl⟩
    have hlk:=hlD k
    rw [← hn] at hsm hlk
    refine wwp_on (fun σ=>σ.s 0 = .sl F.lt 1 0 K none∧F.R4 K σ.m∧σ.s 5 = .sl [43,0] 1 0 K none∧σ.s 14 = iv k) (by simp [h0,hR,h5,h14,hz,hlt]) ?_
    clear h0 hR h5 h14 σ
    rintro σ ⟨h0,hR,h5,h14⟩
    refine wwp_body (fun σ=>σ.s 0 = .sl F.lt 1 0 K none∧F.R4 K σ.m∧σ.s 5 = .sl [43,0] 1 0 K none∧σ.s 14 = iv k) ?_ ?_
    · refine wwp_cut (fun σ=>σ.s 0 = .sl F.lt 1 0 K none∧F.R4 K σ.m∧σ.s 5 = .sl [43,0] 1 0 K none∧σ.s 14 = iv k∧σ.s 15 = iv 0) (by simp [h0,hR,h5,h14]) ?_
      clear h0 hR h5 h14 σ
      rintro σ ⟨h0,hR,h5,h14,h15⟩
      simp only [wwp_block]
      refine wwp_loop (fun σ=>∃ i : Nat,i≤n∧σ.s 0 = .sl F.lt 1 0 K none∧F.R4 K σ.m∧σ.s 5 = .sl [43,0] 1 0 K none∧σ.s 14 = iv k∧σ.s 15 = iv i) (fun σ=>cnt n (σ.s 15)) ?_ ?_
      · exact ⟨0,by omega,h0,hR,h5,h14,h15⟩
      clear h0 hR h5 h14 h15 σ
      rintro σ W ⟨i,hi,h0,hR,h5,h14,h15⟩
      clear W
      have hlr:=hR.kp.lt O
      refine wwp_seq_assoc ?_
      by_cases hin' : i < n
      · have hw2:=wrap_succ (show i≤1000000000 by omega)
        have hmu2 : cnt n (σ.s 15) = n - i:=by simp [h15]
        simp only [hmu2]
        clear hmu2
        have hz2 : (i : Int) < n:=by omega
        refine wwp_on (fun σ=>σ.s 0 = .sl F.lt 1 0 K none∧F.R4 K σ.m∧σ.s 5 = .sl [43,0] 1 0 K none∧σ.s 14 = iv k∧σ.s 15 = iv i) (by simp [h0,hR,h5,h14,h15,hlr,hlt,hrk,hlk,hz2,hin']) ?_
        clear h0 hR h5 h14 h15 hlr σ
        rintro σ ⟨h0,hR,h5,h14,h15⟩
        have hlr:=hR.kp.lt O
        obtain ⟨hs,hg,hgl,hgs,hga⟩:=hR.gs
        rw [← hK] at hgl
        have hgk:=hga k hlt
        have hex:=hR.ext k hlt
        rw [← hn] at hgk hex
        have hge : (∃ c,c ∈ hs∧¬ c.length = 1) = False:=by simp only [eq_iff_iff,iff_false]; rintro ⟨c,a,b⟩; exact b (hgs c a)
        have e64:=h64 k i (by omega) (by omega)
        have hnl : F.nl k = false:=by
          cases h : F.nl k
          · rfl
          · have:=O.zero k h; omega
        have hci:=(hR.inn k (by omega) hnl).1
        have hyi:=F.mks_at (k:=k) hin'
        simp only [← hn] at hci
        rw [FlI.hdr_sl hnl,← hn] at hrk
        obtain ⟨X,hX⟩ : ∃ X,X = ints (F.mks k n ++ F.mks (k + F.K) 64):=⟨_,rfl⟩
        have hXl : X.length = n + 64:=by rw [hX,ints_len,List.length_append,FlI.mks_len,FlI.mks_len]
        have hXs : X.all (fun c=>c.length == 1) = true:=by rw [hX]; exact ints_size _
        have hxi : X[i]? = some [iv (F.mrk k i)]:=by rw [hX,ints_append,List.getElem?_append_left (by rw [ints_len,FlI.mks_len]; exact hin'),hyi]
        rw [← hX] at hex
        have hin64 : i < n + 64:=by omega
        have hz64 : (i : Int) < (n : Int) + 64:=by omega
        obtain ⟨x,hx⟩ : ∃ x,x = F.mrk k i:=⟨_,rfl⟩
        rw [← hx] at e64 hxi hyi
        refine wwp_body (fun σ=>σ.s 0 = .sl F.lt 1 0 K none∧F.R4 K σ.m∧σ.s 5 = .sl [43,0] 1 0 K none∧σ.s 14 = iv k∧σ.s 15 = iv i) ?_ ?_
        · simp [h0,hR,h5,h14,h15,hlr,hlt,hrk,hg,hgk,hge,hex,hxi,hci,hyi,e64,hin',hin64,hz64]
        · clear h0 hR h5 h14 h15 hlr hs hg hgl hgs hga hgk hge hex hci σ
          rintro σ ⟨h0,hR,h5,h14,h15⟩
          simp [h0,hR,h5,h14,h15,hw2]
          exact ⟨⟨i + 1,by omega,rfl⟩,by omega⟩
      · refine wwp_off ?_
        have hz2 : ¬ (i : Int) < n:=by omega
        simp [h0,hR,h5,h14,h15,hlr,hlt,hrk,hlk,hz2,hin']
    · clear h0 hR h5 h14 σ
      rintro σ ⟨h0,hR,h5,h14⟩
      simp [h0,hR,h5,h14,hw1]
      exact ⟨⟨k + 1,by omega,rfl⟩,by omega⟩
  · refine wwp_off ?_
    have hz : ¬ (k : Int) < K:=by omega
    simp [h0,h5,h14,hz,hlt]
    exact hR.kp
end Go.Proofs.Ytpmgaaalfdjikaa
namespace Go.Proofs.Ytpmgaaalfdjikaa
open Go.RowKit
set_option linter.unusedSimpArgs false
set_option linter.unusedVariables false
def W86 : WC × List VRes:=(.seq (.reg [.set [(2,.c (.v (.bool false)))] [2]]) (.seq (.seq (.reg [.set [(3,.c (.v (.int .i64 0)))] [3]]) (.block 0 (.loop (.seq (.seq (.reg [.set [(19,.ap (.ibin .lss) [.t 3,.ap .llen [.t 0]])] [16,17,18,19]]) (.cond (.t 19) .skip (.exit 0))) (.seq (.block 1 (.seq (.reg [.set [(4,.c (.v (.int .i64 0)))] [4]]) (.block 2 (.loop (.seq (.seq (.reg [.set [(28,.ap (.ibin .lss) [.t 4,.ap .llen [.ap (.load 1 false) [.ap (.idx 22 1) [.t 0,.t 3]]]])] [22,23,24,25,26,27,28]]) (.cond (.t 28) .skip (.exit 2))) (.seq (.block 3 (.reg [.set [(38,.ap (.call 73) [.t 3,.t 4]),(39,.ap (.idx 53 5) [.ap (.load 1 false) [.ap (.idx 22 1) [.t 0,.t 3]],.t 4])] [31,32,33,34,35,36,37,38,39],.stm (.eff (.store 5 (.t 39) (.t 38)) none)])) (.reg [.set [(4,.ap (.ibin .add) [.t 4,.c (.v (.int .i64 1))])] [29,30,4]]))))))) (.reg [.set [(3,.ap (.ibin .add) [.t 3,.c (.v (.int .i64 1))])] [20,21,3]])))))) (.seq (.reg [.set [(41,.ap .llen [.t 0])] [40,41],.stm (.eff (.mks 42 22 1 [.nil] (.t 41) (.t 41)) none),.set [(5,.t 42)] [5]]) (.seq (.seq (.reg [.set [(6,.c (.v (.int .i64 0)))] [6]]) (.block 4 (.loop (.seq (.seq (.reg [.set [(46,.ap (.ibin .lss) [.t 6,.ap .llen [.t 0]])] [43,44,45,46]]) (.cond (.t 46) .skip (.exit 4))) (.seq (.block 5 (.seq (.reg [.set [(7,.ap (.load 1 false) [.ap (.idx 22 1) [.t 0,.t 6]])] [49,50,51,52,7]]) (.seq (.seq (.reg [.set [(8,.c (.v (.int .i64 0)))] [8]]) (.block 6 (.loop (.seq (.seq (.reg [.set [(54,.ap (.ibin .lss) [.t 8,.c (.v (.int .i64 64))])] [53,54]]) (.cond (.t 54) .skip (.exit 6))) (.seq (.block 7 (.reg [.set [(57,.t 7),(66,.ap (.call 73) [.t 6,.ap (.ibin .add) [.ap .llen [.ap (.load 1 false) [.ap (.idx 22 1) [.t 0,.t 6]]],.t 8]])] [57,58,59,60,61,62,63,64,65,66],.stm (.eff (.lit 67 53 5 1 [.v (.int .i64 0),.v (.int .i64 0),.v (.int .i64 0),.v (.int .i64 0),.v (.int .i64 0)] [(0,5)] [.t 66]) none),.stm (.eff (.app 68 53 5 (.t 57) (.t 67)) none),.set [(7,.t 68)] [7]])) (.reg [.set [(8,.ap (.ibin .add) [.t 8,.c (.v (.int .i64 1))])] [55,56,8]])))))) (.reg [.set [(71,.t 7),(72,.ap (.idx 22 1) [.t 5,.t 6])] [69,70,71,72],.stm (.eff (.store 1 (.t 72) (.t 71)) none)])))) (.reg [.set [(6,.ap (.ibin .add) [.t 6,.c (.v (.int .i64 1))])] [47,48,6]])))))) (.seq (.seq (.reg [.set [(9,.c (.v (.int .i64 0)))] [9]]) (.block 8 (.loop (.seq (.seq (.reg [.set [(76,.ap (.ibin .lss) [.t 9,.ap .llen [.t 0]])] [73,74,75,76]]) (.cond (.t 76) .skip (.exit 8))) (.seq (.block 9 (.seq (.reg [.set [(10,.c (.v (.int .i64 0)))] [10]]) (.block 10 (.loop (.seq (.seq (.reg [.set [(85,.ap (.ibin .lss) [.t 10,.ap .llen [.ap (.load 1 false) [.ap (.idx 22 1) [.t 5,.t 9]]]])] [79,80,81,82,83,84,85]]) (.cond (.t 85) .skip (.exit 10))) (.seq (.block 11 (.seq (.reg [.set [(122,.ite (.ap .inot [.ap (.aeq false [3,3,3,3,3]) [.ap (.load 5 true) [.ap (.idx 53 5) [.ap (.load 1 false) [.ap (.idx 22 1) [.t 5,.t 9]],.t 10]],.ap (.call 73) [.t 9,.t 10]]]) (.c (.v (.bool true))) (.ite (.ap (.ibin .lss) [.t 10,.ap .llen [.ap (.load 1 false) [.ap (.idx 22 1) [.t 0,.t 9]]]]) (.ap .inot [.ap (.aeq false [3,3,3,3,3]) [.ap (.load 5 true) [.ap (.idx 53 5) [.ap (.load 1 false) [.ap (.idx 22 1) [.t 0,.t 9]],.t 10]],.ap (.call 73) [.t 9,.t 10]]]) (.c (.v (.bool false)))))] [88,89,90,91,92,93,94,95,96,97,98,99,100,101,102,103,104,105,106,107,108,109,110,111,112,113,114,115,116,117,118,119,120,121,122]]) (.cond (.t 122) (.seq (.reg [.set [(2,.c (.v (.bool false)))] [2]]) .ret) .skip))) (.reg [.set [(10,.ap (.ibin .add) [.t 10,.c (.v (.int .i64 1))])] [86,87,10]]))))))) (.reg [.set [(9,.ap (.ibin .add) [.t 9,.c (.v (.int .i64 1))])] [77,78,9]])))))) (.seq (.seq (.reg [.set [(11,.c (.v (.int .i64 0)))] [11]]) (.block 12 (.loop (.seq (.seq (.reg [.set [(126,.ap (.ibin .lss) [.t 11,.ap .llen [.t 0]])] [123,124,125,126]]) (.cond (.t 126) .skip (.exit 12))) (.seq (.block 13 (.seq (.reg [.stm (.eff (.mks 129 53 5 [.v (.int .i64 0),.v (.int .i64 0),.v (.int .i64 0),.v (.int .i64 0),.v (.int .i64 0)] (.c (.v (.int .i64 64))) (.c (.v (.int .i64 64)))) none),.set [(12,.t 129)] [12]]) (.seq (.seq (.reg [.set [(13,.c (.v (.int .i64 0)))] [13]]) (.block 14 (.loop (.seq (.seq (.reg [.set [(131,.ap (.ibin .lss) [.t 13,.c (.v (.int .i64 64))])] [130,131]]) (.cond (.t 131) .skip (.exit 14))) (.seq (.block 15 (.reg [.set [(141,.ap (.call 73) [.ap (.ibin .add) [.t 11,.ap .llen [.t 0]],.t 13]),(142,.ap (.idx 53 5) [.t 12,.t 13])] [134,135,136,137,138,139,140,141,142],.stm (.eff (.store 5 (.t 142) (.t 141)) none)])) (.reg [.set [(13,.ap (.ibin .add) [.t 13,.c (.v (.int .i64 1))])] [132,133,13]])))))) (.reg [.set [(143,.t 5),(144,.t 11),(148,.ap (.load 1 false) [.ap (.idx 22 1) [.t 0,.t 11]]),(149,.t 12)] [143,144,145,146,147,148,149],.stm (.eff (.app 150 53 5 (.t 148) (.t 149)) none),.set [(151,.ap (.idx 22 1) [.t 143,.t 144])] [151],.stm (.eff (.store 1 (.t 151) (.t 150)) none)])))) (.reg [.set [(11,.ap (.ibin .add) [.t 11,.c (.v (.int .i64 1))])] [127,128,11]])))))) (.seq (.seq (.reg [.set [(14,.c (.v (.int .i64 0)))] [14]]) (.block 16 (.loop (.seq (.seq (.reg [.set [(155,.ap (.ibin .lss) [.t 14,.ap .llen [.t 0]])] [152,153,154,155]]) (.cond (.t 155) .skip (.exit 16))) (.seq (.block 17 (.seq (.reg [.set [(15,.c (.v (.int .i64 0)))] [15]]) (.block 18 (.loop (.seq (.seq (.reg [.set [(164,.ap (.ibin .lss) [.t 15,.ap .llen [.ap (.load 1 false) [.ap (.idx 22 1) [.t 0,.t 14]]]])] [158,159,160,161,162,163,164]]) (.cond (.t 164) .skip (.exit 18))) (.seq (.block 19 (.seq (.reg [.set [(192,.ite (.ap .inot [.ap (.aeq false [3,3,3,3,3]) [.ap (.load 5 true) [.ap (.idx 53 5) [.ap (.load 1 false) [.ap (.idx 22 1) [.t 0,.t 14]],.t 15]],.ap (.call 73) [.t 14,.t 15]]]) (.c (.v (.bool true))) (.ap .inot [.ap (.aeq false [3,3,3,3,3]) [.ap (.load 5 true) [.ap (.idx 53 5) [.ap (.load 1 false) [.ap (.idx 22 1) [.t 5,.t 14]],.t 15]],.ap (.call 73) [.t 14,.t 15]]]))] [167,168,169,170,171,172,173,174,175,176,177,178,179,180,181,182,183,184,185,186,187,188,189,190,191,192]]) (.cond (.t 192) (.seq (.reg [.set [(2,.c (.v (.bool false)))] [2]]) .ret) .skip))) (.reg [.set [(15,.ap (.ibin .add) [.t 15,.c (.v (.int .i64 1))])] [165,166,15]]))))))) (.reg [.set [(14,.ap (.ibin .add) [.t 14,.c (.v (.int .i64 1))])] [156,157,14]])))))) (.seq (.reg [.set [(2,.c (.v (.bool true)))] [2]]) .ret))))))),[.t 2])
theorem is86 : IsFn Try.prog frOf 86 Try.f86 W86:=⟨by kernel_rfl,by kernel_rfl,by kernel_rfl⟩
theorem nt86 : Try.f86.ntmps = 193:=by kernel_rfl
def FlR.R1 (F : FlR) (C : Nat→List Row) (k i : Nat) (M : Mem) : Prop:=F.Kp M∧F.In C M∧∀ j,j < F.K→F.nl j = false→∀ q (h : q < (C j).length),j < k ∨ (j = k∧q < i)→(C j)[q] = F.mrk j q
theorem FlR.R1.step {F : FlR} (O : F.OK) {C : Nat→List Row} {k i : Nat} {M M' : Mem} (h : F.R1 C k i M) (hk : k < F.K) (hnl : F.nl k = false) (hi : i < F.ln k) (hp : PresX (F.tk k) (F.gr k) i M M') (hM : M' (F.tk k) = some (.row (F.gr k) 53 (rowsL ((C k).set i (F.mrk k i))))) :
    F.R1 (fun j=>if j = k then (C k).set i (F.mrk k i) else C j) k (i + 1) M':=by
  obtain ⟨h1,h2,h3⟩:=h
  refine ⟨h1.store O h2 hk hnl hp,h2.store O hk hnl hp (by rw [List.length_set]; exact (h2 k hk hnl).2) hM,fun j hj hn q hq hc=>?_⟩
  by_cases e : j = k
  · subst e
    simp only [if_true] at hq ⊢
    rw [List.getElem_set]
    split
    · rename_i e; rw [e]
    · exact h3 j hj hn q (by simpa using hq) (by omega)
  · simp only [if_neg e] at hq ⊢
    exact h3 j hj hn q hq (by omega)
theorem FlR.R1.next {F : FlR} {C : Nat→List Row} {k i : Nat} {M : Mem} (h : F.R1 C k i M) (hi : F.ln k≤i) : F.R1 C (k + 1) 0 M:=
  ⟨h.1,h.2.1,fun j hj hn q hq hc=>h.2.2 j hj hn q hq (by
    have:=(h.2.1 j hj hn).2
    by_cases e : j = k
    · subst e; right; exact ⟨rfl,by omega⟩
    · left; omega)⟩
theorem FlR.R1.done {F : FlR} {C : Nat→List Row} {M : Mem} (h : F.R1 C F.K 0 M) : F.Kp M∧F.In (fun j=>F.mks j (F.ln j)) M:=by
  refine ⟨h.1,fun j hj hn=>?_⟩
  obtain ⟨h1,h2⟩:=h.2.1 j hj hn
  have : C j = F.mks j (F.ln j):=by
    apply List.ext_getElem (by rw [F.mks_len,h2])
    intro q hq hq'
    rw [h.2.2 j hj hn q hq (.inl hj)]
    simp [FlR.mks]
  simp only [← this]
  exact ⟨h1,h2⟩
structure FlR.R2 (F : FlR) (k : Nat) (M : Mem) : Prop where
  kp : F.Kp M
  inn : F.In (fun j=>F.mks j (F.ln j)) M
  gs : ∃ hs : List (List D),M [43,0] = some (.row [43,0] 22 hs)∧hs.length = F.K∧(∀ c ∈ hs,c.length = 1)∧∀ j,j < k→hs[j]? = some [.sl [69,64 * j + 63] 5 0 (F.ln j + 64) none]
  ext : ∀ j,j < k→M [69,64 * j + 63] = some (.row (F.GG 69 64 j) 53 (rowsL (F.mks j (F.ln j + 64))))
theorem FlR.R2.pres {F : FlR} (O : F.OK) {k n : Nat} {M M' : Mem} (h : F.R2 k M) (hk : k < F.K) (hn : F.ln k≤n) (hp : Pres (F.GG 69 64 k) n M M') : F.R2 k M':=by
  refine ⟨h.kp.presG O (by omega) hk hp,h.inn.presG O (by omega) hk hn hp,?_,fun j hj=>?_⟩
  · obtain ⟨hs,h1,h2⟩:=h.gs
    exact ⟨hs,hp.row h1 (.inl (FlR.GG_new O hk (by omega))),h2⟩
  · exact hp.row (h.ext j hj) (.inl (FlR.GG_ne O (by omega) (by omega) (by omega) hk (by omega)))
structure FlR.R4 (F : FlR) (k : Nat) (M : Mem) : Prop where
  kp : F.Kp M
  inn : F.In (fun j=>F.mks j (F.ln j)) M
  gs : ∃ hs : List (List D),M [43,0] = some (.row [43,0] 22 hs)∧hs.length = F.K∧(∀ c ∈ hs,c.length = 1)∧∀ j,j < k→hs[j]? = some [.sl [151,j] 5 0 (F.ln j + 64) none]
  ext : ∀ j,j < k→M [151,j] = some (.row (F.GG 151 1 j) 53 (rowsL (F.mks j (F.ln j) ++ F.mks (j + F.K) 64)))
theorem FlR.R4.pres {F : FlR} (O : F.OK) {k n : Nat} {M M' : Mem} (h : F.R4 k M) (hk : k < F.K) (hn : F.ln k≤n) (hp : Pres (F.GG 151 1 k) n M M') : F.R4 k M':=by
  refine ⟨h.kp.presG O (by omega) hk hp,h.inn.presG O (by omega) hk hn hp,?_,fun j hj=>?_⟩
  · obtain ⟨hs,h1,h2⟩:=h.gs
    exact ⟨hs,hp.row h1 (.inl (FlR.GG_new O hk (by omega))),h2⟩
  · exact hp.row (h.ext j hj) (.inl (FlR.GG_ne O (by omega) (by omega) (by omega) hk (by omega)))
theorem FlR.R4.presN {F : FlR} (O : F.OK) (U0 : ∀ t o,F.U t = some o→∃ r,t = 0 :: r) {k n u : Nat} {M M' : Mem} (h : F.R4 k M) (hk : k≤F.K) (hp : PresX [130,u] [130,u] n M M') : F.R4 k M':=by
  refine ⟨h.kp.presN O (by omega) (by simp) hp U0,h.inn.presN O (by omega) (by simp) hp,?_,fun j hj=>?_⟩
  · obtain ⟨hs,h1,h2⟩:=h.gs
    exact ⟨hs,hp.row h1 (by simp) (.inl (by simp)),h2⟩
  · exact hp.row (h.ext j hj) (by simp) (.inl (FlR.GG_new O (by omega) (by omega)).symm)
theorem FlR.R4.presO {F : FlR} (O : F.OK) (U0 : ∀ t o,F.U t = some o→∃ r,t = 0 :: r) {k n u : Nat} {M M' : Mem} (h : F.R4 k M) (hk : k≤F.K) (hp : Pres [130,u] n M M') : F.R4 k M':=h.presN O U0 hk hp.x
theorem c86w (p73 : FP) (F : FlR) (O : F.OK) (U0 : ∀ t o,F.U t = some o→∃ r,t = 0 :: r) (C0 : Nat→List Row) (h73 : ∀ k i : Nat,k≤1000→i≤10000→p73 [iv k,iv i] = some (.agg (F.mrk k i).cells))
    (s : St) (W : WF s) (hs0 : s.s 0 = .sl F.lt 1 0 F.K none) (hsm : s.m = F.U) (hsc : ∀ y,s.c y = 0) (hin : F.In C0 F.U) :
    wwp (mkEnv [(73,p73)] [] []) W86.1 (fun e s=>okExit e∧resV W86.2 s = some (bv true)∧F.Kp s.m) s:=by
  obtain ⟨K,hK⟩ : ∃ K,K = F.K:=⟨_,rfl⟩
  have hK1:=O.K1
  have hmK : K≤maxMade:=maxMade_le (by omega)
  have hrl:=F.hrow_len
  have hra : ∀ k,k < K→F.hrow[k]? = some [F.hdr k]:=fun k h=>F.hrow_at (by omega)
  have hlD:=fun k=>FlR.hdr_len O k
  rw [← hK] at hs0 hrl
  simp only [W86]
  refine wwp_cutW W (fun σ=>σ.s 0 = .sl F.lt 1 0 K none∧F.R1 C0 0 0 σ.m∧σ.c 42 = 0∧σ.c 68 = 0∧σ.c 129 = 0∧σ.c 150 = 0) (by simp [hs0,hsm,hsc]; exact ⟨fun t o h _=>h,hin,fun j _ _ q _ h=>absurd h (by omega)⟩) ?_
  clear W hs0 hsm hsc s
  rintro σ W ⟨h0,hR,c42,c68,c129,c150⟩
  refine wwp_cutG (fun σ=>WF σ∧σ.s 0 = .sl F.lt 1 0 K none∧(F.Kp σ.m∧F.In (fun j=>F.mks j (F.ln j)) σ.m)∧σ.c 42 = 0∧σ.c 68 = 0∧σ.c 129 = 0∧σ.c 150 = 0) ?_ ?_
  · refine wwp_cut (fun σ=>σ.s 0 = .sl F.lt 1 0 K none∧F.R1 C0 0 0 σ.m∧σ.c 42 = 0∧σ.c 68 = 0∧σ.c 129 = 0∧σ.c 150 = 0∧σ.s 3 = iv 0) (by simp [Row.cells,h0,hR,c42,c68,c129,c150]) ?_
    clear W h0 hR c42 c68 c129 c150 σ
    rintro σ ⟨h0,hR,c42,c68,c129,c150,h3⟩
    simp only [wwp_block]
    refine wwp_loop (fun σ=>∃ k : Nat,k≤K∧σ.s 0 = .sl F.lt 1 0 K none∧(∃ C,F.R1 C k 0 σ.m)∧σ.c 42 = 0∧σ.c 68 = 0∧σ.c 129 = 0∧σ.c 150 = 0∧σ.s 3 = iv k) (fun σ=>cnt K (σ.s 3)) ?_ ?_
    · exact ⟨0,by omega,h0,⟨C0,hR⟩,c42,c68,c129,c150,h3⟩
    clear h0 hR c42 c68 c129 c150 h3 σ
    rintro σ W ⟨k,hk,h0,⟨C,hR⟩,c42,c68,c129,c150,h3⟩
    refine wwp_seq_assoc ?_
    by_cases hlt : k < K
    · have hw1:=wrap_succ (show k≤1000000000 by omega)
      have hmu : cnt K (σ.s 3) = K - k:=by simp [h3]
      simp only [hmu]
      clear hmu
      have hz : (k : Int) < K:=by omega
      refine wwp_on (fun σ=>σ.s 0 = .sl F.lt 1 0 K none∧F.R1 C k 0 σ.m∧σ.c 42 = 0∧σ.c 68 = 0∧σ.c 129 = 0∧σ.c 150 = 0∧σ.s 3 = iv k) (by simp [Row.cells,h0,hR,c42,c68,c129,c150,h3,hz,hlt]) ?_
      clear W h0 hR c42 c68 c129 c150 h3 σ
      rintro σ ⟨h0,hR,c42,c68,c129,c150,h3⟩
      refine wwp_body (fun σ=>σ.s 0 = .sl F.lt 1 0 K none∧(∃ C,F.R1 C (k + 1) 0 σ.m)∧σ.c 42 = 0∧σ.c 68 = 0∧σ.c 129 = 0∧σ.c 150 = 0∧σ.s 3 = iv k) ?_ ?_
      · refine wwp_cut (fun σ=>σ.s 0 = .sl F.lt 1 0 K none∧F.R1 C k 0 σ.m∧σ.c 42 = 0∧σ.c 68 = 0∧σ.c 129 = 0∧σ.c 150 = 0∧σ.s 3 = iv k∧σ.s 4 = iv 0) (by simp [Row.cells,h0,hR,c42,c68,c129,c150,h3]) ?_
        clear h0 hR c42 c68 c129 c150 h3 σ
        rintro σ ⟨h0,hR,c42,c68,c129,c150,h3,h4⟩
        simp only [wwp_block]
        have hsm:=O.small k (by omega)
        obtain ⟨n,hn⟩ : ∃ n,n = F.ln k:=⟨_,rfl⟩
        have hlk:=hlD k
        rw [← hn] at hsm hlk
        refine wwp_loop (fun σ=>∃ i : Nat,i≤n∧σ.s 0 = .sl F.lt 1 0 K none∧(∃ C,F.R1 C k i σ.m)∧σ.c 42 = 0∧σ.c 68 = 0∧σ.c 129 = 0∧σ.c 150 = 0∧σ.s 3 = iv k∧σ.s 4 = iv i) (fun σ=>cnt n (σ.s 4)) ?_ ?_
        · exact ⟨0,by omega,h0,⟨C,hR⟩,c42,c68,c129,c150,h3,h4⟩
        clear h0 hR c42 c68 c129 c150 h3 h4 σ
        clear C
        rintro σ W ⟨i,hi,h0,⟨C,hR⟩,c42,c68,c129,c150,h3,h4⟩
        have hlr:=hR.1.lt O
        have hrk:=hra k hlt
        refine wwp_seq_assoc ?_
        by_cases hin' : i < n
        · have hw2:=wrap_succ (show i≤1000000000 by omega)
          have hmu2 : cnt n (σ.s 4) = n - i:=by simp [h4]
          simp only [hmu2]
          clear hmu2
          have hnl : F.nl k = false:=by
            cases h : F.nl k
            · rfl
            · have:=O.zero k h; omega
          have hz2 : (i : Int) < n:=by omega
          refine wwp_on (fun σ=>WF σ∧σ.s 0 = .sl F.lt 1 0 K none∧F.R1 C k i σ.m∧σ.c 42 = 0∧σ.c 68 = 0∧σ.c 129 = 0∧σ.c 150 = 0∧σ.s 3 = iv k∧σ.s 4 = iv i) (by simp [Row.cells,h0,hR,c42,c68,c129,c150,h3,h4,hlr,hlt,hrk,hlk,hz2,hin']; exact W.of rfl rfl) ?_
          clear W h0 hR c42 c68 c129 c150 h3 h4 hlr σ
          rintro σ ⟨W,h0,hR,c42,c68,c129,c150,h3,h4⟩
          have hlr:=hR.1.lt O
          rw [FlR.hdr_sl hnl,← hn] at hrk
          obtain ⟨hck,hcl⟩:=hR.2.1 k (by omega) hnl
          have hci:=rowsL_at (l:=C k) (k:=i) (by omega)
          have e73:=h73 k i (by omega) (by omega)
          refine wwp_body (fun σ=>σ.s 0 = .sl F.lt 1 0 K none∧(∃ C,F.R1 C k (i + 1) σ.m)∧σ.c 42 = 0∧σ.c 68 = 0∧σ.c 129 = 0∧σ.c 150 = 0∧σ.s 3 = iv k∧σ.s 4 = iv i) ?_ ?_
          · have hcl2 : i < (C k).length:=by omega
            obtain ⟨X,hX⟩ : ∃ X,X = rowsL (C k):=⟨_,rfl⟩
            obtain ⟨x,hx⟩ : ∃ x,x = (C k)[i]:=⟨_,rfl⟩
            rw [← hX,← hx] at hci
            rw [← hX] at hck
            have hXs : X.set i (F.mrk k i).cells = rowsL ((C k).set i (F.mrk k i)):=by rw [rowsL_set,hX]
            simp [Row.cells,h0,c42,c68,c129,c150,h3,h4,hlr,hlt,hrk,e73,hck,hci,hin']
            exact ⟨_,hR.step O (by omega) hnl (by omega) (fun τ o g1 g2 g3=>by simp [g1,g2,g3]) (by simp [← hXs,Row.cells])⟩
          · clear W h0 hR c42 c68 c129 c150 h3 h4 hlr hck hcl hci hrk σ
            rintro σ ⟨h0,hR,c42,c68,c129,c150,h3,h4⟩
            simp [Row.cells,h0,c42,c68,c129,c150,h3,h4,hw2]
            exact ⟨⟨i + 1,by omega,hR,rfl⟩,by omega⟩
        · refine wwp_off ?_
          have hz2 : ¬ (i : Int) < n:=by omega
          simp [Row.cells,h0,c42,c68,c129,c150,h3,h4,hlr,hlt,hrk,hlk,hz2,hin']
          exact ⟨C,hR.next (by omega)⟩
      · clear h0 hR c42 c68 c129 c150 h3 σ
        rintro σ ⟨h0,hR,c42,c68,c129,c150,h3⟩
        simp [Row.cells,h0,c42,c68,c129,c150,h3,hw1]
        exact ⟨⟨k + 1,by omega,hR,rfl⟩,by omega⟩
    · obtain rfl : k = K:=by omega
      refine wwp_off ?_
      simp [Row.cells,h0,c42,c68,c129,c150,h3]
      rw [hK] at hR
      exact ⟨W.of rfl rfl,hR.done⟩
  clear W h0 hR c42 c68 c129 c150 σ
  rintro σ ⟨W,h0,⟨hkp,hin2⟩,c42,c68,c129,c150⟩
  -- gs
  refine wwp_cutW W (fun σ=>σ.s 0 = .sl F.lt 1 0 K none∧F.R2 0 σ.m∧σ.s 5 = .sl [43,0] 1 0 K none∧σ.c 68 = 0∧σ.c 129 = 0∧σ.c 150 = 0) ?_ ?_
  · simp [Row.cells,h0,c42,c68,c129,c150,hmK]
    have hp : ∀ M' : Mem,M' = (fun τ=>if τ = [43,0] then some (.row [43,0] 22 (List.replicate K [.nil])) else σ.m τ)→F.R2 0 M':=fun M' e=>by
      have hp : PresX [43,0] [43,0] 0 σ.m M':=fun τ o g1 _ g2=>by
        have:=W.ne g1 42 0 [] (by omega)
        rw [e]
        simp only [if_neg this,g1]
      refine ⟨hkp.presN O (by omega) (by simp) hp U0,hin2.presN O (by omega) (by simp) hp,⟨List.replicate K [.nil],by simp [e],by simp [hK],fun c hc=>by rw [(List.mem_replicate.1 hc).2]; rfl,fun j hj=>absurd hj (by omega)⟩,fun j hj=>absurd hj (by omega)⟩
    refine hp _ (funext fun τ=>?_)
    simp [c42]
  clear W h0 hkp hin2 c42 c68 c129 c150 σ
  rintro σ W ⟨h0,hR,h5,c68,c129,c150⟩
  refine wwp_cutG (fun σ=>σ.s 0 = .sl F.lt 1 0 K none∧F.R2 K σ.m∧σ.s 5 = .sl [43,0] 1 0 K none∧σ.c 129 = 0∧σ.c 150 = 0) ?_ ?_
  · refine wwp_cut (fun σ=>σ.s 0 = .sl F.lt 1 0 K none∧F.R2 0 σ.m∧σ.s 5 = .sl [43,0] 1 0 K none∧σ.c 68 = 0∧σ.c 129 = 0∧σ.c 150 = 0∧σ.s 6 = iv 0) (by simp [Row.cells,h0,hR,h5,c68,c129,c150]) ?_
    clear W h0 hR h5 c68 c129 c150 σ
    rintro σ ⟨h0,hR,h5,c68,c129,c150,h6⟩
    simp only [wwp_block]
    refine wwp_loop (fun σ=>∃ k : Nat,k≤K∧σ.s 0 = .sl F.lt 1 0 K none∧F.R2 k σ.m∧σ.s 5 = .sl [43,0] 1 0 K none∧σ.c 68 = 64 * k∧σ.c 129 = 0∧σ.c 150 = 0∧σ.s 6 = iv k) (fun σ=>cnt K (σ.s 6)) ?_ ?_
    · exact ⟨0,by omega,h0,hR,h5,c68,c129,c150,h6⟩
    clear h0 hR h5 c68 c129 c150 h6 σ
    rintro σ W ⟨k,hk,h0,hR,h5,c68,c129,c150,h6⟩
    refine wwp_seq_assoc ?_
    by_cases hlt : k < K
    · have hw1:=wrap_succ (show k≤1000000000 by omega)
      have hmu : cnt K (σ.s 6) = K - k:=by simp [h6]
      simp only [hmu]
      clear hmu
      have hz : (k : Int) < K:=by omega
      have hrk:=hra k hlt
      have hsm:=O.small k (by omega)
      obtain ⟨n,hn⟩ : ∃ n,n = F.ln k:=⟨_,rfl⟩
      have hlk:=hlD k
      rw [← hn] at hsm hlk
      refine wwp_on (fun σ=>σ.s 0 = .sl F.lt 1 0 K none∧F.R2 k σ.m∧σ.s 5 = .sl [43,0] 1 0 K none∧σ.c 68 = 64 * k∧σ.c 129 = 0∧σ.c 150 = 0∧σ.s 6 = iv k) (by simp [Row.cells,h0,hR,h5,c68,c129,c150,h6,hz,hlt]) ?_
      clear W h0 hR h5 c68 c129 c150 h6 σ
      rintro σ ⟨h0,hR,h5,c68,c129,c150,h6⟩
      refine wwp_body (fun σ=>σ.s 0 = .sl F.lt 1 0 K none∧F.R2 (k + 1) σ.m∧σ.s 5 = .sl [43,0] 1 0 K none∧σ.c 68 = 64 * (k + 1)∧σ.c 129 = 0∧σ.c 150 = 0∧σ.s 6 = iv k) ?_ ?_
      · have hlr:=hR.kp.lt O
        refine wwp_cut (fun σ=>σ.s 0 = .sl F.lt 1 0 K none∧F.R2 k σ.m∧σ.s 5 = .sl [43,0] 1 0 K none∧σ.c 68 = 64 * k∧σ.c 129 = 0∧σ.c 150 = 0∧σ.s 6 = iv k∧σ.s 7 = F.hdr k) (by simp [Row.cells,h0,hR,h5,c68,c129,c150,h6,hlr,hrk,hlt]) ?_
        clear h0 hR h5 c68 c129 c150 h6 hlr σ
        rintro σ ⟨h0,hR,h5,c68,c129,c150,h6,h7⟩
        have g64 : k = k:=rfl
        refine wwp_cutG (fun σ=>WF σ∧σ.s 0 = .sl F.lt 1 0 K none∧F.R2 k σ.m∧σ.s 5 = .sl [43,0] 1 0 K none∧σ.c 68 = 64 * k + 64∧σ.c 129 = 0∧σ.c 150 = 0∧σ.s 6 = iv k∧σ.s 7 = .sl [69,64 * k + 63] 5 0 (n + 64) none∧σ.m [69,64 * k + 63] = some (.row (F.GG 69 64 k) 53 (rowsL (F.mks k (n + 64))))) ?_ ?_
        · refine wwp_cut (fun σ=>σ.s 0 = .sl F.lt 1 0 K none∧F.R2 k σ.m∧σ.s 5 = .sl [43,0] 1 0 K none∧σ.c 68 = 64 * k∧σ.c 129 = 0∧σ.c 150 = 0∧σ.s 6 = iv k∧σ.s 7 = F.hdr k∧σ.s 8 = iv 0) (by simp [Row.cells,h0,hR,h5,c68,c129,c150,h6,h7]) ?_
          clear h0 hR h5 c68 c129 c150 h6 h7 σ
          rintro σ ⟨h0,hR,h5,c68,c129,c150,h6,h7,h8⟩
          simp only [wwp_block]
          refine wwp_loop (fun σ=>∃ i : Nat,i≤64∧σ.s 0 = .sl F.lt 1 0 K none∧F.R2 k σ.m∧σ.s 5 = .sl [43,0] 1 0 K none∧σ.c 68 = 64 * k + i∧σ.c 129 = 0∧σ.c 150 = 0∧σ.s 6 = iv k∧((i = 0∧σ.s 7 = F.hdr k) ∨ (0 < i∧σ.s 7 = .sl [69,64 * k + (i - 1)] 5 0 (n + i) none∧σ.m [69,64 * k + (i - 1)] = some (.row (F.GG 69 64 k) 53 (rowsL (F.mks k (n + i))))))∧σ.s 8 = iv i) (fun σ=>cnt 64 (σ.s 8)) ?_ ?_
          · exact ⟨0,by omega,h0,hR,h5,c68,c129,c150,h6,.inl ⟨rfl,h7⟩,h8⟩
          clear h0 hR h5 c68 c129 c150 h6 h7 h8 σ
          rintro σ W ⟨i,hi,h0,hR,h5,c68,c129,c150,h6,h7,h8⟩
          refine wwp_seq_assoc ?_
          by_cases hi64 : i < 64
          · have hw2:=wrap_succ (show i≤1000000000 by omega)
            have hmu2 : cnt 64 (σ.s 8) = 64 - i:=by simp [h8]
            simp only [hmu2]
            clear hmu2
            have hz2 : (i : Int) < 64:=by omega
            refine wwp_on (fun σ=>WF σ∧σ.s 0 = .sl F.lt 1 0 K none∧F.R2 k σ.m∧σ.s 5 = .sl [43,0] 1 0 K none∧σ.c 68 = 64 * k + i∧σ.c 129 = 0∧σ.c 150 = 0∧σ.s 6 = iv k∧((i = 0∧σ.s 7 = F.hdr k) ∨ (0 < i∧σ.s 7 = .sl [69,64 * k + (i - 1)] 5 0 (n + i) none∧σ.m [69,64 * k + (i - 1)] = some (.row (F.GG 69 64 k) 53 (rowsL (F.mks k (n + i))))))∧σ.s 8 = iv i) (by simp [Row.cells,h0,hR,h5,c68,c129,c150,h6,h8,hz2,hi64]; exact ⟨W.of rfl rfl,h7⟩) ?_
            clear W h0 hR h5 c68 c129 c150 h6 h7 h8 σ
            rintro σ ⟨W,h0,hR,h5,c68,c129,c150,h6,h7,h8⟩
            have hlr:=hR.kp.lt O
            have e73:=h73 k (n + i) (by omega) (by omega)
            rw [Int.natCast_add] at e73
            have hw3 : IntKind.i64.wrap ((n : Int) + i) = (n : Int) + i:=wrap_in (by omega) (by omega)
            refine wwp_body (fun σ=>σ.s 0 = .sl F.lt 1 0 K none∧F.R2 k σ.m∧σ.s 5 = .sl [43,0] 1 0 K none∧σ.c 68 = 64 * k + (i + 1)∧σ.c 129 = 0∧σ.c 150 = 0∧σ.s 6 = iv k∧σ.s 7 = .sl [69,64 * k + i] 5 0 (n + (i + 1)) none∧σ.m [69,64 * k + i] = some (.row (F.GG 69 64 k) 53 (rowsL (F.mks k (n + (i + 1)))))∧σ.s 8 = iv i) ?_ ?_
            · have hms : rowsL (F.mks k (n + (i + 1))) = rowsL (F.mks k (n + i)) ++ [(F.mrk k (n + i)).cells]:=by rw [← Nat.add_assoc,FlR.mks_succ,rowsL_append]; rfl
              obtain ⟨x,hx⟩ : ∃ x,x = F.mrk k (n + i):=⟨_,rfl⟩
              rw [hms]
              rw [← hx] at e73 ⊢
              have hml : (rowsL (F.mks k (n + i))).length = n + i:=by rw [rowsL_len,FlR.mks_len]
              obtain ⟨X,hX⟩ : ∃ X,X = rowsL (F.mks k (n + i)):=⟨_,rfl⟩
              have hXn : n + i = 0→X = []:=fun h=>by rw [hX,h]; rfl
              rw [← hX] at hml ⊢
              have hmx : n + i + 1≤maxMade:=maxMade_le (by omega)
              have hxt : X.take (n + i) = X:=List.take_of_length_le (by omega)
              rcases h7 with ⟨hi0,h7⟩ | ⟨hi0,h7,m7⟩
              · cases hnl : F.nl k with
                | true=>
                  have hn0 : n = 0:=by rw [hn]; exact O.zero k hnl
                  subst hi0 hn0
                  rw [FlR.hdr_nl hnl] at h7
                  have hX0:=hXn rfl
                  have hGG : F.GG 69 64 k = [69,64 * k]:=by unfold FlR.GG; rw [hnl]; rfl
                  rw [hGG,hX0]
                  have e65 : p73 [iv k,iv 0] = some (.agg x.cells):=by simpa using e73
                  rcases FlR.emp_or O (show k < F.K by omega) with hE | ⟨j,hj,hjn,hE⟩
                  · rw [hE] at h7
                    simp [Row.cells,h0,h5,c68,c129,c150,h6,h7,h8,hlr,hrk,hlt,hlk,e65,one_made]
                    refine hR.pres O (by omega) (n:=0) (by omega) fun τ o g1 g2=>?_
                    have a:=W.ne g1 68 (64 * k) [] (by omega)
                    have b:=W.ne g1 67 (σ.c 67) []
                    simp [a,b,g1,c68]
                  · obtain ⟨q,hq⟩:=O.tk0 j hj hjn
                    have mj:=(hR.inn j hj hjn).1
                    rw [hq] at hE mj
                    rw [hE] at h7
                    simp [Row.cells,h0,h5,c68,c129,c150,h6,h7,h8,hlr,hrk,hlt,hlk,e65,one_made,mj]
                    refine hR.pres O (by omega) (n:=0) (by omega) fun τ o g1 g2=>?_
                    have a:=W.ne g1 68 (64 * k) [] (by omega)
                    have b:=W.ne g1 67 (σ.c 67) []
                    simp [a,b,g1,c68]
                | false=>
                  subst hi0
                  rw [FlR.hdr_sl hnl,← hn] at h7
                  have hGG : F.GG 69 64 k = F.gr k:=by unfold FlR.GG; rw [hnl]; rfl
                  obtain ⟨q,hq⟩:=O.tk0 k (by omega) hnl
                  have hck:=(hR.inn k (by omega) hnl).1
                  simp only [← hn,hq] at hck
                  rw [← Nat.add_zero n,← hX] at hck
                  rw [hq] at h7
                  simp only [Nat.add_zero] at hml hmx hxt
                  rw [hGG]
                  have hw4 : IntKind.i64.wrap (n : Int) = n:=wrap_in (by omega) (by omega)
                  simp at e73
                  simp [Row.cells,h0,h5,c68,c129,c150,h6,h7,h8,hlr,hrk,hlt,hlk,hw4,e73,one_made,hck,hml,hmx,hxt]
                  refine hR.pres O (by omega) (n:=n) (by omega) fun τ o g1 g2=>?_
                  have a:=W.ne g1 68 (64 * k) [] (by omega)
                  have b:=W.ne g1 67 (σ.c 67) []
                  rw [hGG] at g2
                  simp [a,b,g1,g2,c68]
              · obtain ⟨v,hv⟩ : ∃ v,v = 64 * k + (i - 1):=⟨_,rfl⟩
                rw [← hv] at h7 m7
                rw [← hX] at m7
                have hi0' : ¬ i = 0:=by omega
                have hv' : ¬ v = 64 * k + i:=by omega
                simp [Row.cells,h0,h5,c68,c129,c150,h6,h7,m7,h8,hlr,hrk,hlt,hlk,hw3,e73,one_made,hml,hmx,hxt]
                refine ⟨hR.pres O (by omega) (n:=n + i) (by omega) fun τ o g1 g2=>?_,by omega,by omega⟩
                have a:=W.ne g1 68 (64 * k + i) [] (by omega)
                have b:=W.ne g1 67 (σ.c 67) []
                simp [a,b,g1,g2,c68]
            · clear W h0 hR h5 c68 c129 c150 h6 h7 h8 hlr σ
              rintro σ ⟨h0,hR,h5,c68,c129,c150,h6,h7,m7,h8⟩
              simp [Row.cells,h0,hR,h5,c68,c129,c150,h6,h7,m7,h8,hw2]
              exact ⟨⟨i + 1,by omega,rfl,.inr ⟨by omega,by simp,by simpa using m7⟩,by simp⟩,by omega⟩
          · obtain rfl : i = 64:=by omega
            rcases h7 with ⟨hi0,_⟩ | ⟨_,h7,m7⟩
            · omega
            refine wwp_off ?_
            simp [Row.cells,h0,hR,h5,c68,c129,c150,h6,h7,h8]
            exact ⟨W.of rfl rfl,m7⟩
        · clear h0 hR h5 c68 c129 c150 h6 h7 σ
          rintro σ ⟨W,h0,hR,h5,c68,c129,c150,h6,h7,m7⟩
          obtain ⟨hs,hg,hgl,hgs,hga⟩:=hR.gs
          rw [← hK] at hgl
          have hge : (∃ c,c ∈ hs∧¬ c.length = 1) = False:=by simp only [eq_iff_iff,iff_false]; rintro ⟨c,a,b⟩; exact b (hgs c a)
          obtain ⟨d,hd⟩ : ∃ d,hs[k]? = some [d]:=by
            have h1 : k < hs.length:=by omega
            have h2:=hgs hs[k] (List.getElem_mem h1)
            match h3 : hs[k],h2 with
            | [d],_=>exact ⟨d,by simp [h1,h3]⟩
          simp [Row.cells,h0,h5,c68,c129,c150,h6,h7,hg,hd,hge,hlt]
          have hp : PresX [43,0] [43,0] k σ.m (fun τ=>if τ = [43,0] then some (.row [43,0] 22 (hs.set k [.sl [69,64 * k + 63] 5 0 (n + 64) none])) else HO.struck [43,0] k (σ.m τ)):=fun τ o g1 g2 g3=>by simp [g1,g2,g3]
          refine ⟨⟨hR.kp.presN O (by omega) (by simp) hp U0,hR.inn.presN O (by omega) (by simp) hp,⟨hs.set k [.sl [69,64 * k + 63] 5 0 (n + 64) none],by simp,by simp [hgl,hK],fun c hc=>?_,fun j hj=>?_⟩,fun j hj=>?_⟩,by omega⟩
          · rcases List.mem_or_eq_of_mem_set hc with h | rfl
            · exact hgs c h
            · rfl
          · by_cases e : j = k
            · subst e; rw [List.getElem?_set_self (by omega),← hn]
            · rw [List.getElem?_set_ne (by omega)]; exact hga j (by omega)
          · by_cases e : j = k
            · subst e
              rw [hn] at m7
              exact hp.row m7 (by simp) (.inl (FlR.GG_new O (by omega) (by omega)).symm)
            · exact hp.row (hR.ext j (by omega)) (by simp) (.inl (FlR.GG_new O (by omega) (by omega)).symm)
      · clear h0 hR h5 c68 c129 c150 h6 σ
        rintro σ ⟨h0,hR,h5,c68,c129,c150,h6⟩
        simp [Row.cells,h0,hR,h5,c68,c129,c150,h6,hw1]
        exact ⟨⟨k + 1,by omega,hR,rfl,by simp⟩,by omega⟩
    · obtain rfl : k = K:=by omega
      refine wwp_off ?_
      simp [Row.cells,h0,hR,h5,c129,c150,h6]
  clear W h0 hR h5 c68 c129 c150 σ
  rintro σ ⟨h0,hR,h5,c129,c150⟩
  -- read
  refine wwp_cutG (fun σ=>σ.s 0 = .sl F.lt 1 0 K none∧F.R2 K σ.m∧σ.s 5 = .sl [43,0] 1 0 K none∧σ.c 129 = 0∧σ.c 150 = 0) ?_ ?_
  · refine wwp_cut (fun σ=>σ.s 0 = .sl F.lt 1 0 K none∧F.R2 K σ.m∧σ.s 5 = .sl [43,0] 1 0 K none∧σ.c 129 = 0∧σ.c 150 = 0∧σ.s 9 = iv 0) (by simp [Row.cells,h0,hR,h5,c129,c150]) ?_
    clear h0 hR h5 c129 c150 σ
    rintro σ ⟨h0,hR,h5,c129,c150,h9⟩
    simp only [wwp_block]
    refine wwp_loop (fun σ=>∃ k : Nat,k≤K∧σ.s 0 = .sl F.lt 1 0 K none∧F.R2 K σ.m∧σ.s 5 = .sl [43,0] 1 0 K none∧σ.c 129 = 0∧σ.c 150 = 0∧σ.s 9 = iv k) (fun σ=>cnt K (σ.s 9)) ?_ ?_
    · exact ⟨0,by omega,h0,hR,h5,c129,c150,h9⟩
    clear h0 hR h5 c129 c150 h9 σ
    rintro σ W ⟨k,hk,h0,hR,h5,c129,c150,h9⟩
    clear W
    refine wwp_seq_assoc ?_
    by_cases hlt : k < K
    · have hw1:=wrap_succ (show k≤1000000000 by omega)
      have hmu : cnt K (σ.s 9) = K - k:=by simp [h9]
      simp only [hmu]
      clear hmu
      have hz : (k : Int) < K:=by omega
      have hrk:=hra k hlt
      have hsm:=O.small k (by omega)
      obtain ⟨n,hn⟩ : ∃ n,n = F.ln k:=⟨_,rfl⟩
      have hlk:=hlD k
      rw [← hn] at hsm hlk
      refine wwp_on (fun σ=>σ.s 0 = .sl F.lt 1 0 K none∧F.R2 K σ.m∧σ.s 5 = .sl [43,0] 1 0 K none∧σ.c 129 = 0∧σ.c 150 = 0∧σ.s 9 = iv k) (by simp [Row.cells,h0,hR,h5,c129,c150,h9,hz,hlt]) ?_
      clear h0 hR h5 c129 c150 h9 σ
      rintro σ ⟨h0,hR,h5,c129,c150,h9⟩
      refine wwp_body (fun σ=>σ.s 0 = .sl F.lt 1 0 K none∧F.R2 K σ.m∧σ.s 5 = .sl [43,0] 1 0 K none∧σ.c 129 = 0∧σ.c 150 = 0∧σ.s 9 = iv k) ?_ ?_
      · refine wwp_cut (fun σ=>σ.s 0 = .sl F.lt 1 0 K none∧F.R2 K σ.m∧σ.s 5 = .sl [43,0] 1 0 K none∧σ.c 129 = 0∧σ.c 150 = 0∧σ.s 9 = iv k∧σ.s 10 = iv 0) (by simp [Row.cells,h0,hR,h5,c129,c150,h9]) ?_
        clear h0 hR h5 c129 c150 h9 σ
        rintro σ ⟨h0,hR,h5,c129,c150,h9,h10⟩
        simp only [wwp_block]
        refine wwp_loop (fun σ=>∃ i : Nat,i≤n + 64∧σ.s 0 = .sl F.lt 1 0 K none∧F.R2 K σ.m∧σ.s 5 = .sl [43,0] 1 0 K none∧σ.c 129 = 0∧σ.c 150 = 0∧σ.s 9 = iv k∧σ.s 10 = iv i) (fun σ=>cnt (n + 64) (σ.s 10)) ?_ ?_
        · exact ⟨0,by omega,h0,hR,h5,c129,c150,h9,h10⟩
        clear h0 hR h5 c129 c150 h9 h10 σ
        rintro σ W ⟨i,hi,h0,hR,h5,c129,c150,h9,h10⟩
        clear W
        have hlr:=hR.kp.lt O
        obtain ⟨hs,hg,hgl,hgs,hga⟩:=hR.gs
        rw [← hK] at hgl
        have hgk:=hga k hlt
        rw [← hn] at hgk
        have hge : (∃ c,c ∈ hs∧¬ c.length = 1) = False:=by simp only [eq_iff_iff,iff_false]; rintro ⟨c,a,b⟩; exact b (hgs c a)
        refine wwp_seq_assoc ?_
        by_cases hin' : i < n + 64
        · have hw2:=wrap_succ (show i≤1000000000 by omega)
          have hmu2 : cnt (n + 64) (σ.s 10) = n + 64 - i:=by simp [h10]
          simp only [hmu2]
          clear hmu2
          have hz2 : (i : Int) < (n : Int) + 64:=by omega
          refine wwp_on (fun σ=>σ.s 0 = .sl F.lt 1 0 K none∧F.R2 K σ.m∧σ.s 5 = .sl [43,0] 1 0 K none∧σ.c 129 = 0∧σ.c 150 = 0∧σ.s 9 = iv k∧σ.s 10 = iv i) (by simp [Row.cells,h0,hR,h5,c129,c150,h9,h10,hlt,hg,hgk,hge,hz2]) ?_
          clear h0 hR h5 c129 c150 h9 h10 hlr hs hg hgl hgs hga hgk hge σ
          rintro σ ⟨h0,hR,h5,c129,c150,h9,h10⟩
          have hlr:=hR.kp.lt O
          obtain ⟨hs,hg,hgl,hgs,hga⟩:=hR.gs
          rw [← hK] at hgl
          have hgk:=hga k hlt
          have hex:=hR.ext k hlt
          rw [← hn] at hgk hex
          have hge : (∃ c,c ∈ hs∧¬ c.length = 1) = False:=by simp only [eq_iff_iff,iff_false]; rintro ⟨c,a,b⟩; exact b (hgs c a)
          have e73:=h73 k i (by omega) (by omega)
          have hxi:=F.mks_at (k:=k) hin'
          obtain ⟨X,hX⟩ : ∃ X,X = rowsL (F.mks k (n + 64)):=⟨_,rfl⟩
          have hXl : X.length = n + 64:=by rw [hX,rowsL_len,FlR.mks_len]
          have hXs : X.all (fun c=>c.length == 5) = true:=by rw [hX]; exact rowsL_size _
          rw [← hX] at hex hxi
          refine wwp_body (fun σ=>σ.s 0 = .sl F.lt 1 0 K none∧F.R2 K σ.m∧σ.s 5 = .sl [43,0] 1 0 K none∧σ.c 129 = 0∧σ.c 150 = 0∧σ.s 9 = iv k∧σ.s 10 = iv i) ?_ ?_
          · by_cases hin2 : i < n
            · have hnl : F.nl k = false:=by
                cases h : F.nl k
                · rfl
                · have:=O.zero k h; omega
              have hz3 : (i : Int) < n:=by omega
              have hci:=(hR.inn k (by omega) hnl).1
              have hyi:=F.mks_at (k:=k) hin2
              simp only [← hn] at hci
              rw [FlR.hdr_sl hnl,← hn] at hrk
              obtain ⟨x,hx⟩ : ∃ x,x = F.mrk k i:=⟨_,rfl⟩
              rw [← hx] at e73 hxi hyi
              simp [Row.cells,h0,hR,h5,c129,c150,h9,h10,hlr,hlt,hrk,hg,hgk,hge,hex,hxi,hci,hyi,e73,hz3,hin2,hin',hz2]
            · have hz3 : ¬ (i : Int) < n:=by omega
              obtain ⟨x,hx⟩ : ∃ x,x = F.mrk k i:=⟨_,rfl⟩
              rw [← hx] at e73 hxi
              simp [Row.cells,h0,hR,h5,c129,c150,h9,h10,hlr,hlt,hrk,hlk,hg,hgk,hge,hex,hxi,e73,hz3,hin2,hin',hz2]
          · clear h0 hR h5 c129 c150 h9 h10 hlr hs hg hgl hgs hga hgk hge hex σ
            rintro σ ⟨h0,hR,h5,c129,c150,h9,h10⟩
            simp [Row.cells,h0,hR,h5,c129,c150,h9,h10,hw2]
            exact ⟨⟨i + 1,by omega,rfl⟩,by omega⟩
        · refine wwp_off ?_
          have hz2 : ¬ (i : Int) < (n : Int) + 64:=by omega
          simp [Row.cells,h0,hR,h5,c129,c150,h9,h10,hlt,hg,hgk,hge,hz2]
      · clear h0 hR h5 c129 c150 h9 σ
        rintro σ ⟨h0,hR,h5,c129,c150,h9⟩
        simp [Row.cells,h0,hR,h5,c129,c150,h9,hw1]
        exact ⟨⟨k + 1,by omega,rfl⟩,by omega⟩
    · obtain rfl : k = K:=by omega
      refine wwp_off ?_
      simp [Row.cells,h0,hR,h5,c129,c150,h9]
  clear h0 hR h5 c129 c150 σ
  rintro σ ⟨h0,hR,h5,c129,c150⟩
  -- many
  refine wwp_cutG (fun σ=>σ.s 0 = .sl F.lt 1 0 K none∧F.R4 K σ.m∧σ.s 5 = .sl [43,0] 1 0 K none) ?_ ?_
  · have hR4 : F.R4 0 σ.m:=⟨hR.kp,hR.inn,by obtain ⟨hs,a,b,c,_⟩:=hR.gs; exact ⟨hs,a,b,c,fun j h=>absurd h (by omega)⟩,fun j h=>absurd h (by omega)⟩
    refine wwp_cut (fun σ=>σ.s 0 = .sl F.lt 1 0 K none∧F.R4 0 σ.m∧σ.s 5 = .sl [43,0] 1 0 K none∧σ.c 129 = 0∧σ.c 150 = 0∧σ.s 11 = iv 0) (by simp [Row.cells,h0,hR4,h5,c129,c150]) ?_
    clear h0 hR hR4 h5 c129 c150 σ
    rintro σ ⟨h0,hR,h5,c129,c150,h11⟩
    simp only [wwp_block]
    refine wwp_loop (fun σ=>∃ k : Nat,k≤K∧σ.s 0 = .sl F.lt 1 0 K none∧F.R4 k σ.m∧σ.s 5 = .sl [43,0] 1 0 K none∧σ.c 129 = k∧σ.c 150 = k∧σ.s 11 = iv k) (fun σ=>cnt K (σ.s 11)) ?_ ?_
    · exact ⟨0,by omega,h0,hR,h5,c129,c150,h11⟩
    clear h0 hR h5 c129 c150 h11 σ
    rintro σ W ⟨k,hk,h0,hR,h5,c129,c150,h11⟩
    refine wwp_seq_assoc ?_
    by_cases hlt : k < K
    · have hw1:=wrap_succ (show k≤1000000000 by omega)
      have hmu : cnt K (σ.s 11) = K - k:=by simp [h11]
      simp only [hmu]
      clear hmu
      have hz : (k : Int) < K:=by omega
      have hrk:=hra k hlt
      have hsm:=O.small k (by omega)
      have hm64 : 64≤maxMade:=maxMade_le (by omega)
      have hm64i : (64 : Int)≤(maxMade : Int):=by omega
      obtain ⟨n,hn⟩ : ∃ n,n = F.ln k:=⟨_,rfl⟩
      have hlk:=hlD k
      rw [← hn] at hsm hlk
      refine wwp_on (fun σ=>WF σ∧σ.s 0 = .sl F.lt 1 0 K none∧F.R4 k σ.m∧σ.s 5 = .sl [43,0] 1 0 K none∧σ.c 129 = k∧σ.c 150 = k∧σ.s 11 = iv k) (by simp [Row.cells,h0,hR,h5,c129,c150,h11,hz,hlt]; exact W.of rfl rfl) ?_
      clear W h0 hR h5 c129 c150 h11 σ
      rintro σ ⟨W,h0,hR,h5,c129,c150,h11⟩
      refine wwp_body (fun σ=>σ.s 0 = .sl F.lt 1 0 K none∧F.R4 (k + 1) σ.m∧σ.s 5 = .sl [43,0] 1 0 K none∧σ.c 129 = k + 1∧σ.c 150 = k + 1∧σ.s 11 = iv k) ?_ ?_
      · refine wwp_cutW W (fun σ=>σ.s 0 = .sl F.lt 1 0 K none∧F.R4 k σ.m∧σ.s 5 = .sl [43,0] 1 0 K none∧σ.c 129 = k + 1∧σ.c 150 = k∧σ.s 11 = iv k∧σ.s 12 = .sl [130,k] 5 0 64 none∧∃ L : List Row,σ.m [130,k] = some (.row [130,k] 53 (rowsL L))∧L.length = 64) ?_ ?_
        · simp [Row.cells,h0,h5,c129,c150,h11,hm64i]
          refine ⟨hR.presO O U0 (by omega) (u:=k) (n:=0) fun τ o g1 g2=>?_,List.replicate 64 Row.zero,by simp [rowsL,Row.cells,Row.zero],by simp⟩
          have:=W.ne g1 129 k [] (by omega)
          simp [this,g1,c129]
        clear W h0 hR h5 c129 c150 h11 σ
        rintro σ W ⟨h0,hR,h5,c129,c150,h11,h12,L,mL,hL⟩
        refine wwp_cutG (fun σ=>WF σ∧σ.s 0 = .sl F.lt 1 0 K none∧F.R4 k σ.m∧σ.s 5 = .sl [43,0] 1 0 K none∧σ.c 129 = k + 1∧σ.c 150 = k∧σ.s 11 = iv k∧σ.s 12 = .sl [130,k] 5 0 64 none∧σ.m [130,k] = some (.row [130,k] 53 (rowsL (F.mks (k + K) 64)))) ?_ ?_
        · refine wwp_cut (fun σ=>σ.s 0 = .sl F.lt 1 0 K none∧F.R4 k σ.m∧σ.s 5 = .sl [43,0] 1 0 K none∧σ.c 129 = k + 1∧σ.c 150 = k∧σ.s 11 = iv k∧σ.s 12 = .sl [130,k] 5 0 64 none∧σ.m [130,k] = some (.row [130,k] 53 (rowsL L))∧σ.s 13 = iv 0) (by simp [Row.cells,h0,hR,h5,c129,c150,h11,h12,mL]) ?_
          clear W h0 hR h5 c129 c150 h11 h12 mL σ
          rintro σ ⟨h0,hR,h5,c129,c150,h11,h12,mL,h13⟩
          simp only [wwp_block]
          refine wwp_loop (fun σ=>∃ i : Nat,i≤64∧σ.s 0 = .sl F.lt 1 0 K none∧F.R4 k σ.m∧σ.s 5 = .sl [43,0] 1 0 K none∧σ.c 129 = k + 1∧σ.c 150 = k∧σ.s 11 = iv k∧σ.s 12 = .sl [130,k] 5 0 64 none∧(∃ L : List Row,σ.m [130,k] = some (.row [130,k] 53 (rowsL L))∧L.length = 64∧∀ q (h : q < L.length),q < i→L[q] = F.mrk (k + K) q)∧σ.s 13 = iv i) (fun σ=>cnt 64 (σ.s 13)) ?_ ?_
          · exact ⟨0,by omega,h0,hR,h5,c129,c150,h11,h12,⟨L,mL,hL,fun q _ h=>absurd h (by omega)⟩,h13⟩
          clear h0 hR h5 c129 c150 h11 h12 mL h13 hL L σ
          rintro σ W ⟨i,hi,h0,hR,h5,c129,c150,h11,h12,⟨L,mL,hL,hLm⟩,h13⟩
          refine wwp_seq_assoc ?_
          by_cases hi64 : i < 64
          · have hw2:=wrap_succ (show i≤1000000000 by omega)
            have hmu2 : cnt 64 (σ.s 13) = 64 - i:=by simp [h13]
            simp only [hmu2]
            clear hmu2
            have hz2 : (i : Int) < 64:=by omega
            refine wwp_on (fun σ=>σ.s 0 = .sl F.lt 1 0 K none∧F.R4 k σ.m∧σ.s 5 = .sl [43,0] 1 0 K none∧σ.c 129 = k + 1∧σ.c 150 = k∧σ.s 11 = iv k∧σ.s 12 = .sl [130,k] 5 0 64 none∧σ.m [130,k] = some (.row [130,k] 53 (rowsL L))∧σ.s 13 = iv i) (by simp [Row.cells,h0,hR,h5,c129,c150,h11,h12,mL,h13,hz2]) ?_
            clear W h0 hR h5 c129 c150 h11 h12 mL h13 σ
            rintro σ ⟨h0,hR,h5,c129,c150,h11,h12,mL,h13⟩
            have e73:=h73 (k + K) i (by omega) (by omega)
            rw [Int.natCast_add] at e73
            have hw3 : IntKind.i64.wrap ((k : Int) + K) = (k : Int) + K:=wrap_in (by omega) (by omega)
            have hLi:=rowsL_at (l:=L) (k:=i) (by omega)
            refine wwp_body (fun σ=>σ.s 0 = .sl F.lt 1 0 K none∧F.R4 k σ.m∧σ.s 5 = .sl [43,0] 1 0 K none∧σ.c 129 = k + 1∧σ.c 150 = k∧σ.s 11 = iv k∧σ.s 12 = .sl [130,k] 5 0 64 none∧(∃ L : List Row,σ.m [130,k] = some (.row [130,k] 53 (rowsL L))∧L.length = 64∧∀ q (h : q < L.length),q < i + 1→L[q] = F.mrk (k + K) q)∧σ.s 13 = iv i) ?_ ?_
            · obtain ⟨x,hx⟩ : ∃ x,x = F.mrk (k + K) i:=⟨_,rfl⟩
              obtain ⟨y,hy⟩ : ∃ y,y = L[i]:=⟨_,rfl⟩
              obtain ⟨X,hX⟩ : ∃ X,X = rowsL L:=⟨_,rfl⟩
              have hXs : X.set i x.cells = rowsL (L.set i x):=by rw [rowsL_set,hX]
              rw [← hx] at e73
              rw [← hX,← hy] at hLi
              rw [← hX] at mL
              have hi64' : i < 64:=hi64
              simp [Row.cells,h0,h5,c129,c150,h11,h12,mL,h13,hw3,e73,hLi,hi64']
              refine ⟨hR.presN O U0 (by omega) (u:=k) (n:=i) fun τ o g1 g2 g3=>?_,L.set i x,by simp [← hXs,Row.cells],by simp [hL],fun q hq hqi=>?_⟩
              · simp [g1,g2,g3]
              · rw [List.getElem_set]
                split
                · rename_i e; rw [hx,e]
                · exact hLm q (by simpa using hq) (by omega)
            · clear h0 hR h5 c129 c150 h11 h12 mL h13 hLi hLm hL L σ
              rintro σ ⟨h0,hR,h5,c129,c150,h11,h12,hLL,h13⟩
              simp [Row.cells,h0,hR,h5,c129,c150,h11,h12,h13,hw2]
              exact ⟨⟨i + 1,by omega,hLL,by simp⟩,by omega⟩
          · obtain rfl : i = 64:=by omega
            refine wwp_off ?_
            have : L = F.mks (k + K) 64:=by
              apply List.ext_getElem (by rw [hL,FlR.mks_len])
              intro q h1 h2
              rw [hLm q h1 (by omega)]
              simp [FlR.mks]
            subst this
            simp [Row.cells,h0,hR,h5,c129,c150,h11,h12,h13,mL]
            exact W.of rfl rfl
        · clear W h0 hR h5 c129 c150 h11 h12 mL hL L σ
          rintro σ ⟨W,h0,hR,h5,c129,c150,h11,h12,mL⟩
          have hlr:=hR.kp.lt O
          have hml : (rowsL (F.mks (k + K) 64)).length = 64:=by rw [rowsL_len,FlR.mks_len]
          obtain ⟨Y,hY⟩ : ∃ Y,Y = rowsL (F.mks (k + K) 64):=⟨_,rfl⟩
          have hYs : (∃ c,c ∈ Y∧¬ c.length = 5) = False:=by rw [hY]; exact rowsL_ex _
          have hYa : (∀ c,c ∈ Y→c.length = 5) = True:=by rw [hY]; exact rowsL_fa _
          have hYn : ¬ Y = []:=fun h=>by rw [← hY,h] at hml; simp at hml
          rw [← hY] at mL hml
          have hYt : Y.take 64 = Y:=List.take_of_length_le (by omega)
          refine wwp_cutN1 2 W (fun σ=>F.R4 k σ.m∧σ.s 0 = .sl F.lt 1 0 K none∧σ.s 5 = .sl [43,0] 1 0 K none∧σ.c 129 = k + 1∧σ.c 150 = k + 1∧σ.s 11 = iv k∧σ.s 143 = .sl [43,0] 1 0 K none∧σ.s 144 = iv k∧σ.s 150 = .sl [151,k] 5 0 (n + 64) none∧σ.m [151,k] = some (.row (F.GG 151 1 k) 53 (rowsL (F.mks k n ++ F.mks (k + K) 64)))) ?_ ?_
          · cases hnl : F.nl k with
            | true=>
              have hn0 : n = 0:=by rw [hn]; exact O.zero k hnl
              have hGG : F.GG 151 1 k = [151,k]:=by unfold FlR.GG; rw [hnl]; simp
              rw [FlR.hdr_nl hnl] at hrk
              have hm0 : F.mks k n = []:=by rw [hn0]; rfl
              rw [hGG,hm0,List.nil_append,← hY,hn0]
              rcases FlR.emp_or O (show k < F.K by omega) with hE | ⟨j,hj,hjn,hE⟩
              · rw [hE] at hrk
                simp [Row.cells,h0,h5,c129,c150,h11,h12,hlr,hrk,hlt,mL,hml,hYs,hYa,hYn,hYt,hm64]
                refine hR.pres O (by omega) (n:=n) (by omega) fun τ o g1 g2=>?_
                have a:=W.ne g1 150 k [] (by omega)
                simp [a,g1,c150]
              · have mj:=(hR.inn j hj hjn).1
                rw [hE] at hrk
                have p73' : 0 < 64:=by omega
                simp [Row.cells,h0,h5,c129,c150,h11,h12,hlr,hrk,hlt,mL,hml,hYs,hYa,hYn,hYt,hm64,mj]
                refine hR.pres O (by omega) (n:=n) (by omega) fun τ o g1 g2=>?_
                have a:=W.ne g1 150 k [] (by omega)
                simp [a,g1,c150]
            | false=>
              have hGG : F.GG 151 1 k = F.gr k:=by unfold FlR.GG; rw [hnl]; rfl
              rw [FlR.hdr_sl hnl,← hn] at hrk
              have hck:=(hR.inn k (by omega) hnl).1
              simp only [← hn] at hck
              have hnm : n + 64≤maxMade:=maxMade_le (by omega)
              have hZl : (rowsL (F.mks k n)).length = n:=by rw [rowsL_len,FlR.mks_len]
              rw [hGG,rowsL_append,← hY]
              obtain ⟨Z,hZ⟩ : ∃ Z,Z = rowsL (F.mks k n):=⟨_,rfl⟩
              rw [← hZ] at hck hZl ⊢
              have hZt : Z.take n = Z:=List.take_of_length_le (by omega)
              simp [Row.cells,h0,h5,c129,c150,h11,h12,hlr,hrk,hlt,mL,hml,hYs,hYa,hYn,hYt,hck,hZl,hZt,hnm]
              refine hR.pres O (by omega) (n:=n) (by omega) fun τ o g1 g2=>?_
              have a:=W.ne g1 150 k [] (by omega)
              rw [hGG] at g2
              simp [a,g1,g2,c150]
          clear W h0 hR h5 c129 c150 h11 h12 mL hlr σ
          rintro σ W ⟨hR,h0,h5,c129,c150,h11,h143,h144,h150,m151⟩
          simp only [List.drop_succ_cons,List.drop_zero]
          obtain ⟨hs,hg,hgl,hgs,hga⟩:=hR.gs
          rw [← hK] at hgl
          have hge : (∃ c,c ∈ hs∧¬ c.length = 1) = False:=by simp only [eq_iff_iff,iff_false]; rintro ⟨c,a,b⟩; exact b (hgs c a)
          obtain ⟨d,hd⟩ : ∃ d,hs[k]? = some [d]:=by
            have h1 : k < hs.length:=by omega
            have h2:=hgs hs[k] (List.getElem_mem h1)
            match h3 : hs[k],h2 with
            | [d],_=>exact ⟨d,by simp [h1,h3]⟩
          simp [Row.cells,h0,h5,c129,c150,h11,h143,h144,h150,hg,hd,hge,hlt]
          have hp : PresX [43,0] [43,0] k σ.m (fun τ=>if τ = [43,0] then some (.row [43,0] 22 (hs.set k [.sl [151,k] 5 0 (n + 64) none])) else HO.struck [43,0] k (σ.m τ)):=fun τ o g1 g2 g3=>by simp [g1,g2,g3]
          refine ⟨hR.kp.presN O (by omega) (by simp) hp U0,hR.inn.presN O (by omega) (by simp) hp,⟨hs.set k [.sl [151,k] 5 0 (n + 64) none],by simp,by simp [hgl,hK],fun c hc=>?_,fun j hj=>?_⟩,fun j hj=>?_⟩
          · rcases List.mem_or_eq_of_mem_set hc with h | rfl
            · exact hgs c h
            · rfl
          · by_cases e : j = k
            · subst e; rw [List.getElem?_set_self (by omega),← hn]
            · rw [List.getElem?_set_ne (by omega)]; exact hga j (by omega)
          · by_cases e : j = k
            · subst e
              rw [hn,hK] at m151
              exact hp.row m151 (by simp) (.inl (FlR.GG_new O (by omega) (by omega)).symm)
            · exact hp.row (hR.ext j (by omega)) (by simp) (.inl (FlR.GG_new O (by omega) (by omega)).symm)
      · clear W h0 hR h5 c129 c150 h11 σ
        rintro σ ⟨h0,hR,h5,c129,c150,h11⟩
        simp [Row.cells,h0,hR,h5,c129,c150,h11,hw1]
        exact ⟨⟨k + 1,by omega,hR,rfl,by simp⟩,by omega⟩
    · obtain rfl : k = K:=by omega
      refine wwp_off ?_
      simp [Row.cells,h0,hR,h5,h11]
  clear h0 hR h5 c129 c150 σ
  rintro σ ⟨h0,hR,h5⟩
  -- read again
  refine wwp_cutG (fun σ=>F.Kp σ.m) ?_ (fun σ h=>by simp [h])
  refine wwp_cut (fun σ=>σ.s 0 = .sl F.lt 1 0 K none∧F.R4 K σ.m∧σ.s 5 = .sl [43,0] 1 0 K none∧σ.s 14 = iv 0) (by simp [Row.cells,h0,hR,h5]) ?_
  clear h0 hR h5 σ
  rintro σ ⟨h0,hR,h5,h14⟩
  simp only [wwp_block]
  refine wwp_loop (fun σ=>∃ k : Nat,k≤K∧σ.s 0 = .sl F.lt 1 0 K none∧F.R4 K σ.m∧σ.s 5 = .sl [43,0] 1 0 K none∧σ.s 14 = iv k) (fun σ=>cnt K (σ.s 14)) ?_ ?_
  · exact ⟨0,by omega,h0,hR,h5,h14⟩
  clear h0 hR h5 h14 σ
  rintro σ W ⟨k,hk,h0,hR,h5,h14⟩
  clear W
  refine wwp_seq_assoc ?_
  by_cases hlt : k < K
  · have hw1:=wrap_succ (show k≤1000000000 by omega)
    have hmu : cnt K (σ.s 14) = K - k:=by simp [h14]
    simp only [hmu]
    clear hmu
    have hz : (k : Int) < K:=by omega
    have hrk:=hra k hlt
    have hsm:=O.small k (by omega)
    obtain ⟨n,hn⟩ : ∃ n,n = F.ln k:=⟨_,rfl⟩
    have hlk:=hlD k
    rw [← hn] at hsm hlk
    refine wwp_on (fun σ=>σ.s 0 = .sl F.lt 1 0 K none∧F.R4 K σ.m∧σ.s 5 = .sl [43,0] 1 0 K none∧σ.s 14 = iv k) (by simp [Row.cells,h0,hR,h5,h14,hz,hlt]) ?_
    clear h0 hR h5 h14 σ
    rintro σ ⟨h0,hR,h5,h14⟩
    refine wwp_body (fun σ=>σ.s 0 = .sl F.lt 1 0 K none∧F.R4 K σ.m∧σ.s 5 = .sl [43,0] 1 0 K none∧σ.s 14 = iv k) ?_ ?_
    · refine wwp_cut (fun σ=>σ.s 0 = .sl F.lt 1 0 K none∧F.R4 K σ.m∧σ.s 5 = .sl [43,0] 1 0 K none∧σ.s 14 = iv k∧σ.s 15 = iv 0) (by simp [Row.cells,h0,hR,h5,h14]) ?_
      clear h0 hR h5 h14 σ
      rintro σ ⟨h0,hR,h5,h14,h15⟩
      simp only [wwp_block]
      refine wwp_loop (fun σ=>∃ i : Nat,i≤n∧σ.s 0 = .sl F.lt 1 0 K none∧F.R4 K σ.m∧σ.s 5 = .sl [43,0] 1 0 K none∧σ.s 14 = iv k∧σ.s 15 = iv i) (fun σ=>cnt n (σ.s 15)) ?_ ?_
      · exact ⟨0,by omega,h0,hR,h5,h14,h15⟩
      clear h0 hR h5 h14 h15 σ
      rintro σ W ⟨i,hi,h0,hR,h5,h14,h15⟩
      clear W
      have hlr:=hR.kp.lt O
      refine wwp_seq_assoc ?_
      by_cases hin' : i < n
      · have hw2:=wrap_succ (show i≤1000000000 by omega)
        have hmu2 : cnt n (σ.s 15) = n - i:=by simp [h15]
        simp only [hmu2]
        clear hmu2
        have hz2 : (i : Int) < n:=by omega
        refine wwp_on (fun σ=>σ.s 0 = .sl F.lt 1 0 K none∧F.R4 K σ.m∧σ.s 5 = .sl [43,0] 1 0 K none∧σ.s 14 = iv k∧σ.s 15 = iv i) (by simp [Row.cells,h0,hR,h5,h14,h15,hlr,hlt,hrk,hlk,hz2,hin']) ?_
        clear h0 hR h5 h14 h15 hlr σ
        rintro σ ⟨h0,hR,h5,h14,h15⟩
        have hlr:=hR.kp.lt O
        obtain ⟨hs,hg,hgl,hgs,hga⟩:=hR.gs
        rw [← hK] at hgl
        have hgk:=hga k hlt
        have hex:=hR.ext k hlt
        rw [← hn] at hgk hex
        have hge : (∃ c,c ∈ hs∧¬ c.length = 1) = False:=by simp only [eq_iff_iff,iff_false]; rintro ⟨c,a,b⟩; exact b (hgs c a)
        have e73:=h73 k i (by omega) (by omega)
        have hnl : F.nl k = false:=by
          cases h : F.nl k
          · rfl
          · have:=O.zero k h; omega
        have hci:=(hR.inn k (by omega) hnl).1
        have hyi:=F.mks_at (k:=k) hin'
        simp only [← hn] at hci
        rw [FlR.hdr_sl hnl,← hn] at hrk
        obtain ⟨X,hX⟩ : ∃ X,X = rowsL (F.mks k n ++ F.mks (k + F.K) 64):=⟨_,rfl⟩
        have hXl : X.length = n + 64:=by rw [hX,rowsL_len,List.length_append,FlR.mks_len,FlR.mks_len]
        have hXs : X.all (fun c=>c.length == 5) = true:=by rw [hX]; exact rowsL_size _
        have hxi : X[i]? = some (F.mrk k i).cells:=by rw [hX,rowsL_append,List.getElem?_append_left (by rw [rowsL_len,FlR.mks_len]; exact hin'),hyi]
        rw [← hX] at hex
        have hin64 : i < n + 64:=by omega
        have hz64 : (i : Int) < (n : Int) + 64:=by omega
        obtain ⟨x,hx⟩ : ∃ x,x = F.mrk k i:=⟨_,rfl⟩
        rw [← hx] at e73 hxi hyi
        refine wwp_body (fun σ=>σ.s 0 = .sl F.lt 1 0 K none∧F.R4 K σ.m∧σ.s 5 = .sl [43,0] 1 0 K none∧σ.s 14 = iv k∧σ.s 15 = iv i) ?_ ?_
        · simp [Row.cells,h0,hR,h5,h14,h15,hlr,hlt,hrk,hg,hgk,hge,hex,hxi,hci,hyi,e73,hin',hin64,hz64]
        · clear h0 hR h5 h14 h15 hlr hs hg hgl hgs hga hgk hge hex hci σ
          rintro σ ⟨h0,hR,h5,h14,h15⟩
          simp [Row.cells,h0,hR,h5,h14,h15,hw2]
          exact ⟨⟨i + 1,by omega,rfl⟩,by omega⟩
      · refine wwp_off ?_
        have hz2 : ¬ (i : Int) < n:=by omega
        simp [Row.cells,h0,hR,h5,h14,h15,hlr,hlt,hrk,hlk,hz2,hin']
    · clear h0 hR h5 h14 σ
      rintro σ ⟨h0,hR,h5,h14⟩
      simp [Row.cells,h0,hR,h5,h14,hw1]
      exact ⟨⟨k + 1,by omega,rfl⟩,by omega⟩
  · refine wwp_off ?_
    have hz : ¬ (k : Int) < K:=by omega
    simp [Row.cells,h0,h5,h14,hz,hlt]
    exact hR.kp
end Go.Proofs.Ytpmgaaalfdjikaa
namespace Go.Proofs.Ytpmgaaalfdjikaa
open Go.RowKit
set_option linter.unusedSimpArgs false
set_option linter.unusedVariables false
def NlA (m : Mem) (σ : St) : Prop:=σ.s 0 = .nil∧Up m σ.m
theorem wf_initM (m : Mem) (ds : List D) : WF (initM m ds):=fun x k r hk=>rfl
theorem Up.new {m : Mem} {σ : St} (W : WF σ) (h : Up m σ.m) (x : Nat) (o : HO) (d : D) : Up m (σ.new x o d).m:=fun t o' ho=>by
  have:=h t o' ho
  have n:=W.ne this x (σ.c x) []
  simp [this,n]
theorem Up.new' {m : Mem} {σ σ' : St} (W : WF σ) (h : Up m σ.m) (x : Nat) (o : HO) (d : D) (hm : σ'.m = σ.m) (hc : σ'.c = σ.c) : Up m (σ'.new x o d).m:=Up.new (σ:=σ') (W.of hm hc) (by rw [hm]; exact h) x o d
theorem nil_loop {Γ : Env} {m : Mem} {s i c : Nat} {tm : List Nat} {B b : WC} {Q : VE→St→Prop} {σ : St} (W : WF σ) (h : NlA m σ) (hs : (s != 0 && c != s && c != 0 && !tm.contains 0 && !tm.contains s) = true) (h2 : ∀ σ,WF σ→NlA m σ→wwp Γ b Q σ) :
    wwp Γ (.seq (.seq (.reg [.set [(s,.c (.v (.int .i64 0)))] [s]]) (.block i (.loop (.seq (.seq (.reg [.set [(c,.ap (.ibin .lss) [.t s,.ap .llen [.t 0]])] tm]) (.cond (.t c) .skip (.exit i))) B)))) b) Q σ:=by
  obtain ⟨h0,hU⟩:=h
  simp only [Bool.and_eq_true,bne_iff_ne,ne_eq,Bool.not_eq_true',List.contains_eq_mem,decide_eq_false_iff_not] at hs
  obtain ⟨⟨⟨⟨a1,a2⟩,a3⟩,a4⟩,a5⟩:=hs
  have a1' : ¬ 0 = s:=fun e=>a1 e.symm
  refine wwp_cutG (fun σ=>WF σ∧NlA m σ) ?_ fun σ h=>h2 σ h.1 h.2
  refine wwp_cutW W (fun σ=>NlA m σ∧σ.s s = iv 0) (by simp [NlA,h0,a1']; exact hU) ?_
  clear W h0 hU σ
  rintro σ W ⟨⟨h0,hU⟩,h3⟩
  simp only [wwp_block]
  refine wwp_loop (fun σ=>NlA m σ∧σ.s s = iv 0) (fun _=>0) ⟨⟨h0,hU⟩,h3⟩ ?_
  clear W h0 hU h3 σ
  rintro σ W ⟨⟨h0,hU⟩,h3⟩
  refine wwp_seq_assoc ?_
  refine wwp_off ?_
  have a3' : ¬ 0 = c:=fun e=>a3 e.symm
  simp [NlA,h0,h3,a3',a4,a5]
  exact ⟨W.of rfl rfl,hU⟩
theorem nil_mks {Γ : Env} {m : Mem} {e z : Nat} {d : D} {b : WC} {Q : VE→St→Prop} {σ : St} (W : WF σ) (h : NlA m σ) (h2 : ∀ σ,WF σ→NlA m σ→wwp Γ b Q σ) :
    wwp Γ (.seq (.reg [.set [(41,.ap .llen [.t 0])] [40,41],.stm (.eff (.mks 42 e z [d] (.t 41) (.t 41)) none),.set [(5,.t 42)] [5]]) b) Q σ:=by
  obtain ⟨h0,hU⟩:=h
  exact wwp_cutW W (NlA m) (by simp [NlA,h0]; exact Up.new' W hU _ _ _ rfl rfl) h2
def WLl (a0 : Nat) (a1 : Nat) (a2 : Nat) (a3 : Nat) : WC × List VRes:=((.seq (.reg [(.set [(2,(.c (.v (.bool false))))] [2])]) (.seq (.seq (.reg [(.set [(3,(.c (.v (.int .i64 0))))] [3])]) (.block 0 (.loop (.seq (.seq (.reg [(.set [(19,(.ap (.ibin .lss) [(.t 3),(.ap .llen [(.t 0)])]))] [16,17,18,19])]) (.cond (.t 19) .skip (.exit 0))) (.seq (.block 1 (.seq (.reg [(.set [(4,(.c (.v (.int .i64 0))))] [4])]) (.block 2 (.loop (.seq (.seq (.reg [(.set [(28,(.ap (.ibin .lss) [(.t 4),(.ap .llen [(.ap (.load 1 false) [(.ap (.idx a1 1) [(.t 0),(.t 3)])])])]))] [22,23,24,25,26,27,28])]) (.cond (.t 28) .skip (.exit 2))) (.seq (.block 3 (.reg [(.set [(38,(.ap (.call a0) [(.t 3),(.t 4)])),(39,(.ap (.idx a2 1) [(.ap (.load 1 false) [(.ap (.idx a1 1) [(.t 0),(.t 3)])]),(.t 4)]))] [31,32,33,34,35,36,37,38,39]),(.stm (.eff (.store 1 (.t 39) (.t 38)) none))])) (.reg [(.set [(4,(.ap (.ibin .add) [(.t 4),(.c (.v (.int .i64 1)))]))] [29,30,4])]))))))) (.reg [(.set [(3,(.ap (.ibin .add) [(.t 3),(.c (.v (.int .i64 1)))]))] [20,21,3])])))))) (.seq (.reg [(.set [(41,(.ap .llen [(.t 0)]))] [40,41]),(.stm (.eff (.mks 42 a1 1 [.nil] (.t 41) (.t 41)) none)),(.set [(5,(.t 42))] [5])]) (.seq (.seq (.reg [(.set [(6,(.c (.v (.int .i64 0))))] [6])]) (.block 4 (.loop (.seq (.seq (.reg [(.set [(46,(.ap (.ibin .lss) [(.t 6),(.ap .llen [(.t 0)])]))] [43,44,45,46])]) (.cond (.t 46) .skip (.exit 4))) (.seq (.block 5 (.seq (.reg [(.set [(7,(.ap (.load 1 false) [(.ap (.idx a1 1) [(.t 0),(.t 6)])]))] [49,50,51,52,7])]) (.seq (.seq (.reg [(.set [(8,(.c (.v (.int .i64 0))))] [8])]) (.block 6 (.loop (.seq (.seq (.reg [(.set [(54,(.ap (.ibin .lss) [(.t 8),(.c (.v (.int .i64 64)))]))] [53,54])]) (.cond (.t 54) .skip (.exit 6))) (.seq (.block 7 (.reg [(.set [(57,(.t 7)),(66,(.ap (.call a0) [(.t 6),(.ap (.ibin .add) [(.ap .llen [(.ap (.load 1 false) [(.ap (.idx a1 1) [(.t 0),(.t 6)])])]),(.t 8)])]))] [57,58,59,60,61,62,63,64,65,66]),(.stm (.eff (.lit 67 a2 1 1 [.nil] [(0,1)] [(.t 66)]) none)),(.stm (.eff (.app 68 a2 1 (.t 57) (.t 67)) none)),(.set [(7,(.t 68))] [7])])) (.reg [(.set [(8,(.ap (.ibin .add) [(.t 8),(.c (.v (.int .i64 1)))]))] [55,56,8])])))))) (.reg [(.set [(71,(.t 7)),(72,(.ap (.idx a1 1) [(.t 5),(.t 6)]))] [69,70,71,72]),(.stm (.eff (.store 1 (.t 72) (.t 71)) none))])))) (.reg [(.set [(6,(.ap (.ibin .add) [(.t 6),(.c (.v (.int .i64 1)))]))] [47,48,6])])))))) (.seq (.seq (.reg [(.set [(9,(.c (.v (.int .i64 0))))] [9])]) (.block 8 (.loop (.seq (.seq (.reg [(.set [(76,(.ap (.ibin .lss) [(.t 9),(.ap .llen [(.t 0)])]))] [73,74,75,76])]) (.cond (.t 76) .skip (.exit 8))) (.seq (.block 9 (.seq (.reg [(.set [(10,(.c (.v (.int .i64 0))))] [10])]) (.block 10 (.loop (.seq (.seq (.reg [(.set [(85,(.ap (.ibin .lss) [(.t 10),(.ap .llen [(.ap (.load 1 false) [(.ap (.idx a1 1) [(.t 5),(.t 9)])])])]))] [79,80,81,82,83,84,85])]) (.cond (.t 85) .skip (.exit 10))) (.seq (.block 11 (.seq (.reg [(.set [(122,(.ite (.ap .inot [(.ap (.call a3) [(.ap (.load 1 false) [(.ap (.idx a2 1) [(.ap (.load 1 false) [(.ap (.idx a1 1) [(.t 5),(.t 9)])]),(.t 10)])]),(.ap (.call a0) [(.t 9),(.t 10)])])]) (.c (.v (.bool true))) (.ite (.ap (.ibin .lss) [(.t 10),(.ap .llen [(.ap (.load 1 false) [(.ap (.idx a1 1) [(.t 0),(.t 9)])])])]) (.ap .inot [(.ap (.call a3) [(.ap (.load 1 false) [(.ap (.idx a2 1) [(.ap (.load 1 false) [(.ap (.idx a1 1) [(.t 0),(.t 9)])]),(.t 10)])]),(.ap (.call a0) [(.t 9),(.t 10)])])]) (.c (.v (.bool false))))))] [88,89,90,91,92,93,94,95,96,97,98,99,100,101,102,103,104,105,106,107,108,109,110,111,112,113,114,115,116,117,118,119,120,121,122])]) (.cond (.t 122) (.seq (.reg [(.set [(2,(.c (.v (.bool false))))] [2])]) .ret) .skip))) (.reg [(.set [(10,(.ap (.ibin .add) [(.t 10),(.c (.v (.int .i64 1)))]))] [86,87,10])]))))))) (.reg [(.set [(9,(.ap (.ibin .add) [(.t 9),(.c (.v (.int .i64 1)))]))] [77,78,9])])))))) (.seq (.seq (.reg [(.set [(11,(.c (.v (.int .i64 0))))] [11])]) (.block 12 (.loop (.seq (.seq (.reg [(.set [(126,(.ap (.ibin .lss) [(.t 11),(.ap .llen [(.t 0)])]))] [123,124,125,126])]) (.cond (.t 126) .skip (.exit 12))) (.seq (.block 13 (.seq (.reg [(.stm (.eff (.mks 129 a2 1 [.nil] (.c (.v (.int .i64 64))) (.c (.v (.int .i64 64)))) none)),(.set [(12,(.t 129))] [12])]) (.seq (.seq (.reg [(.set [(13,(.c (.v (.int .i64 0))))] [13])]) (.block 14 (.loop (.seq (.seq (.reg [(.set [(131,(.ap (.ibin .lss) [(.t 13),(.c (.v (.int .i64 64)))]))] [130,131])]) (.cond (.t 131) .skip (.exit 14))) (.seq (.block 15 (.reg [(.set [(141,(.ap (.call a0) [(.ap (.ibin .add) [(.t 11),(.ap .llen [(.t 0)])]),(.t 13)])),(142,(.ap (.idx a2 1) [(.t 12),(.t 13)]))] [134,135,136,137,138,139,140,141,142]),(.stm (.eff (.store 1 (.t 142) (.t 141)) none))])) (.reg [(.set [(13,(.ap (.ibin .add) [(.t 13),(.c (.v (.int .i64 1)))]))] [132,133,13])])))))) (.reg [(.set [(143,(.t 5)),(144,(.t 11)),(148,(.ap (.load 1 false) [(.ap (.idx a1 1) [(.t 0),(.t 11)])])),(149,(.t 12))] [143,144,145,146,147,148,149]),(.stm (.eff (.app 150 a2 1 (.t 148) (.t 149)) none)),(.set [(151,(.ap (.idx a1 1) [(.t 143),(.t 144)]))] [151]),(.stm (.eff (.store 1 (.t 151) (.t 150)) none))])))) (.reg [(.set [(11,(.ap (.ibin .add) [(.t 11),(.c (.v (.int .i64 1)))]))] [127,128,11])])))))) (.seq (.seq (.reg [(.set [(14,(.c (.v (.int .i64 0))))] [14])]) (.block 16 (.loop (.seq (.seq (.reg [(.set [(155,(.ap (.ibin .lss) [(.t 14),(.ap .llen [(.t 0)])]))] [152,153,154,155])]) (.cond (.t 155) .skip (.exit 16))) (.seq (.block 17 (.seq (.reg [(.set [(15,(.c (.v (.int .i64 0))))] [15])]) (.block 18 (.loop (.seq (.seq (.reg [(.set [(164,(.ap (.ibin .lss) [(.t 15),(.ap .llen [(.ap (.load 1 false) [(.ap (.idx a1 1) [(.t 0),(.t 14)])])])]))] [158,159,160,161,162,163,164])]) (.cond (.t 164) .skip (.exit 18))) (.seq (.block 19 (.seq (.reg [(.set [(192,(.ite (.ap .inot [(.ap (.call a3) [(.ap (.load 1 false) [(.ap (.idx a2 1) [(.ap (.load 1 false) [(.ap (.idx a1 1) [(.t 0),(.t 14)])]),(.t 15)])]),(.ap (.call a0) [(.t 14),(.t 15)])])]) (.c (.v (.bool true))) (.ap .inot [(.ap (.call a3) [(.ap (.load 1 false) [(.ap (.idx a2 1) [(.ap (.load 1 false) [(.ap (.idx a1 1) [(.t 5),(.t 14)])]),(.t 15)])]),(.ap (.call a0) [(.t 14),(.t 15)])])])))] [167,168,169,170,171,172,173,174,175,176,177,178,179,180,181,182,183,184,185,186,187,188,189,190,191,192])]) (.cond (.t 192) (.seq (.reg [(.set [(2,(.c (.v (.bool false))))] [2])]) .ret) .skip))) (.reg [(.set [(15,(.ap (.ibin .add) [(.t 15),(.c (.v (.int .i64 1)))]))] [165,166,15])]))))))) (.reg [(.set [(14,(.ap (.ibin .add) [(.t 14),(.c (.v (.int .i64 1)))]))] [156,157,14])])))))) (.seq (.reg [(.set [(2,(.c (.v (.bool true))))] [2])]) .ret)))))))),[(.t 2)])
def WLs (a0 : Nat) (a1 : Nat) (a2 : IntKind) (a3 : Nat) : WC × List VRes:=((.seq (.reg [(.set [(2,(.c (.v (.bool false))))] [2])]) (.seq (.seq (.reg [(.set [(3,(.c (.v (.int .i64 0))))] [3])]) (.block 0 (.loop (.seq (.seq (.reg [(.set [(19,(.ap (.ibin .lss) [(.t 3),(.ap .llen [(.t 0)])]))] [16,17,18,19])]) (.cond (.t 19) .skip (.exit 0))) (.seq (.block 1 (.seq (.reg [(.set [(4,(.c (.v (.int .i64 0))))] [4])]) (.block 2 (.loop (.seq (.seq (.reg [(.set [(28,(.ap (.ibin .lss) [(.t 4),(.ap .llen [(.ap (.load 1 false) [(.ap (.idx a1 1) [(.t 0),(.t 3)])])])]))] [22,23,24,25,26,27,28])]) (.cond (.t 28) .skip (.exit 2))) (.seq (.block 3 (.reg [(.set [(38,(.ap (.call a0) [(.t 3),(.t 4)])),(39,(.ap (.idx a3 1) [(.ap (.load 1 false) [(.ap (.idx a1 1) [(.t 0),(.t 3)])]),(.t 4)]))] [31,32,33,34,35,36,37,38,39]),(.stm (.eff (.store 1 (.t 39) (.t 38)) none))])) (.reg [(.set [(4,(.ap (.ibin .add) [(.t 4),(.c (.v (.int .i64 1)))]))] [29,30,4])]))))))) (.reg [(.set [(3,(.ap (.ibin .add) [(.t 3),(.c (.v (.int .i64 1)))]))] [20,21,3])])))))) (.seq (.reg [(.set [(41,(.ap .llen [(.t 0)]))] [40,41]),(.stm (.eff (.mks 42 a1 1 [.nil] (.t 41) (.t 41)) none)),(.set [(5,(.t 42))] [5])]) (.seq (.seq (.reg [(.set [(6,(.c (.v (.int .i64 0))))] [6])]) (.block 4 (.loop (.seq (.seq (.reg [(.set [(46,(.ap (.ibin .lss) [(.t 6),(.ap .llen [(.t 0)])]))] [43,44,45,46])]) (.cond (.t 46) .skip (.exit 4))) (.seq (.block 5 (.seq (.reg [(.set [(7,(.ap (.load 1 false) [(.ap (.idx a1 1) [(.t 0),(.t 6)])]))] [49,50,51,52,7])]) (.seq (.seq (.reg [(.set [(8,(.c (.v (.int .i64 0))))] [8])]) (.block 6 (.loop (.seq (.seq (.reg [(.set [(54,(.ap (.ibin .lss) [(.t 8),(.c (.v (.int .i64 64)))]))] [53,54])]) (.cond (.t 54) .skip (.exit 6))) (.seq (.block 7 (.reg [(.set [(57,(.t 7)),(66,(.ap (.call a0) [(.t 6),(.ap (.ibin .add) [(.ap .llen [(.ap (.load 1 false) [(.ap (.idx a1 1) [(.t 0),(.t 6)])])]),(.t 8)])]))] [57,58,59,60,61,62,63,64,65,66]),(.stm (.eff (.lit 67 a3 1 1 [(.v (.int a2 0))] [(0,1)] [(.t 66)]) none)),(.stm (.eff (.app 68 a3 1 (.t 57) (.t 67)) none)),(.set [(7,(.t 68))] [7])])) (.reg [(.set [(8,(.ap (.ibin .add) [(.t 8),(.c (.v (.int .i64 1)))]))] [55,56,8])])))))) (.reg [(.set [(71,(.t 7)),(72,(.ap (.idx a1 1) [(.t 5),(.t 6)]))] [69,70,71,72]),(.stm (.eff (.store 1 (.t 72) (.t 71)) none))])))) (.reg [(.set [(6,(.ap (.ibin .add) [(.t 6),(.c (.v (.int .i64 1)))]))] [47,48,6])])))))) (.seq (.seq (.reg [(.set [(9,(.c (.v (.int .i64 0))))] [9])]) (.block 8 (.loop (.seq (.seq (.reg [(.set [(76,(.ap (.ibin .lss) [(.t 9),(.ap .llen [(.t 0)])]))] [73,74,75,76])]) (.cond (.t 76) .skip (.exit 8))) (.seq (.block 9 (.seq (.reg [(.set [(10,(.c (.v (.int .i64 0))))] [10])]) (.block 10 (.loop (.seq (.seq (.reg [(.set [(85,(.ap (.ibin .lss) [(.t 10),(.ap .llen [(.ap (.load 1 false) [(.ap (.idx a1 1) [(.t 5),(.t 9)])])])]))] [79,80,81,82,83,84,85])]) (.cond (.t 85) .skip (.exit 10))) (.seq (.block 11 (.seq (.reg [(.set [(122,(.ite (.ap .inot [(.ap (.ibin .eql) [(.ap (.load 1 false) [(.ap (.idx a3 1) [(.ap (.load 1 false) [(.ap (.idx a1 1) [(.t 5),(.t 9)])]),(.t 10)])]),(.ap (.call a0) [(.t 9),(.t 10)])])]) (.c (.v (.bool true))) (.ite (.ap (.ibin .lss) [(.t 10),(.ap .llen [(.ap (.load 1 false) [(.ap (.idx a1 1) [(.t 0),(.t 9)])])])]) (.ap .inot [(.ap (.ibin .eql) [(.ap (.load 1 false) [(.ap (.idx a3 1) [(.ap (.load 1 false) [(.ap (.idx a1 1) [(.t 0),(.t 9)])]),(.t 10)])]),(.ap (.call a0) [(.t 9),(.t 10)])])]) (.c (.v (.bool false))))))] [88,89,90,91,92,93,94,95,96,97,98,99,100,101,102,103,104,105,106,107,108,109,110,111,112,113,114,115,116,117,118,119,120,121,122])]) (.cond (.t 122) (.seq (.reg [(.set [(2,(.c (.v (.bool false))))] [2])]) .ret) .skip))) (.reg [(.set [(10,(.ap (.ibin .add) [(.t 10),(.c (.v (.int .i64 1)))]))] [86,87,10])]))))))) (.reg [(.set [(9,(.ap (.ibin .add) [(.t 9),(.c (.v (.int .i64 1)))]))] [77,78,9])])))))) (.seq (.seq (.reg [(.set [(11,(.c (.v (.int .i64 0))))] [11])]) (.block 12 (.loop (.seq (.seq (.reg [(.set [(126,(.ap (.ibin .lss) [(.t 11),(.ap .llen [(.t 0)])]))] [123,124,125,126])]) (.cond (.t 126) .skip (.exit 12))) (.seq (.block 13 (.seq (.reg [(.stm (.eff (.mks 129 a3 1 [(.v (.int a2 0))] (.c (.v (.int .i64 64))) (.c (.v (.int .i64 64)))) none)),(.set [(12,(.t 129))] [12])]) (.seq (.seq (.reg [(.set [(13,(.c (.v (.int .i64 0))))] [13])]) (.block 14 (.loop (.seq (.seq (.reg [(.set [(131,(.ap (.ibin .lss) [(.t 13),(.c (.v (.int .i64 64)))]))] [130,131])]) (.cond (.t 131) .skip (.exit 14))) (.seq (.block 15 (.reg [(.set [(141,(.ap (.call a0) [(.ap (.ibin .add) [(.t 11),(.ap .llen [(.t 0)])]),(.t 13)])),(142,(.ap (.idx a3 1) [(.t 12),(.t 13)]))] [134,135,136,137,138,139,140,141,142]),(.stm (.eff (.store 1 (.t 142) (.t 141)) none))])) (.reg [(.set [(13,(.ap (.ibin .add) [(.t 13),(.c (.v (.int .i64 1)))]))] [132,133,13])])))))) (.reg [(.set [(143,(.t 5)),(144,(.t 11)),(148,(.ap (.load 1 false) [(.ap (.idx a1 1) [(.t 0),(.t 11)])])),(149,(.t 12))] [143,144,145,146,147,148,149]),(.stm (.eff (.app 150 a3 1 (.t 148) (.t 149)) none)),(.set [(151,(.ap (.idx a1 1) [(.t 143),(.t 144)]))] [151]),(.stm (.eff (.store 1 (.t 151) (.t 150)) none))])))) (.reg [(.set [(11,(.ap (.ibin .add) [(.t 11),(.c (.v (.int .i64 1)))]))] [127,128,11])])))))) (.seq (.seq (.reg [(.set [(14,(.c (.v (.int .i64 0))))] [14])]) (.block 16 (.loop (.seq (.seq (.reg [(.set [(155,(.ap (.ibin .lss) [(.t 14),(.ap .llen [(.t 0)])]))] [152,153,154,155])]) (.cond (.t 155) .skip (.exit 16))) (.seq (.block 17 (.seq (.reg [(.set [(15,(.c (.v (.int .i64 0))))] [15])]) (.block 18 (.loop (.seq (.seq (.reg [(.set [(164,(.ap (.ibin .lss) [(.t 15),(.ap .llen [(.ap (.load 1 false) [(.ap (.idx a1 1) [(.t 0),(.t 14)])])])]))] [158,159,160,161,162,163,164])]) (.cond (.t 164) .skip (.exit 18))) (.seq (.block 19 (.seq (.reg [(.set [(192,(.ite (.ap .inot [(.ap (.ibin .eql) [(.ap (.load 1 false) [(.ap (.idx a3 1) [(.ap (.load 1 false) [(.ap (.idx a1 1) [(.t 0),(.t 14)])]),(.t 15)])]),(.ap (.call a0) [(.t 14),(.t 15)])])]) (.c (.v (.bool true))) (.ap .inot [(.ap (.ibin .eql) [(.ap (.load 1 false) [(.ap (.idx a3 1) [(.ap (.load 1 false) [(.ap (.idx a1 1) [(.t 5),(.t 14)])]),(.t 15)])]),(.ap (.call a0) [(.t 14),(.t 15)])])])))] [167,168,169,170,171,172,173,174,175,176,177,178,179,180,181,182,183,184,185,186,187,188,189,190,191,192])]) (.cond (.t 192) (.seq (.reg [(.set [(2,(.c (.v (.bool false))))] [2])]) .ret) .skip))) (.reg [(.set [(15,(.ap (.ibin .add) [(.t 15),(.c (.v (.int .i64 1)))]))] [165,166,15])]))))))) (.reg [(.set [(14,(.ap (.ibin .add) [(.t 14),(.c (.v (.int .i64 1)))]))] [156,157,14])])))))) (.seq (.reg [(.set [(2,(.c (.v (.bool true))))] [2])]) .ret)))))))),[(.t 2)])
end Go.Proofs.Ytpmgaaalfdjikaa
namespace Go.Proofs.Ytpmgaaalfdjikaa
open Go.RowKit
set_option linter.unusedSimpArgs false
set_option linter.unusedVariables false
theorem c77nil (m : Mem) : VCm Try.prog 77 m [.nil] (bv true) (upM m):=by
  refine wcontract_m sound0 mixed is77 (by rw [nt77]; simp) ?_
  simp only [W77]
  refine wwp_cutW (wf_initM _ _) (NlA m) (by simp [NlA]; exact fun t o h=>h) fun σ W h=>?_
  refine nil_loop W h (by decide) fun σ W h=>?_
  refine nil_mks W h fun σ W h=>?_
  refine nil_loop W h (by decide) fun σ W h=>nil_loop W h (by decide) fun σ W h=>nil_loop W h (by decide) fun σ W h=>nil_loop W h (by decide) fun σ W h=>?_
  simp [h.1]
  exact h.2
theorem c86nil (m : Mem) : VCm Try.prog 86 m [.nil] (bv true) (upM m):=by
  refine wcontract_m sound0 mixed is86 (by rw [nt86]; simp) ?_
  simp only [W86]
  refine wwp_cutW (wf_initM _ _) (NlA m) (by simp [NlA]; exact fun t o h=>h) fun σ W h=>?_
  refine nil_loop W h (by decide) fun σ W h=>?_
  refine nil_mks W h fun σ W h=>?_
  refine nil_loop W h (by decide) fun σ W h=>nil_loop W h (by decide) fun σ W h=>nil_loop W h (by decide) fun σ W h=>nil_loop W h (by decide) fun σ W h=>?_
  simp [h.1]
  exact h.2
def W78 : WC × List VRes:=(.seq (.reg [.set [(2,.c (.v (.bool false)))] [2]]) (.seq (.seq (.reg [.set [(3,.c (.v (.int .i64 0)))] [3]]) (.block 0 (.loop (.seq (.seq (.reg [.set [(19,.ap (.ibin .lss) [.t 3,.ap .llen [.t 0]])] [16,17,18,19]]) (.cond (.t 19) .skip (.exit 0))) (.seq (.block 1 (.seq (.reg [.set [(4,.c (.v (.int .i64 0)))] [4]]) (.block 2 (.loop (.seq (.seq (.reg [.set [(28,.ap (.ibin .lss) [.t 4,.ap .llen [.ap (.load 1 false) [.ap (.idx 147 1) [.t 0,.t 3]]]])] [22,23,24,25,26,27,28]]) (.cond (.t 28) .skip (.exit 2))) (.seq (.block 3 (.reg [.set [(38,.ap (.call 95) [.t 3,.t 4]),(39,.ap (.idx 9 1) [.ap (.load 1 false) [.ap (.idx 147 1) [.t 0,.t 3]],.t 4])] [31,32,33,34,35,36,37,38,39],.stm (.eff (.store 1 (.t 39) (.t 38)) none)])) (.reg [.set [(4,.ap (.ibin .add) [.t 4,.c (.v (.int .i64 1))])] [29,30,4]]))))))) (.reg [.set [(3,.ap (.ibin .add) [.t 3,.c (.v (.int .i64 1))])] [20,21,3]])))))) (.seq (.reg [.set [(41,.ap .llen [.t 0])] [40,41],.stm (.eff (.mks 42 147 1 [.nil] (.t 41) (.t 41)) none),.set [(5,.t 42)] [5]]) (.seq (.seq (.reg [.set [(6,.c (.v (.int .i64 0)))] [6]]) (.block 4 (.loop (.seq (.seq (.reg [.set [(46,.ap (.ibin .lss) [.t 6,.ap .llen [.t 0]])] [43,44,45,46]]) (.cond (.t 46) .skip (.exit 4))) (.seq (.block 5 (.seq (.reg [.set [(7,.ap (.load 1 false) [.ap (.idx 147 1) [.t 0,.t 6]])] [49,50,51,52,7]]) (.seq (.seq (.reg [.set [(8,.c (.v (.int .i64 0)))] [8]]) (.block 6 (.loop (.seq (.seq (.reg [.set [(54,.ap (.ibin .lss) [.t 8,.c (.v (.int .i64 64))])] [53,54]]) (.cond (.t 54) .skip (.exit 6))) (.seq (.block 7 (.reg [.set [(57,.t 7),(66,.ap (.call 95) [.t 6,.ap (.ibin .add) [.ap .llen [.ap (.load 1 false) [.ap (.idx 147 1) [.t 0,.t 6]]],.t 8]])] [57,58,59,60,61,62,63,64,65,66],.stm (.eff (.lit 67 9 1 1 [.v (.string (ByteArray.mk (Array.mk [])))] [(0,1)] [.t 66]) none),.stm (.eff (.app 68 9 1 (.t 57) (.t 67)) none),.set [(7,.t 68)] [7]])) (.reg [.set [(8,.ap (.ibin .add) [.t 8,.c (.v (.int .i64 1))])] [55,56,8]])))))) (.reg [.set [(71,.t 7),(72,.ap (.idx 147 1) [.t 5,.t 6])] [69,70,71,72],.stm (.eff (.store 1 (.t 72) (.t 71)) none)])))) (.reg [.set [(6,.ap (.ibin .add) [.t 6,.c (.v (.int .i64 1))])] [47,48,6]])))))) (.seq (.seq (.reg [.set [(9,.c (.v (.int .i64 0)))] [9]]) (.block 8 (.loop (.seq (.seq (.reg [.set [(76,.ap (.ibin .lss) [.t 9,.ap .llen [.t 0]])] [73,74,75,76]]) (.cond (.t 76) .skip (.exit 8))) (.seq (.block 9 (.seq (.reg [.set [(10,.c (.v (.int .i64 0)))] [10]]) (.block 10 (.loop (.seq (.seq (.reg [.set [(85,.ap (.ibin .lss) [.t 10,.ap .llen [.ap (.load 1 false) [.ap (.idx 147 1) [.t 5,.t 9]]]])] [79,80,81,82,83,84,85]]) (.cond (.t 85) .skip (.exit 10))) (.seq (.block 11 (.seq (.reg [.set [(122,.ite (.ap .inot [.ap (.seq false) [.ap (.load 1 false) [.ap (.idx 9 1) [.ap (.load 1 false) [.ap (.idx 147 1) [.t 5,.t 9]],.t 10]],.ap (.call 95) [.t 9,.t 10]]]) (.c (.v (.bool true))) (.ite (.ap (.ibin .lss) [.t 10,.ap .llen [.ap (.load 1 false) [.ap (.idx 147 1) [.t 0,.t 9]]]]) (.ap .inot [.ap (.seq false) [.ap (.load 1 false) [.ap (.idx 9 1) [.ap (.load 1 false) [.ap (.idx 147 1) [.t 0,.t 9]],.t 10]],.ap (.call 95) [.t 9,.t 10]]]) (.c (.v (.bool false)))))] [88,89,90,91,92,93,94,95,96,97,98,99,100,101,102,103,104,105,106,107,108,109,110,111,112,113,114,115,116,117,118,119,120,121,122]]) (.cond (.t 122) (.seq (.reg [.set [(2,.c (.v (.bool false)))] [2]]) .ret) .skip))) (.reg [.set [(10,.ap (.ibin .add) [.t 10,.c (.v (.int .i64 1))])] [86,87,10]]))))))) (.reg [.set [(9,.ap (.ibin .add) [.t 9,.c (.v (.int .i64 1))])] [77,78,9]])))))) (.seq (.seq (.reg [.set [(11,.c (.v (.int .i64 0)))] [11]]) (.block 12 (.loop (.seq (.seq (.reg [.set [(126,.ap (.ibin .lss) [.t 11,.ap .llen [.t 0]])] [123,124,125,126]]) (.cond (.t 126) .skip (.exit 12))) (.seq (.block 13 (.seq (.reg [.stm (.eff (.mks 129 9 1 [.v (.string (ByteArray.mk (Array.mk [])))] (.c (.v (.int .i64 64))) (.c (.v (.int .i64 64)))) none),.set [(12,.t 129)] [12]]) (.seq (.seq (.reg [.set [(13,.c (.v (.int .i64 0)))] [13]]) (.block 14 (.loop (.seq (.seq (.reg [.set [(131,.ap (.ibin .lss) [.t 13,.c (.v (.int .i64 64))])] [130,131]]) (.cond (.t 131) .skip (.exit 14))) (.seq (.block 15 (.reg [.set [(141,.ap (.call 95) [.ap (.ibin .add) [.t 11,.ap .llen [.t 0]],.t 13]),(142,.ap (.idx 9 1) [.t 12,.t 13])] [134,135,136,137,138,139,140,141,142],.stm (.eff (.store 1 (.t 142) (.t 141)) none)])) (.reg [.set [(13,.ap (.ibin .add) [.t 13,.c (.v (.int .i64 1))])] [132,133,13]])))))) (.reg [.set [(143,.t 5),(144,.t 11),(148,.ap (.load 1 false) [.ap (.idx 147 1) [.t 0,.t 11]]),(149,.t 12)] [143,144,145,146,147,148,149],.stm (.eff (.app 150 9 1 (.t 148) (.t 149)) none),.set [(151,.ap (.idx 147 1) [.t 143,.t 144])] [151],.stm (.eff (.store 1 (.t 151) (.t 150)) none)])))) (.reg [.set [(11,.ap (.ibin .add) [.t 11,.c (.v (.int .i64 1))])] [127,128,11]])))))) (.seq (.seq (.reg [.set [(14,.c (.v (.int .i64 0)))] [14]]) (.block 16 (.loop (.seq (.seq (.reg [.set [(155,.ap (.ibin .lss) [.t 14,.ap .llen [.t 0]])] [152,153,154,155]]) (.cond (.t 155) .skip (.exit 16))) (.seq (.block 17 (.seq (.reg [.set [(15,.c (.v (.int .i64 0)))] [15]]) (.block 18 (.loop (.seq (.seq (.reg [.set [(164,.ap (.ibin .lss) [.t 15,.ap .llen [.ap (.load 1 false) [.ap (.idx 147 1) [.t 0,.t 14]]]])] [158,159,160,161,162,163,164]]) (.cond (.t 164) .skip (.exit 18))) (.seq (.block 19 (.seq (.reg [.set [(192,.ite (.ap .inot [.ap (.seq false) [.ap (.load 1 false) [.ap (.idx 9 1) [.ap (.load 1 false) [.ap (.idx 147 1) [.t 0,.t 14]],.t 15]],.ap (.call 95) [.t 14,.t 15]]]) (.c (.v (.bool true))) (.ap .inot [.ap (.seq false) [.ap (.load 1 false) [.ap (.idx 9 1) [.ap (.load 1 false) [.ap (.idx 147 1) [.t 5,.t 14]],.t 15]],.ap (.call 95) [.t 14,.t 15]]]))] [167,168,169,170,171,172,173,174,175,176,177,178,179,180,181,182,183,184,185,186,187,188,189,190,191,192]]) (.cond (.t 192) (.seq (.reg [.set [(2,.c (.v (.bool false)))] [2]]) .ret) .skip))) (.reg [.set [(15,.ap (.ibin .add) [.t 15,.c (.v (.int .i64 1))])] [165,166,15]]))))))) (.reg [.set [(14,.ap (.ibin .add) [.t 14,.c (.v (.int .i64 1))])] [156,157,14]])))))) (.seq (.reg [.set [(2,.c (.v (.bool true)))] [2]]) .ret))))))),[.t 2])
theorem is78 : IsFn Try.prog frOf 78 Try.f78 W78:=⟨by kernel_rfl,by kernel_rfl,by kernel_rfl⟩
theorem nt78 : Try.f78.ntmps = 193:=by kernel_rfl
theorem c78nil (m : Mem) : VCm Try.prog 78 m [.nil] (bv true) (upM m):=by
  refine wcontract_m sound0 mixed is78 (by rw [nt78]; simp) ?_
  simp only [W78]
  refine wwp_cutW (wf_initM _ _) (NlA m) (by simp [NlA]; exact fun t o h=>h) fun σ W h=>?_
  refine nil_loop W h (by decide) fun σ W h=>?_
  refine nil_mks W h fun σ W h=>?_
  refine nil_loop W h (by decide) fun σ W h=>nil_loop W h (by decide) fun σ W h=>nil_loop W h (by decide) fun σ W h=>nil_loop W h (by decide) fun σ W h=>?_
  simp [h.1]
  exact h.2
def W79 : WC × List VRes:=WLs 96 28 .u8 5
theorem is79 : IsFn Try.prog frOf 79 Try.f79 W79:=⟨by kernel_rfl,by kernel_rfl,by kernel_rfl⟩
theorem nt79 : Try.f79.ntmps = 193:=by kernel_rfl
theorem c79nil (m : Mem) : VCm Try.prog 79 m [.nil] (bv true) (upM m):=by
  refine wcontract_m sound0 mixed is79 (by rw [nt79]; simp) ?_
  simp only [W79,WLs]
  refine wwp_cutW (wf_initM _ _) (NlA m) (by simp [NlA]; exact fun t o h=>h) fun σ W h=>?_
  refine nil_loop W h (by decide) fun σ W h=>?_
  refine nil_mks W h fun σ W h=>?_
  refine nil_loop W h (by decide) fun σ W h=>nil_loop W h (by decide) fun σ W h=>nil_loop W h (by decide) fun σ W h=>nil_loop W h (by decide) fun σ W h=>?_
  simp [h.1]
  exact h.2
def W80 : WC × List VRes:=WLs 97 150 .u64 151
theorem is80 : IsFn Try.prog frOf 80 Try.f80 W80:=⟨by kernel_rfl,by kernel_rfl,by kernel_rfl⟩
theorem nt80 : Try.f80.ntmps = 193:=by kernel_rfl
theorem c80nil (m : Mem) : VCm Try.prog 80 m [.nil] (bv true) (upM m):=by
  refine wcontract_m sound0 mixed is80 (by rw [nt80]; simp) ?_
  simp only [W80,WLs]
  refine wwp_cutW (wf_initM _ _) (NlA m) (by simp [NlA]; exact fun t o h=>h) fun σ W h=>?_
  refine nil_loop W h (by decide) fun σ W h=>?_
  refine nil_mks W h fun σ W h=>?_
  refine nil_loop W h (by decide) fun σ W h=>nil_loop W h (by decide) fun σ W h=>nil_loop W h (by decide) fun σ W h=>nil_loop W h (by decide) fun σ W h=>?_
  simp [h.1]
  exact h.2
def W81 : WC × List VRes:=(.seq (.reg [.set [(2,.c (.v (.bool false)))] [2]]) (.seq (.seq (.reg [.set [(3,.c (.v (.int .i64 0)))] [3]]) (.block 0 (.loop (.seq (.seq (.reg [.set [(19,.ap (.ibin .lss) [.t 3,.ap .llen [.t 0]])] [16,17,18,19]]) (.cond (.t 19) .skip (.exit 0))) (.seq (.block 1 (.seq (.reg [.set [(4,.c (.v (.int .i64 0)))] [4]]) (.block 2 (.loop (.seq (.seq (.reg [.set [(28,.ap (.ibin .lss) [.t 4,.ap .llen [.ap (.load 1 false) [.ap (.idx 153 1) [.t 0,.t 3]]]])] [22,23,24,25,26,27,28]]) (.cond (.t 28) .skip (.exit 2))) (.seq (.block 3 (.reg [.set [(38,.ap (.call 98) [.t 3,.t 4]),(39,.ap (.idx 155 4) [.ap (.load 1 false) [.ap (.idx 153 1) [.t 0,.t 3]],.t 4])] [31,32,33,34,35,36,37,38,39],.stm (.eff (.store 4 (.t 39) (.t 38)) none)])) (.reg [.set [(4,.ap (.ibin .add) [.t 4,.c (.v (.int .i64 1))])] [29,30,4]]))))))) (.reg [.set [(3,.ap (.ibin .add) [.t 3,.c (.v (.int .i64 1))])] [20,21,3]])))))) (.seq (.reg [.set [(41,.ap .llen [.t 0])] [40,41],.stm (.eff (.mks 42 153 1 [.nil] (.t 41) (.t 41)) none),.set [(5,.t 42)] [5]]) (.seq (.seq (.reg [.set [(6,.c (.v (.int .i64 0)))] [6]]) (.block 4 (.loop (.seq (.seq (.reg [.set [(46,.ap (.ibin .lss) [.t 6,.ap .llen [.t 0]])] [43,44,45,46]]) (.cond (.t 46) .skip (.exit 4))) (.seq (.block 5 (.seq (.reg [.set [(7,.ap (.load 1 false) [.ap (.idx 153 1) [.t 0,.t 6]])] [49,50,51,52,7]]) (.seq (.seq (.reg [.set [(8,.c (.v (.int .i64 0)))] [8]]) (.block 6 (.loop (.seq (.seq (.reg [.set [(54,.ap (.ibin .lss) [.t 8,.c (.v (.int .i64 64))])] [53,54]]) (.cond (.t 54) .skip (.exit 6))) (.seq (.block 7 (.reg [.set [(57,.t 7),(66,.ap (.call 98) [.t 6,.ap (.ibin .add) [.ap .llen [.ap (.load 1 false) [.ap (.idx 153 1) [.t 0,.t 6]]],.t 8]])] [57,58,59,60,61,62,63,64,65,66],.stm (.eff (.lit 67 155 4 1 [.v (.int .u64 0),.v (.int .u64 0),.v (.int .u64 0),.v (.int .u64 0)] [(0,4)] [.t 66]) none),.stm (.eff (.app 68 155 4 (.t 57) (.t 67)) none),.set [(7,.t 68)] [7]])) (.reg [.set [(8,.ap (.ibin .add) [.t 8,.c (.v (.int .i64 1))])] [55,56,8]])))))) (.reg [.set [(71,.t 7),(72,.ap (.idx 153 1) [.t 5,.t 6])] [69,70,71,72],.stm (.eff (.store 1 (.t 72) (.t 71)) none)])))) (.reg [.set [(6,.ap (.ibin .add) [.t 6,.c (.v (.int .i64 1))])] [47,48,6]])))))) (.seq (.seq (.reg [.set [(9,.c (.v (.int .i64 0)))] [9]]) (.block 8 (.loop (.seq (.seq (.reg [.set [(76,.ap (.ibin .lss) [.t 9,.ap .llen [.t 0]])] [73,74,75,76]]) (.cond (.t 76) .skip (.exit 8))) (.seq (.block 9 (.seq (.reg [.set [(10,.c (.v (.int .i64 0)))] [10]]) (.block 10 (.loop (.seq (.seq (.reg [.set [(85,.ap (.ibin .lss) [.t 10,.ap .llen [.ap (.load 1 false) [.ap (.idx 153 1) [.t 5,.t 9]]]])] [79,80,81,82,83,84,85]]) (.cond (.t 85) .skip (.exit 10))) (.seq (.block 11 (.seq (.reg [.set [(94,.ap (.load 4 true) [.ap (.idx 155 4) [.ap (.load 1 false) [.ap (.idx 153 1) [.t 5,.t 9]],.t 10]]),(97,.ap (.call 98) [.t 9,.t 10])] [88,89,90,91,92,93,94,95,96,97],.stm .bad,.stm (.op 99 .inot [.t 98] none),.stm (.op 100 .mv [.t 99] none),.stm (.op 101 .mv [.t 10] (some (100,false))),.stm (.op 102 .mv [.t 0] (some (100,false))),.stm (.op 103 .mv [.t 9] (some (100,false))),.stm (.op 104 (.idx 153 1) [.t 102,.t 103] (some (100,false))),.stm (.op 105 (.load 1 false) [.t 104] (some (100,false))),.stm (.op 106 .llen [.t 105] (some (100,false))),.stm (.op 107 (.ibin .lss) [.t 101,.t 106] (some (100,false))),.stm (.op 108 .mv [.t 107] (some (100,false))),.stm (.op 109 .mv [.t 0] (some (108,true))),.stm (.op 110 .mv [.t 9] (some (108,true))),.stm (.op 111 (.idx 153 1) [.t 109,.t 110] (some (108,true))),.stm (.op 112 (.load 1 false) [.t 111] (some (108,true))),.stm (.op 113 .mv [.t 10] (some (108,true))),.stm (.op 114 (.idx 155 4) [.t 112,.t 113] (some (108,true))),.stm (.op 115 (.load 4 true) [.t 114] (some (108,true))),.stm (.op 116 .mv [.t 9] (some (108,true))),.stm (.op 117 .mv [.t 10] (some (108,true))),.stm (.op 118 (.call 98) [.t 116,.t 117] (some (108,true))),.stm .bad,.stm (.op 120 .inot [.t 119] (some (108,true))),.stm (.op 121 .pick [.t 108,.t 120,.c (.v (.bool false))] (some (100,false))),.stm (.op 122 .pick [.t 100,.c (.v (.bool true)),.t 121] none)]) (.cond (.t 122) (.seq (.reg [.set [(2,.c (.v (.bool false)))] [2]]) .ret) .skip))) (.reg [.set [(10,.ap (.ibin .add) [.t 10,.c (.v (.int .i64 1))])] [86,87,10]]))))))) (.reg [.set [(9,.ap (.ibin .add) [.t 9,.c (.v (.int .i64 1))])] [77,78,9]])))))) (.seq (.seq (.reg [.set [(11,.c (.v (.int .i64 0)))] [11]]) (.block 12 (.loop (.seq (.seq (.reg [.set [(126,.ap (.ibin .lss) [.t 11,.ap .llen [.t 0]])] [123,124,125,126]]) (.cond (.t 126) .skip (.exit 12))) (.seq (.block 13 (.seq (.reg [.stm (.eff (.mks 129 155 4 [.v (.int .u64 0),.v (.int .u64 0),.v (.int .u64 0),.v (.int .u64 0)] (.c (.v (.int .i64 64))) (.c (.v (.int .i64 64)))) none),.set [(12,.t 129)] [12]]) (.seq (.seq (.reg [.set [(13,.c (.v (.int .i64 0)))] [13]]) (.block 14 (.loop (.seq (.seq (.reg [.set [(131,.ap (.ibin .lss) [.t 13,.c (.v (.int .i64 64))])] [130,131]]) (.cond (.t 131) .skip (.exit 14))) (.seq (.block 15 (.reg [.set [(141,.ap (.call 98) [.ap (.ibin .add) [.t 11,.ap .llen [.t 0]],.t 13]),(142,.ap (.idx 155 4) [.t 12,.t 13])] [134,135,136,137,138,139,140,141,142],.stm (.eff (.store 4 (.t 142) (.t 141)) none)])) (.reg [.set [(13,.ap (.ibin .add) [.t 13,.c (.v (.int .i64 1))])] [132,133,13]])))))) (.reg [.set [(143,.t 5),(144,.t 11),(148,.ap (.load 1 false) [.ap (.idx 153 1) [.t 0,.t 11]]),(149,.t 12)] [143,144,145,146,147,148,149],.stm (.eff (.app 150 155 4 (.t 148) (.t 149)) none),.set [(151,.ap (.idx 153 1) [.t 143,.t 144])] [151],.stm (.eff (.store 1 (.t 151) (.t 150)) none)])))) (.reg [.set [(11,.ap (.ibin .add) [.t 11,.c (.v (.int .i64 1))])] [127,128,11]])))))) (.seq (.seq (.reg [.set [(14,.c (.v (.int .i64 0)))] [14]]) (.block 16 (.loop (.seq (.seq (.reg [.set [(155,.ap (.ibin .lss) [.t 14,.ap .llen [.t 0]])] [152,153,154,155]]) (.cond (.t 155) .skip (.exit 16))) (.seq (.block 17 (.seq (.reg [.set [(15,.c (.v (.int .i64 0)))] [15]]) (.block 18 (.loop (.seq (.seq (.reg [.set [(164,.ap (.ibin .lss) [.t 15,.ap .llen [.ap (.load 1 false) [.ap (.idx 153 1) [.t 0,.t 14]]]])] [158,159,160,161,162,163,164]]) (.cond (.t 164) .skip (.exit 18))) (.seq (.block 19 (.seq (.reg [.set [(173,.ap (.load 4 true) [.ap (.idx 155 4) [.ap (.load 1 false) [.ap (.idx 153 1) [.t 0,.t 14]],.t 15]]),(176,.ap (.call 98) [.t 14,.t 15])] [167,168,169,170,171,172,173,174,175,176],.stm .bad,.stm (.op 178 .inot [.t 177] none),.stm (.op 179 .mv [.t 178] none),.stm (.op 180 .mv [.t 5] (some (179,false))),.stm (.op 181 .mv [.t 14] (some (179,false))),.stm (.op 182 (.idx 153 1) [.t 180,.t 181] (some (179,false))),.stm (.op 183 (.load 1 false) [.t 182] (some (179,false))),.stm (.op 184 .mv [.t 15] (some (179,false))),.stm (.op 185 (.idx 155 4) [.t 183,.t 184] (some (179,false))),.stm (.op 186 (.load 4 true) [.t 185] (some (179,false))),.stm (.op 187 .mv [.t 14] (some (179,false))),.stm (.op 188 .mv [.t 15] (some (179,false))),.stm (.op 189 (.call 98) [.t 187,.t 188] (some (179,false))),.stm .bad,.stm (.op 191 .inot [.t 190] (some (179,false))),.stm (.op 192 .pick [.t 179,.c (.v (.bool true)),.t 191] none)]) (.cond (.t 192) (.seq (.reg [.set [(2,.c (.v (.bool false)))] [2]]) .ret) .skip))) (.reg [.set [(15,.ap (.ibin .add) [.t 15,.c (.v (.int .i64 1))])] [165,166,15]]))))))) (.reg [.set [(14,.ap (.ibin .add) [.t 14,.c (.v (.int .i64 1))])] [156,157,14]])))))) (.seq (.reg [.set [(2,.c (.v (.bool true)))] [2]]) .ret))))))),[.t 2])
theorem is81 : IsFn Try.prog frOf 81 Try.f81 W81:=⟨by kernel_rfl,by kernel_rfl,by kernel_rfl⟩
theorem nt81 : Try.f81.ntmps = 193:=by kernel_rfl
theorem c81nil (m : Mem) : VCm Try.prog 81 m [.nil] (bv true) (upM m):=by
  refine wcontract_m sound0 mixed is81 (by rw [nt81]; simp) ?_
  simp only [W81]
  refine wwp_cutW (wf_initM _ _) (NlA m) (by simp [NlA]; exact fun t o h=>h) fun σ W h=>?_
  refine nil_loop W h (by decide) fun σ W h=>?_
  refine nil_mks W h fun σ W h=>?_
  refine nil_loop W h (by decide) fun σ W h=>nil_loop W h (by decide) fun σ W h=>nil_loop W h (by decide) fun σ W h=>nil_loop W h (by decide) fun σ W h=>?_
  simp [h.1]
  exact h.2
end Go.Proofs.Ytpmgaaalfdjikaa
namespace Go.Proofs.Ytpmgaaalfdjikaa
open Go.RowKit
set_option linter.unusedSimpArgs false
set_option linter.unusedVariables false
def W82 : WC × List VRes:=(.seq (.reg [.set [(2,.c (.v (.bool false)))] [2]]) (.seq (.seq (.reg [.set [(3,.c (.v (.int .i64 0)))] [3]]) (.block 0 (.loop (.seq (.seq (.reg [.set [(19,.ap (.ibin .lss) [.t 3,.ap .llen [.t 0]])] [16,17,18,19]]) (.cond (.t 19) .skip (.exit 0))) (.seq (.block 1 (.seq (.reg [.set [(4,.c (.v (.int .i64 0)))] [4]]) (.block 2 (.loop (.seq (.seq (.reg [.set [(28,.ap (.ibin .lss) [.t 4,.ap .llen [.ap (.load 1 false) [.ap (.idx 157 1) [.t 0,.t 3]]]])] [22,23,24,25,26,27,28]]) (.cond (.t 28) .skip (.exit 2))) (.seq (.block 3 (.reg [.set [(38,.ap (.call 99) [.t 3,.t 4]),(39,.ap (.idx 159 2) [.ap (.load 1 false) [.ap (.idx 157 1) [.t 0,.t 3]],.t 4])] [31,32,33,34,35,36,37,38,39],.stm (.eff (.store 2 (.t 39) (.t 38)) none)])) (.reg [.set [(4,.ap (.ibin .add) [.t 4,.c (.v (.int .i64 1))])] [29,30,4]]))))))) (.reg [.set [(3,.ap (.ibin .add) [.t 3,.c (.v (.int .i64 1))])] [20,21,3]])))))) (.seq (.reg [.set [(41,.ap .llen [.t 0])] [40,41],.stm (.eff (.mks 42 157 1 [.nil] (.t 41) (.t 41)) none),.set [(5,.t 42)] [5]]) (.seq (.seq (.reg [.set [(6,.c (.v (.int .i64 0)))] [6]]) (.block 4 (.loop (.seq (.seq (.reg [.set [(46,.ap (.ibin .lss) [.t 6,.ap .llen [.t 0]])] [43,44,45,46]]) (.cond (.t 46) .skip (.exit 4))) (.seq (.block 5 (.seq (.reg [.set [(7,.ap (.load 1 false) [.ap (.idx 157 1) [.t 0,.t 6]])] [49,50,51,52,7]]) (.seq (.seq (.reg [.set [(8,.c (.v (.int .i64 0)))] [8]]) (.block 6 (.loop (.seq (.seq (.reg [.set [(54,.ap (.ibin .lss) [.t 8,.c (.v (.int .i64 64))])] [53,54]]) (.cond (.t 54) .skip (.exit 6))) (.seq (.block 7 (.reg [.set [(57,.t 7),(66,.ap (.call 99) [.t 6,.ap (.ibin .add) [.ap .llen [.ap (.load 1 false) [.ap (.idx 157 1) [.t 0,.t 6]]],.t 8]])] [57,58,59,60,61,62,63,64,65,66],.stm (.eff (.lit 67 159 2 1 [.v (.int .i64 0),.v (.int .i64 0)] [(0,2)] [.t 66]) none),.stm (.eff (.app 68 159 2 (.t 57) (.t 67)) none),.set [(7,.t 68)] [7]])) (.reg [.set [(8,.ap (.ibin .add) [.t 8,.c (.v (.int .i64 1))])] [55,56,8]])))))) (.reg [.set [(71,.t 7),(72,.ap (.idx 157 1) [.t 5,.t 6])] [69,70,71,72],.stm (.eff (.store 1 (.t 72) (.t 71)) none)])))) (.reg [.set [(6,.ap (.ibin .add) [.t 6,.c (.v (.int .i64 1))])] [47,48,6]])))))) (.seq (.seq (.reg [.set [(9,.c (.v (.int .i64 0)))] [9]]) (.block 8 (.loop (.seq (.seq (.reg [.set [(76,.ap (.ibin .lss) [.t 9,.ap .llen [.t 0]])] [73,74,75,76]]) (.cond (.t 76) .skip (.exit 8))) (.seq (.block 9 (.seq (.reg [.set [(10,.c (.v (.int .i64 0)))] [10]]) (.block 10 (.loop (.seq (.seq (.reg [.set [(85,.ap (.ibin .lss) [.t 10,.ap .llen [.ap (.load 1 false) [.ap (.idx 157 1) [.t 5,.t 9]]]])] [79,80,81,82,83,84,85]]) (.cond (.t 85) .skip (.exit 10))) (.seq (.block 11 (.seq (.reg [.set [(122,.ite (.ap .inot [.ap (.aeq false [3,3]) [.ap (.load 2 true) [.ap (.idx 159 2) [.ap (.load 1 false) [.ap (.idx 157 1) [.t 5,.t 9]],.t 10]],.ap (.call 99) [.t 9,.t 10]]]) (.c (.v (.bool true))) (.ite (.ap (.ibin .lss) [.t 10,.ap .llen [.ap (.load 1 false) [.ap (.idx 157 1) [.t 0,.t 9]]]]) (.ap .inot [.ap (.aeq false [3,3]) [.ap (.load 2 true) [.ap (.idx 159 2) [.ap (.load 1 false) [.ap (.idx 157 1) [.t 0,.t 9]],.t 10]],.ap (.call 99) [.t 9,.t 10]]]) (.c (.v (.bool false)))))] [88,89,90,91,92,93,94,95,96,97,98,99,100,101,102,103,104,105,106,107,108,109,110,111,112,113,114,115,116,117,118,119,120,121,122]]) (.cond (.t 122) (.seq (.reg [.set [(2,.c (.v (.bool false)))] [2]]) .ret) .skip))) (.reg [.set [(10,.ap (.ibin .add) [.t 10,.c (.v (.int .i64 1))])] [86,87,10]]))))))) (.reg [.set [(9,.ap (.ibin .add) [.t 9,.c (.v (.int .i64 1))])] [77,78,9]])))))) (.seq (.seq (.reg [.set [(11,.c (.v (.int .i64 0)))] [11]]) (.block 12 (.loop (.seq (.seq (.reg [.set [(126,.ap (.ibin .lss) [.t 11,.ap .llen [.t 0]])] [123,124,125,126]]) (.cond (.t 126) .skip (.exit 12))) (.seq (.block 13 (.seq (.reg [.stm (.eff (.mks 129 159 2 [.v (.int .i64 0),.v (.int .i64 0)] (.c (.v (.int .i64 64))) (.c (.v (.int .i64 64)))) none),.set [(12,.t 129)] [12]]) (.seq (.seq (.reg [.set [(13,.c (.v (.int .i64 0)))] [13]]) (.block 14 (.loop (.seq (.seq (.reg [.set [(131,.ap (.ibin .lss) [.t 13,.c (.v (.int .i64 64))])] [130,131]]) (.cond (.t 131) .skip (.exit 14))) (.seq (.block 15 (.reg [.set [(141,.ap (.call 99) [.ap (.ibin .add) [.t 11,.ap .llen [.t 0]],.t 13]),(142,.ap (.idx 159 2) [.t 12,.t 13])] [134,135,136,137,138,139,140,141,142],.stm (.eff (.store 2 (.t 142) (.t 141)) none)])) (.reg [.set [(13,.ap (.ibin .add) [.t 13,.c (.v (.int .i64 1))])] [132,133,13]])))))) (.reg [.set [(143,.t 5),(144,.t 11),(148,.ap (.load 1 false) [.ap (.idx 157 1) [.t 0,.t 11]]),(149,.t 12)] [143,144,145,146,147,148,149],.stm (.eff (.app 150 159 2 (.t 148) (.t 149)) none),.set [(151,.ap (.idx 157 1) [.t 143,.t 144])] [151],.stm (.eff (.store 1 (.t 151) (.t 150)) none)])))) (.reg [.set [(11,.ap (.ibin .add) [.t 11,.c (.v (.int .i64 1))])] [127,128,11]])))))) (.seq (.seq (.reg [.set [(14,.c (.v (.int .i64 0)))] [14]]) (.block 16 (.loop (.seq (.seq (.reg [.set [(155,.ap (.ibin .lss) [.t 14,.ap .llen [.t 0]])] [152,153,154,155]]) (.cond (.t 155) .skip (.exit 16))) (.seq (.block 17 (.seq (.reg [.set [(15,.c (.v (.int .i64 0)))] [15]]) (.block 18 (.loop (.seq (.seq (.reg [.set [(164,.ap (.ibin .lss) [.t 15,.ap .llen [.ap (.load 1 false) [.ap (.idx 157 1) [.t 0,.t 14]]]])] [158,159,160,161,162,163,164]]) (.cond (.t 164) .skip (.exit 18))) (.seq (.block 19 (.seq (.reg [.set [(192,.ite (.ap .inot [.ap (.aeq false [3,3]) [.ap (.load 2 true) [.ap (.idx 159 2) [.ap (.load 1 false) [.ap (.idx 157 1) [.t 0,.t 14]],.t 15]],.ap (.call 99) [.t 14,.t 15]]]) (.c (.v (.bool true))) (.ap .inot [.ap (.aeq false [3,3]) [.ap (.load 2 true) [.ap (.idx 159 2) [.ap (.load 1 false) [.ap (.idx 157 1) [.t 5,.t 14]],.t 15]],.ap (.call 99) [.t 14,.t 15]]]))] [167,168,169,170,171,172,173,174,175,176,177,178,179,180,181,182,183,184,185,186,187,188,189,190,191,192]]) (.cond (.t 192) (.seq (.reg [.set [(2,.c (.v (.bool false)))] [2]]) .ret) .skip))) (.reg [.set [(15,.ap (.ibin .add) [.t 15,.c (.v (.int .i64 1))])] [165,166,15]]))))))) (.reg [.set [(14,.ap (.ibin .add) [.t 14,.c (.v (.int .i64 1))])] [156,157,14]])))))) (.seq (.reg [.set [(2,.c (.v (.bool true)))] [2]]) .ret))))))),[.t 2])
theorem is82 : IsFn Try.prog frOf 82 Try.f82 W82:=⟨by kernel_rfl,by kernel_rfl,by kernel_rfl⟩
theorem nt82 : Try.f82.ntmps = 193:=by kernel_rfl
theorem c82nil (m : Mem) : VCm Try.prog 82 m [.nil] (bv true) (upM m):=by
  refine wcontract_m sound0 mixed is82 (by rw [nt82]; simp) ?_
  simp only [W82]
  refine wwp_cutW (wf_initM _ _) (NlA m) (by simp [NlA]; exact fun t o h=>h) fun σ W h=>?_
  refine nil_loop W h (by decide) fun σ W h=>?_
  refine nil_mks W h fun σ W h=>?_
  refine nil_loop W h (by decide) fun σ W h=>nil_loop W h (by decide) fun σ W h=>nil_loop W h (by decide) fun σ W h=>nil_loop W h (by decide) fun σ W h=>?_
  simp [h.1]
  exact h.2
def W83 : WC × List VRes:=(.seq (.reg [.set [(2,.c (.v (.bool false)))] [2]]) (.seq (.seq (.reg [.set [(3,.c (.v (.int .i64 0)))] [3]]) (.block 0 (.loop (.seq (.seq (.reg [.set [(19,.ap (.ibin .lss) [.t 3,.ap .llen [.t 0]])] [16,17,18,19]]) (.cond (.t 19) .skip (.exit 0))) (.seq (.block 1 (.seq (.reg [.set [(4,.c (.v (.int .i64 0)))] [4]]) (.block 2 (.loop (.seq (.seq (.reg [.set [(28,.ap (.ibin .lss) [.t 4,.ap .llen [.ap (.load 1 false) [.ap (.idx 161 1) [.t 0,.t 3]]]])] [22,23,24,25,26,27,28]]) (.cond (.t 28) .skip (.exit 2))) (.seq (.block 3 (.reg [.set [(38,.ap (.call 100) [.t 3,.t 4]),(39,.ap (.idx 163 4) [.ap (.load 1 false) [.ap (.idx 161 1) [.t 0,.t 3]],.t 4])] [31,32,33,34,35,36,37,38,39],.stm (.eff (.store 4 (.t 39) (.t 38)) none)])) (.reg [.set [(4,.ap (.ibin .add) [.t 4,.c (.v (.int .i64 1))])] [29,30,4]]))))))) (.reg [.set [(3,.ap (.ibin .add) [.t 3,.c (.v (.int .i64 1))])] [20,21,3]])))))) (.seq (.reg [.set [(41,.ap .llen [.t 0])] [40,41],.stm (.eff (.mks 42 161 1 [.nil] (.t 41) (.t 41)) none),.set [(5,.t 42)] [5]]) (.seq (.seq (.reg [.set [(6,.c (.v (.int .i64 0)))] [6]]) (.block 4 (.loop (.seq (.seq (.reg [.set [(46,.ap (.ibin .lss) [.t 6,.ap .llen [.t 0]])] [43,44,45,46]]) (.cond (.t 46) .skip (.exit 4))) (.seq (.block 5 (.seq (.reg [.set [(7,.ap (.load 1 false) [.ap (.idx 161 1) [.t 0,.t 6]])] [49,50,51,52,7]]) (.seq (.seq (.reg [.set [(8,.c (.v (.int .i64 0)))] [8]]) (.block 6 (.loop (.seq (.seq (.reg [.set [(54,.ap (.ibin .lss) [.t 8,.c (.v (.int .i64 64))])] [53,54]]) (.cond (.t 54) .skip (.exit 6))) (.seq (.block 7 (.reg [.set [(57,.t 7),(66,.ap (.call 100) [.t 6,.ap (.ibin .add) [.ap .llen [.ap (.load 1 false) [.ap (.idx 161 1) [.t 0,.t 6]]],.t 8]])] [57,58,59,60,61,62,63,64,65,66],.stm (.eff (.lit 67 163 4 1 [.v (.int .u8 0),.v (.int .u8 0),.v (.int .u8 0),.v (.int .u8 0)] [(0,4)] [.t 66]) none),.stm (.eff (.app 68 163 4 (.t 57) (.t 67)) none),.set [(7,.t 68)] [7]])) (.reg [.set [(8,.ap (.ibin .add) [.t 8,.c (.v (.int .i64 1))])] [55,56,8]])))))) (.reg [.set [(71,.t 7),(72,.ap (.idx 161 1) [.t 5,.t 6])] [69,70,71,72],.stm (.eff (.store 1 (.t 72) (.t 71)) none)])))) (.reg [.set [(6,.ap (.ibin .add) [.t 6,.c (.v (.int .i64 1))])] [47,48,6]])))))) (.seq (.seq (.reg [.set [(9,.c (.v (.int .i64 0)))] [9]]) (.block 8 (.loop (.seq (.seq (.reg [.set [(76,.ap (.ibin .lss) [.t 9,.ap .llen [.t 0]])] [73,74,75,76]]) (.cond (.t 76) .skip (.exit 8))) (.seq (.block 9 (.seq (.reg [.set [(10,.c (.v (.int .i64 0)))] [10]]) (.block 10 (.loop (.seq (.seq (.reg [.set [(85,.ap (.ibin .lss) [.t 10,.ap .llen [.ap (.load 1 false) [.ap (.idx 161 1) [.t 5,.t 9]]]])] [79,80,81,82,83,84,85]]) (.cond (.t 85) .skip (.exit 10))) (.seq (.block 11 (.seq (.reg [.set [(122,.ite (.ap .inot [.ap (.aeq false [4,4,4,4]) [.ap (.load 4 true) [.ap (.idx 163 4) [.ap (.load 1 false) [.ap (.idx 161 1) [.t 5,.t 9]],.t 10]],.ap (.call 100) [.t 9,.t 10]]]) (.c (.v (.bool true))) (.ite (.ap (.ibin .lss) [.t 10,.ap .llen [.ap (.load 1 false) [.ap (.idx 161 1) [.t 0,.t 9]]]]) (.ap .inot [.ap (.aeq false [4,4,4,4]) [.ap (.load 4 true) [.ap (.idx 163 4) [.ap (.load 1 false) [.ap (.idx 161 1) [.t 0,.t 9]],.t 10]],.ap (.call 100) [.t 9,.t 10]]]) (.c (.v (.bool false)))))] [88,89,90,91,92,93,94,95,96,97,98,99,100,101,102,103,104,105,106,107,108,109,110,111,112,113,114,115,116,117,118,119,120,121,122]]) (.cond (.t 122) (.seq (.reg [.set [(2,.c (.v (.bool false)))] [2]]) .ret) .skip))) (.reg [.set [(10,.ap (.ibin .add) [.t 10,.c (.v (.int .i64 1))])] [86,87,10]]))))))) (.reg [.set [(9,.ap (.ibin .add) [.t 9,.c (.v (.int .i64 1))])] [77,78,9]])))))) (.seq (.seq (.reg [.set [(11,.c (.v (.int .i64 0)))] [11]]) (.block 12 (.loop (.seq (.seq (.reg [.set [(126,.ap (.ibin .lss) [.t 11,.ap .llen [.t 0]])] [123,124,125,126]]) (.cond (.t 126) .skip (.exit 12))) (.seq (.block 13 (.seq (.reg [.stm (.eff (.mks 129 163 4 [.v (.int .u8 0),.v (.int .u8 0),.v (.int .u8 0),.v (.int .u8 0)] (.c (.v (.int .i64 64))) (.c (.v (.int .i64 64)))) none),.set [(12,.t 129)] [12]]) (.seq (.seq (.reg [.set [(13,.c (.v (.int .i64 0)))] [13]]) (.block 14 (.loop (.seq (.seq (.reg [.set [(131,.ap (.ibin .lss) [.t 13,.c (.v (.int .i64 64))])] [130,131]]) (.cond (.t 131) .skip (.exit 14))) (.seq (.block 15 (.reg [.set [(141,.ap (.call 100) [.ap (.ibin .add) [.t 11,.ap .llen [.t 0]],.t 13]),(142,.ap (.idx 163 4) [.t 12,.t 13])] [134,135,136,137,138,139,140,141,142],.stm (.eff (.store 4 (.t 142) (.t 141)) none)])) (.reg [.set [(13,.ap (.ibin .add) [.t 13,.c (.v (.int .i64 1))])] [132,133,13]])))))) (.reg [.set [(143,.t 5),(144,.t 11),(148,.ap (.load 1 false) [.ap (.idx 161 1) [.t 0,.t 11]]),(149,.t 12)] [143,144,145,146,147,148,149],.stm (.eff (.app 150 163 4 (.t 148) (.t 149)) none),.set [(151,.ap (.idx 161 1) [.t 143,.t 144])] [151],.stm (.eff (.store 1 (.t 151) (.t 150)) none)])))) (.reg [.set [(11,.ap (.ibin .add) [.t 11,.c (.v (.int .i64 1))])] [127,128,11]])))))) (.seq (.seq (.reg [.set [(14,.c (.v (.int .i64 0)))] [14]]) (.block 16 (.loop (.seq (.seq (.reg [.set [(155,.ap (.ibin .lss) [.t 14,.ap .llen [.t 0]])] [152,153,154,155]]) (.cond (.t 155) .skip (.exit 16))) (.seq (.block 17 (.seq (.reg [.set [(15,.c (.v (.int .i64 0)))] [15]]) (.block 18 (.loop (.seq (.seq (.reg [.set [(164,.ap (.ibin .lss) [.t 15,.ap .llen [.ap (.load 1 false) [.ap (.idx 161 1) [.t 0,.t 14]]]])] [158,159,160,161,162,163,164]]) (.cond (.t 164) .skip (.exit 18))) (.seq (.block 19 (.seq (.reg [.set [(192,.ite (.ap .inot [.ap (.aeq false [4,4,4,4]) [.ap (.load 4 true) [.ap (.idx 163 4) [.ap (.load 1 false) [.ap (.idx 161 1) [.t 0,.t 14]],.t 15]],.ap (.call 100) [.t 14,.t 15]]]) (.c (.v (.bool true))) (.ap .inot [.ap (.aeq false [4,4,4,4]) [.ap (.load 4 true) [.ap (.idx 163 4) [.ap (.load 1 false) [.ap (.idx 161 1) [.t 5,.t 14]],.t 15]],.ap (.call 100) [.t 14,.t 15]]]))] [167,168,169,170,171,172,173,174,175,176,177,178,179,180,181,182,183,184,185,186,187,188,189,190,191,192]]) (.cond (.t 192) (.seq (.reg [.set [(2,.c (.v (.bool false)))] [2]]) .ret) .skip))) (.reg [.set [(15,.ap (.ibin .add) [.t 15,.c (.v (.int .i64 1))])] [165,166,15]]))))))) (.reg [.set [(14,.ap (.ibin .add) [.t 14,.c (.v (.int .i64 1))])] [156,157,14]])))))) (.seq (.reg [.set [(2,.c (.v (.bool true)))] [2]]) .ret))))))),[.t 2])
theorem is83 : IsFn Try.prog frOf 83 Try.f83 W83:=⟨by kernel_rfl,by kernel_rfl,by kernel_rfl⟩
theorem nt83 : Try.f83.ntmps = 193:=by kernel_rfl
theorem c83nil (m : Mem) : VCm Try.prog 83 m [.nil] (bv true) (upM m):=by
  refine wcontract_m sound0 mixed is83 (by rw [nt83]; simp) ?_
  simp only [W83]
  refine wwp_cutW (wf_initM _ _) (NlA m) (by simp [NlA]; exact fun t o h=>h) fun σ W h=>?_
  refine nil_loop W h (by decide) fun σ W h=>?_
  refine nil_mks W h fun σ W h=>?_
  refine nil_loop W h (by decide) fun σ W h=>nil_loop W h (by decide) fun σ W h=>nil_loop W h (by decide) fun σ W h=>nil_loop W h (by decide) fun σ W h=>?_
  simp [h.1]
  exact h.2
def W84 : WC × List VRes:=(.seq (.reg [.set [(2,.c (.v (.bool false)))] [2]]) (.seq (.seq (.reg [.set [(3,.c (.v (.int .i64 0)))] [3]]) (.block 0 (.loop (.seq (.seq (.reg [.set [(19,.ap (.ibin .lss) [.t 3,.ap .llen [.t 0]])] [16,17,18,19]]) (.cond (.t 19) .skip (.exit 0))) (.seq (.block 1 (.seq (.reg [.set [(4,.c (.v (.int .i64 0)))] [4]]) (.block 2 (.loop (.seq (.seq (.reg [.set [(28,.ap (.ibin .lss) [.t 4,.ap .llen [.ap (.load 1 false) [.ap (.idx 165 1) [.t 0,.t 3]]]])] [22,23,24,25,26,27,28]]) (.cond (.t 28) .skip (.exit 2))) (.seq (.block 3 (.reg [.set [(38,.ap (.call 101) [.t 3,.t 4]),(39,.ap (.idx 167 6) [.ap (.load 1 false) [.ap (.idx 165 1) [.t 0,.t 3]],.t 4])] [31,32,33,34,35,36,37,38,39],.stm (.eff (.store 6 (.t 39) (.t 38)) none)])) (.reg [.set [(4,.ap (.ibin .add) [.t 4,.c (.v (.int .i64 1))])] [29,30,4]]))))))) (.reg [.set [(3,.ap (.ibin .add) [.t 3,.c (.v (.int .i64 1))])] [20,21,3]])))))) (.seq (.reg [.set [(41,.ap .llen [.t 0])] [40,41],.stm (.eff (.mks 42 165 1 [.nil] (.t 41) (.t 41)) none),.set [(5,.t 42)] [5]]) (.seq (.seq (.reg [.set [(6,.c (.v (.int .i64 0)))] [6]]) (.block 4 (.loop (.seq (.seq (.reg [.set [(46,.ap (.ibin .lss) [.t 6,.ap .llen [.t 0]])] [43,44,45,46]]) (.cond (.t 46) .skip (.exit 4))) (.seq (.block 5 (.seq (.reg [.set [(7,.ap (.load 1 false) [.ap (.idx 165 1) [.t 0,.t 6]])] [49,50,51,52,7]]) (.seq (.seq (.reg [.set [(8,.c (.v (.int .i64 0)))] [8]]) (.block 6 (.loop (.seq (.seq (.reg [.set [(54,.ap (.ibin .lss) [.t 8,.c (.v (.int .i64 64))])] [53,54]]) (.cond (.t 54) .skip (.exit 6))) (.seq (.block 7 (.reg [.set [(57,.t 7),(66,.ap (.call 101) [.t 6,.ap (.ibin .add) [.ap .llen [.ap (.load 1 false) [.ap (.idx 165 1) [.t 0,.t 6]]],.t 8]])] [57,58,59,60,61,62,63,64,65,66],.stm (.eff (.lit 67 167 6 1 [.v (.int .u8 0),.v (.int .u8 0),.v (.int .u8 0),.v (.int .u8 0),.v (.int .i64 0),.v (.int .i64 0)] [(0,6)] [.t 66]) none),.stm (.eff (.app 68 167 6 (.t 57) (.t 67)) none),.set [(7,.t 68)] [7]])) (.reg [.set [(8,.ap (.ibin .add) [.t 8,.c (.v (.int .i64 1))])] [55,56,8]])))))) (.reg [.set [(71,.t 7),(72,.ap (.idx 165 1) [.t 5,.t 6])] [69,70,71,72],.stm (.eff (.store 1 (.t 72) (.t 71)) none)])))) (.reg [.set [(6,.ap (.ibin .add) [.t 6,.c (.v (.int .i64 1))])] [47,48,6]])))))) (.seq (.seq (.reg [.set [(9,.c (.v (.int .i64 0)))] [9]]) (.block 8 (.loop (.seq (.seq (.reg [.set [(76,.ap (.ibin .lss) [.t 9,.ap .llen [.t 0]])] [73,74,75,76]]) (.cond (.t 76) .skip (.exit 8))) (.seq (.block 9 (.seq (.reg [.set [(10,.c (.v (.int .i64 0)))] [10]]) (.block 10 (.loop (.seq (.seq (.reg [.set [(85,.ap (.ibin .lss) [.t 10,.ap .llen [.ap (.load 1 false) [.ap (.idx 165 1) [.t 5,.t 9]]]])] [79,80,81,82,83,84,85]]) (.cond (.t 85) .skip (.exit 10))) (.seq (.block 11 (.seq (.reg [.set [(94,.ap (.load 6 true) [.ap (.idx 167 6) [.ap (.load 1 false) [.ap (.idx 165 1) [.t 5,.t 9]],.t 10]]),(97,.ap (.call 101) [.t 9,.t 10])] [88,89,90,91,92,93,94,95,96,97],.stm .bad,.stm (.op 99 .inot [.t 98] none),.stm (.op 100 .mv [.t 99] none),.stm (.op 101 .mv [.t 10] (some (100,false))),.stm (.op 102 .mv [.t 0] (some (100,false))),.stm (.op 103 .mv [.t 9] (some (100,false))),.stm (.op 104 (.idx 165 1) [.t 102,.t 103] (some (100,false))),.stm (.op 105 (.load 1 false) [.t 104] (some (100,false))),.stm (.op 106 .llen [.t 105] (some (100,false))),.stm (.op 107 (.ibin .lss) [.t 101,.t 106] (some (100,false))),.stm (.op 108 .mv [.t 107] (some (100,false))),.stm (.op 109 .mv [.t 0] (some (108,true))),.stm (.op 110 .mv [.t 9] (some (108,true))),.stm (.op 111 (.idx 165 1) [.t 109,.t 110] (some (108,true))),.stm (.op 112 (.load 1 false) [.t 111] (some (108,true))),.stm (.op 113 .mv [.t 10] (some (108,true))),.stm (.op 114 (.idx 167 6) [.t 112,.t 113] (some (108,true))),.stm (.op 115 (.load 6 true) [.t 114] (some (108,true))),.stm (.op 116 .mv [.t 9] (some (108,true))),.stm (.op 117 .mv [.t 10] (some (108,true))),.stm (.op 118 (.call 101) [.t 116,.t 117] (some (108,true))),.stm .bad,.stm (.op 120 .inot [.t 119] (some (108,true))),.stm (.op 121 .pick [.t 108,.t 120,.c (.v (.bool false))] (some (100,false))),.stm (.op 122 .pick [.t 100,.c (.v (.bool true)),.t 121] none)]) (.cond (.t 122) (.seq (.reg [.set [(2,.c (.v (.bool false)))] [2]]) .ret) .skip))) (.reg [.set [(10,.ap (.ibin .add) [.t 10,.c (.v (.int .i64 1))])] [86,87,10]]))))))) (.reg [.set [(9,.ap (.ibin .add) [.t 9,.c (.v (.int .i64 1))])] [77,78,9]])))))) (.seq (.seq (.reg [.set [(11,.c (.v (.int .i64 0)))] [11]]) (.block 12 (.loop (.seq (.seq (.reg [.set [(126,.ap (.ibin .lss) [.t 11,.ap .llen [.t 0]])] [123,124,125,126]]) (.cond (.t 126) .skip (.exit 12))) (.seq (.block 13 (.seq (.reg [.stm (.eff (.mks 129 167 6 [.v (.int .u8 0),.v (.int .u8 0),.v (.int .u8 0),.v (.int .u8 0),.v (.int .i64 0),.v (.int .i64 0)] (.c (.v (.int .i64 64))) (.c (.v (.int .i64 64)))) none),.set [(12,.t 129)] [12]]) (.seq (.seq (.reg [.set [(13,.c (.v (.int .i64 0)))] [13]]) (.block 14 (.loop (.seq (.seq (.reg [.set [(131,.ap (.ibin .lss) [.t 13,.c (.v (.int .i64 64))])] [130,131]]) (.cond (.t 131) .skip (.exit 14))) (.seq (.block 15 (.reg [.set [(141,.ap (.call 101) [.ap (.ibin .add) [.t 11,.ap .llen [.t 0]],.t 13]),(142,.ap (.idx 167 6) [.t 12,.t 13])] [134,135,136,137,138,139,140,141,142],.stm (.eff (.store 6 (.t 142) (.t 141)) none)])) (.reg [.set [(13,.ap (.ibin .add) [.t 13,.c (.v (.int .i64 1))])] [132,133,13]])))))) (.reg [.set [(143,.t 5),(144,.t 11),(148,.ap (.load 1 false) [.ap (.idx 165 1) [.t 0,.t 11]]),(149,.t 12)] [143,144,145,146,147,148,149],.stm (.eff (.app 150 167 6 (.t 148) (.t 149)) none),.set [(151,.ap (.idx 165 1) [.t 143,.t 144])] [151],.stm (.eff (.store 1 (.t 151) (.t 150)) none)])))) (.reg [.set [(11,.ap (.ibin .add) [.t 11,.c (.v (.int .i64 1))])] [127,128,11]])))))) (.seq (.seq (.reg [.set [(14,.c (.v (.int .i64 0)))] [14]]) (.block 16 (.loop (.seq (.seq (.reg [.set [(155,.ap (.ibin .lss) [.t 14,.ap .llen [.t 0]])] [152,153,154,155]]) (.cond (.t 155) .skip (.exit 16))) (.seq (.block 17 (.seq (.reg [.set [(15,.c (.v (.int .i64 0)))] [15]]) (.block 18 (.loop (.seq (.seq (.reg [.set [(164,.ap (.ibin .lss) [.t 15,.ap .llen [.ap (.load 1 false) [.ap (.idx 165 1) [.t 0,.t 14]]]])] [158,159,160,161,162,163,164]]) (.cond (.t 164) .skip (.exit 18))) (.seq (.block 19 (.seq (.reg [.set [(173,.ap (.load 6 true) [.ap (.idx 167 6) [.ap (.load 1 false) [.ap (.idx 165 1) [.t 0,.t 14]],.t 15]]),(176,.ap (.call 101) [.t 14,.t 15])] [167,168,169,170,171,172,173,174,175,176],.stm .bad,.stm (.op 178 .inot [.t 177] none),.stm (.op 179 .mv [.t 178] none),.stm (.op 180 .mv [.t 5] (some (179,false))),.stm (.op 181 .mv [.t 14] (some (179,false))),.stm (.op 182 (.idx 165 1) [.t 180,.t 181] (some (179,false))),.stm (.op 183 (.load 1 false) [.t 182] (some (179,false))),.stm (.op 184 .mv [.t 15] (some (179,false))),.stm (.op 185 (.idx 167 6) [.t 183,.t 184] (some (179,false))),.stm (.op 186 (.load 6 true) [.t 185] (some (179,false))),.stm (.op 187 .mv [.t 14] (some (179,false))),.stm (.op 188 .mv [.t 15] (some (179,false))),.stm (.op 189 (.call 101) [.t 187,.t 188] (some (179,false))),.stm .bad,.stm (.op 191 .inot [.t 190] (some (179,false))),.stm (.op 192 .pick [.t 179,.c (.v (.bool true)),.t 191] none)]) (.cond (.t 192) (.seq (.reg [.set [(2,.c (.v (.bool false)))] [2]]) .ret) .skip))) (.reg [.set [(15,.ap (.ibin .add) [.t 15,.c (.v (.int .i64 1))])] [165,166,15]]))))))) (.reg [.set [(14,.ap (.ibin .add) [.t 14,.c (.v (.int .i64 1))])] [156,157,14]])))))) (.seq (.reg [.set [(2,.c (.v (.bool true)))] [2]]) .ret))))))),[.t 2])
theorem is84 : IsFn Try.prog frOf 84 Try.f84 W84:=⟨by kernel_rfl,by kernel_rfl,by kernel_rfl⟩
theorem nt84 : Try.f84.ntmps = 193:=by kernel_rfl
theorem c84nil (m : Mem) : VCm Try.prog 84 m [.nil] (bv true) (upM m):=by
  refine wcontract_m sound0 mixed is84 (by rw [nt84]; simp) ?_
  simp only [W84]
  refine wwp_cutW (wf_initM _ _) (NlA m) (by simp [NlA]; exact fun t o h=>h) fun σ W h=>?_
  refine nil_loop W h (by decide) fun σ W h=>?_
  refine nil_mks W h fun σ W h=>?_
  refine nil_loop W h (by decide) fun σ W h=>nil_loop W h (by decide) fun σ W h=>nil_loop W h (by decide) fun σ W h=>nil_loop W h (by decide) fun σ W h=>?_
  simp [h.1]
  exact h.2
def W85 : WC × List VRes:=(.seq (.reg [.set [(2,.c (.v (.bool false)))] [2]]) (.seq (.seq (.reg [.set [(3,.c (.v (.int .i64 0)))] [3]]) (.block 0 (.loop (.seq (.seq (.reg [.set [(19,.ap (.ibin .lss) [.t 3,.ap .llen [.t 0]])] [16,17,18,19]]) (.cond (.t 19) .skip (.exit 0))) (.seq (.block 1 (.seq (.reg [.set [(4,.c (.v (.int .i64 0)))] [4]]) (.block 2 (.loop (.seq (.seq (.reg [.set [(28,.ap (.ibin .lss) [.t 4,.ap .llen [.ap (.load 1 false) [.ap (.idx 169 1) [.t 0,.t 3]]]])] [22,23,24,25,26,27,28]]) (.cond (.t 28) .skip (.exit 2))) (.seq (.block 3 (.reg [.set [(38,.ap (.call 102) [.t 3,.t 4]),(39,.ap (.idx 172 33) [.ap (.load 1 false) [.ap (.idx 169 1) [.t 0,.t 3]],.t 4])] [31,32,33,34,35,36,37,38,39],.stm (.eff (.store 33 (.t 39) (.t 38)) none)])) (.reg [.set [(4,.ap (.ibin .add) [.t 4,.c (.v (.int .i64 1))])] [29,30,4]]))))))) (.reg [.set [(3,.ap (.ibin .add) [.t 3,.c (.v (.int .i64 1))])] [20,21,3]])))))) (.seq (.reg [.set [(41,.ap .llen [.t 0])] [40,41],.stm (.eff (.mks 42 169 1 [.nil] (.t 41) (.t 41)) none),.set [(5,.t 42)] [5]]) (.seq (.seq (.reg [.set [(6,.c (.v (.int .i64 0)))] [6]]) (.block 4 (.loop (.seq (.seq (.reg [.set [(46,.ap (.ibin .lss) [.t 6,.ap .llen [.t 0]])] [43,44,45,46]]) (.cond (.t 46) .skip (.exit 4))) (.seq (.block 5 (.seq (.reg [.set [(7,.ap (.load 1 false) [.ap (.idx 169 1) [.t 0,.t 6]])] [49,50,51,52,7]]) (.seq (.seq (.reg [.set [(8,.c (.v (.int .i64 0)))] [8]]) (.block 6 (.loop (.seq (.seq (.reg [.set [(54,.ap (.ibin .lss) [.t 8,.c (.v (.int .i64 64))])] [53,54]]) (.cond (.t 54) .skip (.exit 6))) (.seq (.block 7 (.reg [.set [(57,.t 7),(66,.ap (.call 102) [.t 6,.ap (.ibin .add) [.ap .llen [.ap (.load 1 false) [.ap (.idx 169 1) [.t 0,.t 6]]],.t 8]])] [57,58,59,60,61,62,63,64,65,66],.stm (.eff (.lit 67 172 33 1 [.v (.int .i64 0),.v (.int .i64 0),.v (.int .i64 0),.v (.int .i64 0),.v (.int .u8 0),.v (.int .u8 0),.v (.bool false),.v (.int .u8 0),.v (.int .u8 0),.v (.int .u8 0),.v (.int .u8 0),.v (.int .i64 0),.v (.int .i64 0),.v (.int .u8 0),.v (.int .u8 0),.v (.int .u8 0),.v (.int .u8 0),.v (.int .i64 0),.v (.int .i64 0),.v (.int .u8 0),.v (.int .u8 0),.v (.int .u8 0),.v (.int .u8 0),.v (.int .i64 0),.v (.int .i64 0),.v (.int .u8 0),.v (.int .u8 0),.v (.int .u8 0),.v (.int .u8 0),.v (.int .i64 0),.v (.int .i64 0),.v (.int .i64 0),.v (.int .i64 0)] [(0,33)] [.t 66]) none),.stm .bad,.set [(7,.t 68)] [7]])) (.reg [.set [(8,.ap (.ibin .add) [.t 8,.c (.v (.int .i64 1))])] [55,56,8]])))))) (.reg [.set [(71,.t 7),(72,.ap (.idx 169 1) [.t 5,.t 6])] [69,70,71,72],.stm (.eff (.store 1 (.t 72) (.t 71)) none)])))) (.reg [.set [(6,.ap (.ibin .add) [.t 6,.c (.v (.int .i64 1))])] [47,48,6]])))))) (.seq (.seq (.reg [.set [(9,.c (.v (.int .i64 0)))] [9]]) (.block 8 (.loop (.seq (.seq (.reg [.set [(76,.ap (.ibin .lss) [.t 9,.ap .llen [.t 0]])] [73,74,75,76]]) (.cond (.t 76) .skip (.exit 8))) (.seq (.block 9 (.seq (.reg [.set [(10,.c (.v (.int .i64 0)))] [10]]) (.block 10 (.loop (.seq (.seq (.reg [.set [(85,.ap (.ibin .lss) [.t 10,.ap .llen [.ap (.load 1 false) [.ap (.idx 169 1) [.t 5,.t 9]]]])] [79,80,81,82,83,84,85]]) (.cond (.t 85) .skip (.exit 10))) (.seq (.block 11 (.seq (.reg [.set [(94,.ap (.load 33 true) [.ap (.idx 172 33) [.ap (.load 1 false) [.ap (.idx 169 1) [.t 5,.t 9]],.t 10]]),(97,.ap (.call 102) [.t 9,.t 10])] [88,89,90,91,92,93,94,95,96,97],.stm .bad,.stm (.op 99 .inot [.t 98] none),.stm (.op 100 .mv [.t 99] none),.stm (.op 101 .mv [.t 10] (some (100,false))),.stm (.op 102 .mv [.t 0] (some (100,false))),.stm (.op 103 .mv [.t 9] (some (100,false))),.stm (.op 104 (.idx 169 1) [.t 102,.t 103] (some (100,false))),.stm (.op 105 (.load 1 false) [.t 104] (some (100,false))),.stm (.op 106 .llen [.t 105] (some (100,false))),.stm (.op 107 (.ibin .lss) [.t 101,.t 106] (some (100,false))),.stm (.op 108 .mv [.t 107] (some (100,false))),.stm (.op 109 .mv [.t 0] (some (108,true))),.stm (.op 110 .mv [.t 9] (some (108,true))),.stm (.op 111 (.idx 169 1) [.t 109,.t 110] (some (108,true))),.stm (.op 112 (.load 1 false) [.t 111] (some (108,true))),.stm (.op 113 .mv [.t 10] (some (108,true))),.stm (.op 114 (.idx 172 33) [.t 112,.t 113] (some (108,true))),.stm (.op 115 (.load 33 true) [.t 114] (some (108,true))),.stm (.op 116 .mv [.t 9] (some (108,true))),.stm (.op 117 .mv [.t 10] (some (108,true))),.stm (.op 118 (.call 102) [.t 116,.t 117] (some (108,true))),.stm .bad,.stm (.op 120 .inot [.t 119] (some (108,true))),.stm (.op 121 .pick [.t 108,.t 120,.c (.v (.bool false))] (some (100,false))),.stm (.op 122 .pick [.t 100,.c (.v (.bool true)),.t 121] none)]) (.cond (.t 122) (.seq (.reg [.set [(2,.c (.v (.bool false)))] [2]]) .ret) .skip))) (.reg [.set [(10,.ap (.ibin .add) [.t 10,.c (.v (.int .i64 1))])] [86,87,10]]))))))) (.reg [.set [(9,.ap (.ibin .add) [.t 9,.c (.v (.int .i64 1))])] [77,78,9]])))))) (.seq (.seq (.reg [.set [(11,.c (.v (.int .i64 0)))] [11]]) (.block 12 (.loop (.seq (.seq (.reg [.set [(126,.ap (.ibin .lss) [.t 11,.ap .llen [.t 0]])] [123,124,125,126]]) (.cond (.t 126) .skip (.exit 12))) (.seq (.block 13 (.seq (.reg [.stm .bad,.set [(12,.t 129)] [12]]) (.seq (.seq (.reg [.set [(13,.c (.v (.int .i64 0)))] [13]]) (.block 14 (.loop (.seq (.seq (.reg [.set [(131,.ap (.ibin .lss) [.t 13,.c (.v (.int .i64 64))])] [130,131]]) (.cond (.t 131) .skip (.exit 14))) (.seq (.block 15 (.reg [.set [(141,.ap (.call 102) [.ap (.ibin .add) [.t 11,.ap .llen [.t 0]],.t 13]),(142,.ap (.idx 172 33) [.t 12,.t 13])] [134,135,136,137,138,139,140,141,142],.stm (.eff (.store 33 (.t 142) (.t 141)) none)])) (.reg [.set [(13,.ap (.ibin .add) [.t 13,.c (.v (.int .i64 1))])] [132,133,13]])))))) (.reg [.set [(143,.t 5),(144,.t 11),(148,.ap (.load 1 false) [.ap (.idx 169 1) [.t 0,.t 11]]),(149,.t 12)] [143,144,145,146,147,148,149],.stm .bad,.set [(151,.ap (.idx 169 1) [.t 143,.t 144])] [151],.stm (.eff (.store 1 (.t 151) (.t 150)) none)])))) (.reg [.set [(11,.ap (.ibin .add) [.t 11,.c (.v (.int .i64 1))])] [127,128,11]])))))) (.seq (.seq (.reg [.set [(14,.c (.v (.int .i64 0)))] [14]]) (.block 16 (.loop (.seq (.seq (.reg [.set [(155,.ap (.ibin .lss) [.t 14,.ap .llen [.t 0]])] [152,153,154,155]]) (.cond (.t 155) .skip (.exit 16))) (.seq (.block 17 (.seq (.reg [.set [(15,.c (.v (.int .i64 0)))] [15]]) (.block 18 (.loop (.seq (.seq (.reg [.set [(164,.ap (.ibin .lss) [.t 15,.ap .llen [.ap (.load 1 false) [.ap (.idx 169 1) [.t 0,.t 14]]]])] [158,159,160,161,162,163,164]]) (.cond (.t 164) .skip (.exit 18))) (.seq (.block 19 (.seq (.reg [.set [(173,.ap (.load 33 true) [.ap (.idx 172 33) [.ap (.load 1 false) [.ap (.idx 169 1) [.t 0,.t 14]],.t 15]]),(176,.ap (.call 102) [.t 14,.t 15])] [167,168,169,170,171,172,173,174,175,176],.stm .bad,.stm (.op 178 .inot [.t 177] none),.stm (.op 179 .mv [.t 178] none),.stm (.op 180 .mv [.t 5] (some (179,false))),.stm (.op 181 .mv [.t 14] (some (179,false))),.stm (.op 182 (.idx 169 1) [.t 180,.t 181] (some (179,false))),.stm (.op 183 (.load 1 false) [.t 182] (some (179,false))),.stm (.op 184 .mv [.t 15] (some (179,false))),.stm (.op 185 (.idx 172 33) [.t 183,.t 184] (some (179,false))),.stm (.op 186 (.load 33 true) [.t 185] (some (179,false))),.stm (.op 187 .mv [.t 14] (some (179,false))),.stm (.op 188 .mv [.t 15] (some (179,false))),.stm (.op 189 (.call 102) [.t 187,.t 188] (some (179,false))),.stm .bad,.stm (.op 191 .inot [.t 190] (some (179,false))),.stm (.op 192 .pick [.t 179,.c (.v (.bool true)),.t 191] none)]) (.cond (.t 192) (.seq (.reg [.set [(2,.c (.v (.bool false)))] [2]]) .ret) .skip))) (.reg [.set [(15,.ap (.ibin .add) [.t 15,.c (.v (.int .i64 1))])] [165,166,15]]))))))) (.reg [.set [(14,.ap (.ibin .add) [.t 14,.c (.v (.int .i64 1))])] [156,157,14]])))))) (.seq (.reg [.set [(2,.c (.v (.bool true)))] [2]]) .ret))))))),[.t 2])
theorem is85 : IsFn Try.prog frOf 85 Try.f85 W85:=⟨by kernel_rfl,by kernel_rfl,by kernel_rfl⟩
theorem nt85 : Try.f85.ntmps = 193:=by kernel_rfl
theorem c85nil (m : Mem) : VCm Try.prog 85 m [.nil] (bv true) (upM m):=by
  refine wcontract_m sound0 mixed is85 (by rw [nt85]; simp) ?_
  simp only [W85]
  refine wwp_cutW (wf_initM _ _) (NlA m) (by simp [NlA]; exact fun t o h=>h) fun σ W h=>?_
  refine nil_loop W h (by decide) fun σ W h=>?_
  refine nil_mks W h fun σ W h=>?_
  refine nil_loop W h (by decide) fun σ W h=>nil_loop W h (by decide) fun σ W h=>nil_loop W h (by decide) fun σ W h=>nil_loop W h (by decide) fun σ W h=>?_
  simp [h.1]
  exact h.2
def W87 : WC × List VRes:=(.seq (.reg [.set [(2,.c (.v (.bool false)))] [2]]) (.seq (.seq (.reg [.set [(3,.c (.v (.int .i64 0)))] [3]]) (.block 0 (.loop (.seq (.seq (.reg [.set [(19,.ap (.ibin .lss) [.t 3,.ap .llen [.t 0]])] [16,17,18,19]]) (.cond (.t 19) .skip (.exit 0))) (.seq (.block 1 (.seq (.reg [.set [(4,.c (.v (.int .i64 0)))] [4]]) (.block 2 (.loop (.seq (.seq (.reg [.set [(28,.ap (.ibin .lss) [.t 4,.ap .llen [.ap (.load 1 false) [.ap (.idx 174 1) [.t 0,.t 3]]]])] [22,23,24,25,26,27,28]]) (.cond (.t 28) .skip (.exit 2))) (.seq (.block 3 (.reg [.set [(38,.ap (.call 103) [.t 3,.t 4]),(39,.ap (.idx 24 6) [.ap (.load 1 false) [.ap (.idx 174 1) [.t 0,.t 3]],.t 4])] [31,32,33,34,35,36,37,38,39],.stm (.eff (.store 6 (.t 39) (.t 38)) none)])) (.reg [.set [(4,.ap (.ibin .add) [.t 4,.c (.v (.int .i64 1))])] [29,30,4]]))))))) (.reg [.set [(3,.ap (.ibin .add) [.t 3,.c (.v (.int .i64 1))])] [20,21,3]])))))) (.seq (.reg [.set [(41,.ap .llen [.t 0])] [40,41],.stm (.eff (.mks 42 174 1 [.nil] (.t 41) (.t 41)) none),.set [(5,.t 42)] [5]]) (.seq (.seq (.reg [.set [(6,.c (.v (.int .i64 0)))] [6]]) (.block 4 (.loop (.seq (.seq (.reg [.set [(46,.ap (.ibin .lss) [.t 6,.ap .llen [.t 0]])] [43,44,45,46]]) (.cond (.t 46) .skip (.exit 4))) (.seq (.block 5 (.seq (.reg [.set [(7,.ap (.load 1 false) [.ap (.idx 174 1) [.t 0,.t 6]])] [49,50,51,52,7]]) (.seq (.seq (.reg [.set [(8,.c (.v (.int .i64 0)))] [8]]) (.block 6 (.loop (.seq (.seq (.reg [.set [(54,.ap (.ibin .lss) [.t 8,.c (.v (.int .i64 64))])] [53,54]]) (.cond (.t 54) .skip (.exit 6))) (.seq (.block 7 (.reg [.set [(57,.t 7),(66,.ap (.call 103) [.t 6,.ap (.ibin .add) [.ap .llen [.ap (.load 1 false) [.ap (.idx 174 1) [.t 0,.t 6]]],.t 8]])] [57,58,59,60,61,62,63,64,65,66],.stm (.eff (.lit 67 24 6 1 [.v (.int .i64 0),.v (.int .i64 0),.v (.int .i64 0),.v (.int .i64 0),.v (.int .i64 0),.nil] [(0,6)] [.t 66]) none),.stm (.eff (.app 68 24 6 (.t 57) (.t 67)) none),.set [(7,.t 68)] [7]])) (.reg [.set [(8,.ap (.ibin .add) [.t 8,.c (.v (.int .i64 1))])] [55,56,8]])))))) (.reg [.set [(71,.t 7),(72,.ap (.idx 174 1) [.t 5,.t 6])] [69,70,71,72],.stm (.eff (.store 1 (.t 72) (.t 71)) none)])))) (.reg [.set [(6,.ap (.ibin .add) [.t 6,.c (.v (.int .i64 1))])] [47,48,6]])))))) (.seq (.seq (.reg [.set [(9,.c (.v (.int .i64 0)))] [9]]) (.block 8 (.loop (.seq (.seq (.reg [.set [(76,.ap (.ibin .lss) [.t 9,.ap .llen [.t 0]])] [73,74,75,76]]) (.cond (.t 76) .skip (.exit 8))) (.seq (.block 9 (.seq (.reg [.set [(10,.c (.v (.int .i64 0)))] [10]]) (.block 10 (.loop (.seq (.seq (.reg [.set [(85,.ap (.ibin .lss) [.t 10,.ap .llen [.ap (.load 1 false) [.ap (.idx 174 1) [.t 5,.t 9]]]])] [79,80,81,82,83,84,85]]) (.cond (.t 85) .skip (.exit 10))) (.seq (.block 11 (.seq (.reg [.set [(122,.ite (.ap .inot [.ap (.call 48) [.ap (.load 6 true) [.ap (.idx 24 6) [.ap (.load 1 false) [.ap (.idx 174 1) [.t 5,.t 9]],.t 10]],.ap (.call 103) [.t 9,.t 10]]]) (.c (.v (.bool true))) (.ite (.ap (.ibin .lss) [.t 10,.ap .llen [.ap (.load 1 false) [.ap (.idx 174 1) [.t 0,.t 9]]]]) (.ap .inot [.ap (.call 48) [.ap (.load 6 true) [.ap (.idx 24 6) [.ap (.load 1 false) [.ap (.idx 174 1) [.t 0,.t 9]],.t 10]],.ap (.call 103) [.t 9,.t 10]]]) (.c (.v (.bool false)))))] [88,89,90,91,92,93,94,95,96,97,98,99,100,101,102,103,104,105,106,107,108,109,110,111,112,113,114,115,116,117,118,119,120,121,122]]) (.cond (.t 122) (.seq (.reg [.set [(2,.c (.v (.bool false)))] [2]]) .ret) .skip))) (.reg [.set [(10,.ap (.ibin .add) [.t 10,.c (.v (.int .i64 1))])] [86,87,10]]))))))) (.reg [.set [(9,.ap (.ibin .add) [.t 9,.c (.v (.int .i64 1))])] [77,78,9]])))))) (.seq (.seq (.reg [.set [(11,.c (.v (.int .i64 0)))] [11]]) (.block 12 (.loop (.seq (.seq (.reg [.set [(126,.ap (.ibin .lss) [.t 11,.ap .llen [.t 0]])] [123,124,125,126]]) (.cond (.t 126) .skip (.exit 12))) (.seq (.block 13 (.seq (.reg [.stm (.eff (.mks 129 24 6 [.v (.int .i64 0),.v (.int .i64 0),.v (.int .i64 0),.v (.int .i64 0),.v (.int .i64 0),.nil] (.c (.v (.int .i64 64))) (.c (.v (.int .i64 64)))) none),.set [(12,.t 129)] [12]]) (.seq (.seq (.reg [.set [(13,.c (.v (.int .i64 0)))] [13]]) (.block 14 (.loop (.seq (.seq (.reg [.set [(131,.ap (.ibin .lss) [.t 13,.c (.v (.int .i64 64))])] [130,131]]) (.cond (.t 131) .skip (.exit 14))) (.seq (.block 15 (.reg [.set [(141,.ap (.call 103) [.ap (.ibin .add) [.t 11,.ap .llen [.t 0]],.t 13]),(142,.ap (.idx 24 6) [.t 12,.t 13])] [134,135,136,137,138,139,140,141,142],.stm (.eff (.store 6 (.t 142) (.t 141)) none)])) (.reg [.set [(13,.ap (.ibin .add) [.t 13,.c (.v (.int .i64 1))])] [132,133,13]])))))) (.reg [.set [(143,.t 5),(144,.t 11),(148,.ap (.load 1 false) [.ap (.idx 174 1) [.t 0,.t 11]]),(149,.t 12)] [143,144,145,146,147,148,149],.stm (.eff (.app 150 24 6 (.t 148) (.t 149)) none),.set [(151,.ap (.idx 174 1) [.t 143,.t 144])] [151],.stm (.eff (.store 1 (.t 151) (.t 150)) none)])))) (.reg [.set [(11,.ap (.ibin .add) [.t 11,.c (.v (.int .i64 1))])] [127,128,11]])))))) (.seq (.seq (.reg [.set [(14,.c (.v (.int .i64 0)))] [14]]) (.block 16 (.loop (.seq (.seq (.reg [.set [(155,.ap (.ibin .lss) [.t 14,.ap .llen [.t 0]])] [152,153,154,155]]) (.cond (.t 155) .skip (.exit 16))) (.seq (.block 17 (.seq (.reg [.set [(15,.c (.v (.int .i64 0)))] [15]]) (.block 18 (.loop (.seq (.seq (.reg [.set [(164,.ap (.ibin .lss) [.t 15,.ap .llen [.ap (.load 1 false) [.ap (.idx 174 1) [.t 0,.t 14]]]])] [158,159,160,161,162,163,164]]) (.cond (.t 164) .skip (.exit 18))) (.seq (.block 19 (.seq (.reg [.set [(192,.ite (.ap .inot [.ap (.call 48) [.ap (.load 6 true) [.ap (.idx 24 6) [.ap (.load 1 false) [.ap (.idx 174 1) [.t 0,.t 14]],.t 15]],.ap (.call 103) [.t 14,.t 15]]]) (.c (.v (.bool true))) (.ap .inot [.ap (.call 48) [.ap (.load 6 true) [.ap (.idx 24 6) [.ap (.load 1 false) [.ap (.idx 174 1) [.t 5,.t 14]],.t 15]],.ap (.call 103) [.t 14,.t 15]]]))] [167,168,169,170,171,172,173,174,175,176,177,178,179,180,181,182,183,184,185,186,187,188,189,190,191,192]]) (.cond (.t 192) (.seq (.reg [.set [(2,.c (.v (.bool false)))] [2]]) .ret) .skip))) (.reg [.set [(15,.ap (.ibin .add) [.t 15,.c (.v (.int .i64 1))])] [165,166,15]]))))))) (.reg [.set [(14,.ap (.ibin .add) [.t 14,.c (.v (.int .i64 1))])] [156,157,14]])))))) (.seq (.reg [.set [(2,.c (.v (.bool true)))] [2]]) .ret))))))),[.t 2])
theorem is87 : IsFn Try.prog frOf 87 Try.f87 W87:=⟨by kernel_rfl,by kernel_rfl,by kernel_rfl⟩
theorem nt87 : Try.f87.ntmps = 193:=by kernel_rfl
theorem c87nil (m : Mem) : VCm Try.prog 87 m [.nil] (bv true) (upM m):=by
  refine wcontract_m sound0 mixed is87 (by rw [nt87]; simp) ?_
  simp only [W87]
  refine wwp_cutW (wf_initM _ _) (NlA m) (by simp [NlA]; exact fun t o h=>h) fun σ W h=>?_
  refine nil_loop W h (by decide) fun σ W h=>?_
  refine nil_mks W h fun σ W h=>?_
  refine nil_loop W h (by decide) fun σ W h=>nil_loop W h (by decide) fun σ W h=>nil_loop W h (by decide) fun σ W h=>nil_loop W h (by decide) fun σ W h=>?_
  simp [h.1]
  exact h.2
def W88 : WC × List VRes:=(.seq (.reg [.set [(2,.c (.v (.bool false)))] [2]]) (.seq (.seq (.reg [.set [(3,.c (.v (.int .i64 0)))] [3]]) (.block 0 (.loop (.seq (.seq (.reg [.set [(19,.ap (.ibin .lss) [.t 3,.ap .llen [.t 0]])] [16,17,18,19]]) (.cond (.t 19) .skip (.exit 0))) (.seq (.block 1 (.seq (.reg [.set [(4,.c (.v (.int .i64 0)))] [4]]) (.block 2 (.loop (.seq (.seq (.reg [.set [(28,.ap (.ibin .lss) [.t 4,.ap .llen [.ap (.load 1 false) [.ap (.idx 175 1) [.t 0,.t 3]]]])] [22,23,24,25,26,27,28]]) (.cond (.t 28) .skip (.exit 2))) (.seq (.block 3 (.reg [.set [(38,.ap (.call 104) [.t 3,.t 4]),(39,.ap (.idx 177 7) [.ap (.load 1 false) [.ap (.idx 175 1) [.t 0,.t 3]],.t 4])] [31,32,33,34,35,36,37,38,39],.stm (.eff (.store 7 (.t 39) (.t 38)) none)])) (.reg [.set [(4,.ap (.ibin .add) [.t 4,.c (.v (.int .i64 1))])] [29,30,4]]))))))) (.reg [.set [(3,.ap (.ibin .add) [.t 3,.c (.v (.int .i64 1))])] [20,21,3]])))))) (.seq (.reg [.set [(41,.ap .llen [.t 0])] [40,41],.stm (.eff (.mks 42 175 1 [.nil] (.t 41) (.t 41)) none),.set [(5,.t 42)] [5]]) (.seq (.seq (.reg [.set [(6,.c (.v (.int .i64 0)))] [6]]) (.block 4 (.loop (.seq (.seq (.reg [.set [(46,.ap (.ibin .lss) [.t 6,.ap .llen [.t 0]])] [43,44,45,46]]) (.cond (.t 46) .skip (.exit 4))) (.seq (.block 5 (.seq (.reg [.set [(7,.ap (.load 1 false) [.ap (.idx 175 1) [.t 0,.t 6]])] [49,50,51,52,7]]) (.seq (.seq (.reg [.set [(8,.c (.v (.int .i64 0)))] [8]]) (.block 6 (.loop (.seq (.seq (.reg [.set [(54,.ap (.ibin .lss) [.t 8,.c (.v (.int .i64 64))])] [53,54]]) (.cond (.t 54) .skip (.exit 6))) (.seq (.block 7 (.reg [.set [(57,.t 7),(66,.ap (.call 104) [.t 6,.ap (.ibin .add) [.ap .llen [.ap (.load 1 false) [.ap (.idx 175 1) [.t 0,.t 6]]],.t 8]])] [57,58,59,60,61,62,63,64,65,66],.stm (.eff (.lit 67 177 7 1 [.v (.int .i64 0),.v (.int .i64 0),.v (.int .i64 0),.v (.int .i64 0),.v (.int .i64 0),.nil,.v (.int .i64 0)] [(0,7)] [.t 66]) none),.stm (.eff (.app 68 177 7 (.t 57) (.t 67)) none),.set [(7,.t 68)] [7]])) (.reg [.set [(8,.ap (.ibin .add) [.t 8,.c (.v (.int .i64 1))])] [55,56,8]])))))) (.reg [.set [(71,.t 7),(72,.ap (.idx 175 1) [.t 5,.t 6])] [69,70,71,72],.stm (.eff (.store 1 (.t 72) (.t 71)) none)])))) (.reg [.set [(6,.ap (.ibin .add) [.t 6,.c (.v (.int .i64 1))])] [47,48,6]])))))) (.seq (.seq (.reg [.set [(9,.c (.v (.int .i64 0)))] [9]]) (.block 8 (.loop (.seq (.seq (.reg [.set [(76,.ap (.ibin .lss) [.t 9,.ap .llen [.t 0]])] [73,74,75,76]]) (.cond (.t 76) .skip (.exit 8))) (.seq (.block 9 (.seq (.reg [.set [(10,.c (.v (.int .i64 0)))] [10]]) (.block 10 (.loop (.seq (.seq (.reg [.set [(85,.ap (.ibin .lss) [.t 10,.ap .llen [.ap (.load 1 false) [.ap (.idx 175 1) [.t 5,.t 9]]]])] [79,80,81,82,83,84,85]]) (.cond (.t 85) .skip (.exit 10))) (.seq (.block 11 (.seq (.reg [.set [(122,.ite (.ap .inot [.ap (.call 105) [.ap (.load 7 true) [.ap (.idx 177 7) [.ap (.load 1 false) [.ap (.idx 175 1) [.t 5,.t 9]],.t 10]],.ap (.call 104) [.t 9,.t 10]]]) (.c (.v (.bool true))) (.ite (.ap (.ibin .lss) [.t 10,.ap .llen [.ap (.load 1 false) [.ap (.idx 175 1) [.t 0,.t 9]]]]) (.ap .inot [.ap (.call 105) [.ap (.load 7 true) [.ap (.idx 177 7) [.ap (.load 1 false) [.ap (.idx 175 1) [.t 0,.t 9]],.t 10]],.ap (.call 104) [.t 9,.t 10]]]) (.c (.v (.bool false)))))] [88,89,90,91,92,93,94,95,96,97,98,99,100,101,102,103,104,105,106,107,108,109,110,111,112,113,114,115,116,117,118,119,120,121,122]]) (.cond (.t 122) (.seq (.reg [.set [(2,.c (.v (.bool false)))] [2]]) .ret) .skip))) (.reg [.set [(10,.ap (.ibin .add) [.t 10,.c (.v (.int .i64 1))])] [86,87,10]]))))))) (.reg [.set [(9,.ap (.ibin .add) [.t 9,.c (.v (.int .i64 1))])] [77,78,9]])))))) (.seq (.seq (.reg [.set [(11,.c (.v (.int .i64 0)))] [11]]) (.block 12 (.loop (.seq (.seq (.reg [.set [(126,.ap (.ibin .lss) [.t 11,.ap .llen [.t 0]])] [123,124,125,126]]) (.cond (.t 126) .skip (.exit 12))) (.seq (.block 13 (.seq (.reg [.stm (.eff (.mks 129 177 7 [.v (.int .i64 0),.v (.int .i64 0),.v (.int .i64 0),.v (.int .i64 0),.v (.int .i64 0),.nil,.v (.int .i64 0)] (.c (.v (.int .i64 64))) (.c (.v (.int .i64 64)))) none),.set [(12,.t 129)] [12]]) (.seq (.seq (.reg [.set [(13,.c (.v (.int .i64 0)))] [13]]) (.block 14 (.loop (.seq (.seq (.reg [.set [(131,.ap (.ibin .lss) [.t 13,.c (.v (.int .i64 64))])] [130,131]]) (.cond (.t 131) .skip (.exit 14))) (.seq (.block 15 (.reg [.set [(141,.ap (.call 104) [.ap (.ibin .add) [.t 11,.ap .llen [.t 0]],.t 13]),(142,.ap (.idx 177 7) [.t 12,.t 13])] [134,135,136,137,138,139,140,141,142],.stm (.eff (.store 7 (.t 142) (.t 141)) none)])) (.reg [.set [(13,.ap (.ibin .add) [.t 13,.c (.v (.int .i64 1))])] [132,133,13]])))))) (.reg [.set [(143,.t 5),(144,.t 11),(148,.ap (.load 1 false) [.ap (.idx 175 1) [.t 0,.t 11]]),(149,.t 12)] [143,144,145,146,147,148,149],.stm (.eff (.app 150 177 7 (.t 148) (.t 149)) none),.set [(151,.ap (.idx 175 1) [.t 143,.t 144])] [151],.stm (.eff (.store 1 (.t 151) (.t 150)) none)])))) (.reg [.set [(11,.ap (.ibin .add) [.t 11,.c (.v (.int .i64 1))])] [127,128,11]])))))) (.seq (.seq (.reg [.set [(14,.c (.v (.int .i64 0)))] [14]]) (.block 16 (.loop (.seq (.seq (.reg [.set [(155,.ap (.ibin .lss) [.t 14,.ap .llen [.t 0]])] [152,153,154,155]]) (.cond (.t 155) .skip (.exit 16))) (.seq (.block 17 (.seq (.reg [.set [(15,.c (.v (.int .i64 0)))] [15]]) (.block 18 (.loop (.seq (.seq (.reg [.set [(164,.ap (.ibin .lss) [.t 15,.ap .llen [.ap (.load 1 false) [.ap (.idx 175 1) [.t 0,.t 14]]]])] [158,159,160,161,162,163,164]]) (.cond (.t 164) .skip (.exit 18))) (.seq (.block 19 (.seq (.reg [.set [(192,.ite (.ap .inot [.ap (.call 105) [.ap (.load 7 true) [.ap (.idx 177 7) [.ap (.load 1 false) [.ap (.idx 175 1) [.t 0,.t 14]],.t 15]],.ap (.call 104) [.t 14,.t 15]]]) (.c (.v (.bool true))) (.ap .inot [.ap (.call 105) [.ap (.load 7 true) [.ap (.idx 177 7) [.ap (.load 1 false) [.ap (.idx 175 1) [.t 5,.t 14]],.t 15]],.ap (.call 104) [.t 14,.t 15]]]))] [167,168,169,170,171,172,173,174,175,176,177,178,179,180,181,182,183,184,185,186,187,188,189,190,191,192]]) (.cond (.t 192) (.seq (.reg [.set [(2,.c (.v (.bool false)))] [2]]) .ret) .skip))) (.reg [.set [(15,.ap (.ibin .add) [.t 15,.c (.v (.int .i64 1))])] [165,166,15]]))))))) (.reg [.set [(14,.ap (.ibin .add) [.t 14,.c (.v (.int .i64 1))])] [156,157,14]])))))) (.seq (.reg [.set [(2,.c (.v (.bool true)))] [2]]) .ret))))))),[.t 2])
theorem is88 : IsFn Try.prog frOf 88 Try.f88 W88:=⟨by kernel_rfl,by kernel_rfl,by kernel_rfl⟩
theorem nt88 : Try.f88.ntmps = 193:=by kernel_rfl
theorem c88nil (m : Mem) : VCm Try.prog 88 m [.nil] (bv true) (upM m):=by
  refine wcontract_m sound0 mixed is88 (by rw [nt88]; simp) ?_
  simp only [W88]
  refine wwp_cutW (wf_initM _ _) (NlA m) (by simp [NlA]; exact fun t o h=>h) fun σ W h=>?_
  refine nil_loop W h (by decide) fun σ W h=>?_
  refine nil_mks W h fun σ W h=>?_
  refine nil_loop W h (by decide) fun σ W h=>nil_loop W h (by decide) fun σ W h=>nil_loop W h (by decide) fun σ W h=>nil_loop W h (by decide) fun σ W h=>?_
  simp [h.1]
  exact h.2
end Go.Proofs.Ytpmgaaalfdjikaa
namespace Go.Proofs.Ytpmgaaalfdjikaa
open Go.RowKit
set_option linter.unusedSimpArgs false
set_option linter.unusedVariables false
def W89 : WC × List VRes:=WLl 59 25 34 38
theorem is89 : IsFn Try.prog frOf 89 Try.f89 W89:=⟨by kernel_rfl,by kernel_rfl,by kernel_rfl⟩
theorem nt89 : Try.f89.ntmps = 193:=by kernel_rfl
theorem c89nil (m : Mem) : VCm Try.prog 89 m [.nil] (bv true) (upM m):=by
  refine wcontract_m sound0 mixed is89 (by rw [nt89]; simp) ?_
  simp only [W89,WLl]
  refine wwp_cutW (wf_initM _ _) (NlA m) (by simp [NlA]; exact fun t o h=>h) fun σ W h=>?_
  refine nil_loop W h (by decide) fun σ W h=>?_
  refine nil_mks W h fun σ W h=>?_
  refine nil_loop W h (by decide) fun σ W h=>nil_loop W h (by decide) fun σ W h=>nil_loop W h (by decide) fun σ W h=>nil_loop W h (by decide) fun σ W h=>?_
  simp [h.1]
  exact h.2
def W90 : WC × List VRes:=WLl 106 108 147 107
theorem is90 : IsFn Try.prog frOf 90 Try.f90 W90:=⟨by kernel_rfl,by kernel_rfl,by kernel_rfl⟩
theorem nt90 : Try.f90.ntmps = 193:=by kernel_rfl
theorem c90nil (m : Mem) : VCm Try.prog 90 m [.nil] (bv true) (upM m):=by
  refine wcontract_m sound0 mixed is90 (by rw [nt90]; simp) ?_
  simp only [W90,WLl]
  refine wwp_cutW (wf_initM _ _) (NlA m) (by simp [NlA]; exact fun t o h=>h) fun σ W h=>?_
  refine nil_loop W h (by decide) fun σ W h=>?_
  refine nil_mks W h fun σ W h=>?_
  refine nil_loop W h (by decide) fun σ W h=>nil_loop W h (by decide) fun σ W h=>nil_loop W h (by decide) fun σ W h=>nil_loop W h (by decide) fun σ W h=>?_
  simp [h.1]
  exact h.2
def W91 : WC × List VRes:=WLl 108 112 157 109
theorem is91 : IsFn Try.prog frOf 91 Try.f91 W91:=⟨by kernel_rfl,by kernel_rfl,by kernel_rfl⟩
theorem nt91 : Try.f91.ntmps = 193:=by kernel_rfl
theorem c91nil (m : Mem) : VCm Try.prog 91 m [.nil] (bv true) (upM m):=by
  refine wcontract_m sound0 mixed is91 (by rw [nt91]; simp) ?_
  simp only [W91,WLl]
  refine wwp_cutW (wf_initM _ _) (NlA m) (by simp [NlA]; exact fun t o h=>h) fun σ W h=>?_
  refine nil_loop W h (by decide) fun σ W h=>?_
  refine nil_mks W h fun σ W h=>?_
  refine nil_loop W h (by decide) fun σ W h=>nil_loop W h (by decide) fun σ W h=>nil_loop W h (by decide) fun σ W h=>nil_loop W h (by decide) fun σ W h=>?_
  simp [h.1]
  exact h.2
def W92 : WC × List VRes:=WLl 110 88 22 67
theorem is92 : IsFn Try.prog frOf 92 Try.f92 W92:=⟨by kernel_rfl,by kernel_rfl,by kernel_rfl⟩
theorem nt92 : Try.f92.ntmps = 193:=by kernel_rfl
theorem c92nil (m : Mem) : VCm Try.prog 92 m [.nil] (bv true) (upM m):=by
  refine wcontract_m sound0 mixed is92 (by rw [nt92]; simp) ?_
  simp only [W92,WLl]
  refine wwp_cutW (wf_initM _ _) (NlA m) (by simp [NlA]; exact fun t o h=>h) fun σ W h=>?_
  refine nil_loop W h (by decide) fun σ W h=>?_
  refine nil_mks W h fun σ W h=>?_
  refine nil_loop W h (by decide) fun σ W h=>nil_loop W h (by decide) fun σ W h=>nil_loop W h (by decide) fun σ W h=>nil_loop W h (by decide) fun σ W h=>?_
  simp [h.1]
  exact h.2
def W93 : WC × List VRes:=WLl 111 115 169 112
theorem is93 : IsFn Try.prog frOf 93 Try.f93 W93:=⟨by kernel_rfl,by kernel_rfl,by kernel_rfl⟩
theorem nt93 : Try.f93.ntmps = 193:=by kernel_rfl
theorem c93nil (m : Mem) : VCm Try.prog 93 m [.nil] (bv true) (upM m):=by
  refine wcontract_m sound0 mixed is93 (by rw [nt93]; simp) ?_
  simp only [W93,WLl]
  refine wwp_cutW (wf_initM _ _) (NlA m) (by simp [NlA]; exact fun t o h=>h) fun σ W h=>?_
  refine nil_loop W h (by decide) fun σ W h=>?_
  refine nil_mks W h fun σ W h=>?_
  refine nil_loop W h (by decide) fun σ W h=>nil_loop W h (by decide) fun σ W h=>nil_loop W h (by decide) fun σ W h=>nil_loop W h (by decide) fun σ W h=>?_
  simp [h.1]
  exact h.2
end Go.Proofs.Ytpmgaaalfdjikaa
namespace Go.Proofs.Ytpmgaaalfdjikaa
open Go.RowKit
set_option linter.unusedSimpArgs false
set_option linter.unusedVariables false
open Classical in
noncomputable def dropM (P : Tok→Prop) (U : Mem) : Mem:=fun τ=>match U τ with
  | some o=>if ∃ g,o.grp = some g∧P g then none else some o
  | none=>none
theorem dropM_some {P : Tok→Prop} {U : Mem} {τ : Tok} {o : HO} : dropM P U τ = some o ↔ U τ = some o∧∀ g,o.grp = some g→¬ P g:=by
  unfold dropM
  cases h : U τ with
  | none=>simp
  | some q=>
    simp only
    constructor
    · intro h
      split at h
      · cases h
      · rename_i hn
        cases h
        exact ⟨rfl,fun g hg hP=>hn ⟨g,hg,hP⟩⟩
    · rintro ⟨h1,h2⟩
      cases h1
      rw [if_neg]
      rintro ⟨g,hg,hP⟩
      exact h2 g hg hP
def grpsOf (M : Mem) (hs : List (List D)) : Tok→Prop:=fun g=>∃ t s len,[D.sl t s 0 len none] ∈ hs∧∃ g' e es,M t = some (.row g' e es)∧g = 0 :: g'
theorem upM_grp {M : Mem} {t : Tok} {o : HO} {g : Tok} (h : upM M t = some o) (hg : o.grp = some g) : ∃ r,g = 0 :: r:=by
  obtain ⟨r,q,rfl,hq,rfl⟩:=upM_dom h
  rw [HO.ren_grp] at hg
  obtain ⟨g',_,rfl⟩:=Option.map_eq_some_iff.1 hg
  exact ⟨g',rfl⟩
structure FlR.CK (F : FlR) : Prop where
  K1 : F.K≤100
  zero : ∀ k,F.nl k = true→F.ln k = 0
  small : ∀ k,k < F.K→F.ln k≤1000
  ezE : ∀ k t,k < F.K→F.ez k = some t→∃ j,j < F.K∧F.nl j = false∧t = F.tk j
  tkI : ∀ j k,j < F.K→k < F.K→F.nl j = false→F.nl k = false→F.tk j = F.tk k→j = k
  grI : ∀ j k,j < F.K→k < F.K→F.nl j = false→F.nl k = false→F.gr j = F.gr k→j = k
  hl : F.U F.lt = some (.row F.lg 22 F.hrow)
  lgne : ∀ j,j < F.K→F.nl j = false→F.gr j ≠ F.lg
  mrkE : ∀ k i : Nat,F.mrk k i = markRw k i
def FlR.dn (F : FlR) : FlR:={ F with ez:=fun k=>(F.ez k).map fun t=>0 :: t,tk:=fun k=>0 :: F.tk k,gr:=fun k=>0 :: F.gr k,lt:=0 :: F.lt,lg:=0 :: F.lg,U:=upM F.U }
theorem FlR.dn_hrow (F : FlR) : F.hrow.map (List.map (D.renC up)) = F.dn.hrow:=by
  simp only [FlR.hrow,List.map_map]
  refine List.map_congr_left fun k _=>?_
  simp only [Function.comp_def,List.map_cons,List.map_nil,FlR.hdr,FlR.dn,FlR.emp]
  split
  · rename_i h
    simp only [if_true,h]
    cases F.ez k <;> rfl
  · rename_i h; simp [h]
theorem FlR.CK.ok {F : FlR} (h : F.CK) : F.dn.OK where
  K1:=h.K1
  zero:=h.zero
  small:=h.small
  ezE:=fun k t hk ht=>by
    obtain ⟨t',h',rfl⟩:=Option.map_eq_some_iff.1 ht
    obtain ⟨j,a,b,rfl⟩:=h.ezE k t' hk h'
    exact ⟨j,a,b,rfl⟩
  tkI:=fun j k hj hk nj nk e=>h.tkI j k hj hk nj nk (List.cons.inj e).2
  grI:=fun j k hj hk nj nk e=>h.grI j k hj hk nj nk (List.cons.inj e).2
  tk0:=fun k _ _=>⟨_,rfl⟩
  gr0:=fun k _ _=>⟨_,rfl⟩
  U0:=fun t o g ho hg=>upM_grp ho hg
  lt0:=⟨_,rfl⟩
  hl:=by
    show upM F.U (0 :: F.lt) = _
    rw [upM_up,h.hl,Option.map_some]
    simp only [HO.ren,FlR.dn_hrow]
    rfl
  lgne:=fun j hj hn e=>h.lgne j hj hn (List.cons.inj e).2
theorem FlR.In.dn {F : FlR} {C : Nat→List Row} (h : F.In C F.U) : F.dn.In C F.dn.U:=fun j hj hn=>by
  obtain ⟨h1,h2⟩:=h j hj hn
  refine ⟨?_,h2⟩
  show upM F.U (0 :: F.tk j) = _
  rw [upM_up,h1]
  simp only [Option.map_some,HO.ren,rowsL_ren]
  rfl
theorem FlR.grps {F : FlR} {C : Nat→List Row} (h : F.In C F.U) (g : Tok) : grpsOf F.U F.hrow g ↔ ∃ j,j < F.K∧F.nl j = false∧g = 0 :: F.gr j:=by
  constructor
  · rintro ⟨t,s,len,hm,g',e,es,hM,rfl⟩
    obtain ⟨k,hk,he⟩:=List.mem_map.1 hm
    simp only [List.mem_range] at hk
    cases hn : F.nl k with
    | true=>
      rw [FlR.hdr_nl hn] at he
      unfold FlR.emp at he
      split at he <;> simp at he
    | false=>
      simp only [FlR.hdr_sl hn,List.cons.injEq,D.sl.injEq,and_true,true_and] at he
      obtain ⟨rfl,_⟩:=he
      rw [(h k hk hn).1] at hM
      cases hM
      exact ⟨k,hk,hn,rfl⟩
  · rintro ⟨k,hk,hn,rfl⟩
    refine ⟨F.tk k,5,F.ln k,?_,F.gr k,53,_,(h k hk hn).1,rfl⟩
    refine List.mem_map.2 ⟨k,by simpa using hk,?_⟩
    rw [FlR.hdr_sl hn]
theorem FlR.CK.keep {F : FlR} {C : Nat→List Row} (hc : F.CK) (h : F.In C F.U) {M : Mem} (hk : F.dn.Kp M) : ∀ t o,dropM (grpsOf F.U F.hrow) (upM F.U) t = some o→M t = some o:=fun t o ho=>by
  obtain ⟨h1,h2⟩:=dropM_some.1 ho
  exact hk t o h1 fun j hj hn e=>h2 _ e ((FlR.grps h _).2 ⟨j,hj,hn,rfl⟩)
theorem c86 (F : FlR) (hc : F.CK) (C : Nat→List Row) (h : F.In C F.U) : VCm Try.prog 86 F.U [.sl F.lt 1 0 F.K none] (bv true) (dropM (grpsOf F.U F.hrow) (upM F.U)):=
  wcontract_m (Γ:=mkEnv [(73,S73g)] [] []) (sound_mk (by simp [s73g]) (by simp) (by simp)) mixed is86 (by rw [nt86]; simp)
    (wwp_mono _ (c86w S73g F.dn hc.ok (fun t o ho=>by obtain ⟨r,q,rfl,_,_⟩:=upM_dom ho; exact ⟨r,rfl⟩) C (fun k i hk hi=>by
      show S73g _ = some (.agg (F.mrk k i).cells)
      rw [hc.mrkE]
      exact S73g_at k i (by omega) (by omega)) (initM F.U [.sl F.lt 1 0 F.K none]) (wf_initM _ _) rfl (by rfl) (fun y=>rfl) h.dn) fun e s hs=>⟨hs.1,hs.2.1,hc.keep h hs.2.2⟩)
open Classical in
noncomputable def S86 : FM:=fun M ds=>match ds with
  | [.nil]=>some (bv true,upM M)
  | [.sl t 1 0 n none]=>match M t with
    | some (.row g 22 hs)=>if ∃ (F : FlR) (C : Nat→List Row),F.CK∧F.In C F.U∧F.U = M∧F.lt = t∧F.K = n then some (bv true,dropM (grpsOf M hs) (upM M)) else none
    | _=>none
  | _=>none
theorem s86 : OkM 86 S86:=fun m ds d m' h=>by
  unfold S86 at h
  split at h
  · cases h; exact c86nil m
  · split at h
    · split at h
      · rename_i hM hc
        cases h
        obtain ⟨F,C,h1,h2,rfl,rfl,rfl⟩:=hc
        rw [h1.hl] at hM
        cases hM
        exact c86 F h1 C h2
      · cases h
    · cases h
  · cases h
theorem S86_at {F : FlR} {C : Nat→List Row} (hc : F.CK) (h : F.In C F.U) : S86 F.U [.sl F.lt 1 0 F.K none] = some (bv true,dropM (grpsOf F.U F.hrow) (upM F.U)):=by
  simp only [S86,hc.hl]
  exact if_pos ⟨F,C,hc,h,rfl,rfl,rfl⟩
structure FlI.CK (F : FlI) : Prop where
  K1 : F.K≤100
  zero : ∀ k,F.nl k = true→F.ln k = 0
  small : ∀ k,k < F.K→F.ln k≤1000
  ezE : ∀ k t,k < F.K→F.ez k = some t→∃ j,j < F.K∧F.nl j = false∧t = F.tk j
  tkI : ∀ j k,j < F.K→k < F.K→F.nl j = false→F.nl k = false→F.tk j = F.tk k→j = k
  grI : ∀ j k,j < F.K→k < F.K→F.nl j = false→F.nl k = false→F.gr j = F.gr k→j = k
  hl : F.U F.lt = some (.row F.lg 34 F.hrow)
  lgne : ∀ j,j < F.K→F.nl j = false→F.gr j ≠ F.lg
  mrkE : ∀ k i : Nat,F.mrk k i = markI k i
def FlI.dn (F : FlI) : FlI:={ F with ez:=fun k=>(F.ez k).map fun t=>0 :: t,tk:=fun k=>0 :: F.tk k,gr:=fun k=>0 :: F.gr k,lt:=0 :: F.lt,lg:=0 :: F.lg,U:=upM F.U }
theorem FlI.dn_hrow (F : FlI) : F.hrow.map (List.map (D.renC up)) = F.dn.hrow:=by
  simp only [FlI.hrow,List.map_map]
  refine List.map_congr_left fun k _=>?_
  simp only [Function.comp_def,List.map_cons,List.map_nil,FlI.hdr,FlI.dn,FlI.emp]
  split
  · rename_i h
    simp only [if_true,h]
    cases F.ez k <;> rfl
  · rename_i h; simp [h]
theorem FlI.CK.ok {F : FlI} (h : F.CK) : F.dn.OK where
  K1:=h.K1
  zero:=h.zero
  small:=h.small
  ezE:=fun k t hk ht=>by
    obtain ⟨t',h',rfl⟩:=Option.map_eq_some_iff.1 ht
    obtain ⟨j,a,b,rfl⟩:=h.ezE k t' hk h'
    exact ⟨j,a,b,rfl⟩
  tkI:=fun j k hj hk nj nk e=>h.tkI j k hj hk nj nk (List.cons.inj e).2
  grI:=fun j k hj hk nj nk e=>h.grI j k hj hk nj nk (List.cons.inj e).2
  tk0:=fun k _ _=>⟨_,rfl⟩
  gr0:=fun k _ _=>⟨_,rfl⟩
  U0:=fun t o g ho hg=>upM_grp ho hg
  lt0:=⟨_,rfl⟩
  hl:=by
    show upM F.U (0 :: F.lt) = _
    rw [upM_up,h.hl,Option.map_some]
    simp only [HO.ren,FlI.dn_hrow]
    rfl
  lgne:=fun j hj hn e=>h.lgne j hj hn (List.cons.inj e).2
theorem FlI.In.dn {F : FlI} {C : Nat→List Int} (h : F.In C F.U) : F.dn.In C F.dn.U:=fun j hj hn=>by
  obtain ⟨h1,h2⟩:=h j hj hn
  refine ⟨?_,h2⟩
  show upM F.U (0 :: F.tk j) = _
  rw [upM_up,h1]
  simp only [Option.map_some,HO.ren,ints_ren]
  rfl
theorem FlI.grps {F : FlI} {C : Nat→List Int} (h : F.In C F.U) (g : Tok) : grpsOf F.U F.hrow g ↔ ∃ j,j < F.K∧F.nl j = false∧g = 0 :: F.gr j:=by
  constructor
  · rintro ⟨t,s,len,hm,g',e,es,hM,rfl⟩
    obtain ⟨k,hk,he⟩:=List.mem_map.1 hm
    simp only [List.mem_range] at hk
    cases hn : F.nl k with
    | true=>
      rw [FlI.hdr_nl hn] at he
      unfold FlI.emp at he
      split at he <;> simp at he
    | false=>
      simp only [FlI.hdr_sl hn,List.cons.injEq,D.sl.injEq,and_true,true_and] at he
      obtain ⟨rfl,_⟩:=he
      rw [(h k hk hn).1] at hM
      cases hM
      exact ⟨k,hk,hn,rfl⟩
  · rintro ⟨k,hk,hn,rfl⟩
    refine ⟨F.tk k,1,F.ln k,?_,F.gr k,3,_,(h k hk hn).1,rfl⟩
    refine List.mem_map.2 ⟨k,by simpa using hk,?_⟩
    rw [FlI.hdr_sl hn]
theorem FlI.CK.keep {F : FlI} {C : Nat→List Int} (hc : F.CK) (h : F.In C F.U) {M : Mem} (hk : F.dn.Kp M) : ∀ t o,dropM (grpsOf F.U F.hrow) (upM F.U) t = some o→M t = some o:=fun t o ho=>by
  obtain ⟨h1,h2⟩:=dropM_some.1 ho
  exact hk t o h1 fun j hj hn e=>h2 _ e ((FlI.grps h _).2 ⟨j,hj,hn,rfl⟩)
theorem c77 (F : FlI) (hc : F.CK) (C : Nat→List Int) (h : F.In C F.U) : VCm Try.prog 77 F.U [.sl F.lt 1 0 F.K none] (bv true) (dropM (grpsOf F.U F.hrow) (upM F.U)):=
  wcontract_m (Γ:=mkEnv [(64,S64g)] [] []) (sound_mk (by simp [s64g]) (by simp) (by simp)) mixed is77 (by rw [nt77]; simp)
    (wwp_mono _ (c77w S64g F.dn hc.ok (fun t o ho=>by obtain ⟨r,q,rfl,_,_⟩:=upM_dom ho; exact ⟨r,rfl⟩) C (fun k i hk hi=>by
      show S64g _ = some (iv (F.mrk k i))
      rw [hc.mrkE]
      exact S64g_at k i (by omega) (by omega)) (initM F.U [.sl F.lt 1 0 F.K none]) (wf_initM _ _) rfl (by rfl) (fun y=>rfl) h.dn) fun e s hs=>⟨hs.1,hs.2.1,hc.keep h hs.2.2⟩)
open Classical in
noncomputable def S77 : FM:=fun M ds=>match ds with
  | [.nil]=>some (bv true,upM M)
  | [.sl t 1 0 n none]=>match M t with
    | some (.row g 34 hs)=>if ∃ (F : FlI) (C : Nat→List Int),F.CK∧F.In C F.U∧F.U = M∧F.lt = t∧F.K = n then some (bv true,dropM (grpsOf M hs) (upM M)) else none
    | _=>none
  | _=>none
theorem s77 : OkM 77 S77:=fun m ds d m' h=>by
  unfold S77 at h
  split at h
  · cases h; exact c77nil m
  · split at h
    · split at h
      · rename_i hM hc
        cases h
        obtain ⟨F,C,h1,h2,rfl,rfl,rfl⟩:=hc
        rw [h1.hl] at hM
        cases hM
        exact c77 F h1 C h2
      · cases h
    · cases h
  · cases h
theorem S77_at {F : FlI} {C : Nat→List Int} (hc : F.CK) (h : F.In C F.U) : S77 F.U [.sl F.lt 1 0 F.K none] = some (bv true,dropM (grpsOf F.U F.hrow) (upM F.U)):=by
  simp only [S77,hc.hl]
  exact if_pos ⟨F,C,hc,h,rfl,rfl,rfl⟩
end Go.Proofs.Ytpmgaaalfdjikaa
namespace Go.Proofs.Ytpmgaaalfdjikaa
open Go.RowKit
set_option linter.unusedSimpArgs false
set_option linter.unusedVariables false
def W69 : WC × List VRes:=(.reg [.set [(4,.t 0),(8,.ap (.load 1 false) [.ap (.fld 9) [.ap .chk [.t 0]]]),(9,.t 1)] [4,5,6,7,8,9],.stm (.eff (.lit 10 22 1 1 [.nil] [(0,1)] [.t 9]) none),.stm (.eff (.app 11 22 1 (.t 8) (.t 10)) none),.set [(13,.ap (.fld 9) [.ap .chk [.t 4]])] [12,13],.stm (.eff (.store 1 (.t 13) (.t 11)) none)],[])
theorem is69 : IsFn Try.prog frOf 69 Try.f69 W69:=⟨by kernel_rfl,by kernel_rfl,by kernel_rfl⟩
theorem nt69 : Try.f69.ntmps = 14:=by kernel_rfl
def W71 : WC × List VRes:=(.reg [.set [(4,.t 0),(8,.ap (.load 1 false) [.ap (.fld 0) [.ap .chk [.t 0]]]),(9,.t 1)] [4,5,6,7,8,9],.stm (.eff (.lit 10 34 1 1 [.nil] [(0,1)] [.t 9]) none),.stm (.eff (.app 11 34 1 (.t 8) (.t 10)) none),.set [(13,.ap (.fld 0) [.ap .chk [.t 4]])] [12,13],.stm (.eff (.store 1 (.t 13) (.t 11)) none)],[])
theorem is71 : IsFn Try.prog frOf 71 Try.f71 W71:=⟨by kernel_rfl,by kernel_rfl,by kernel_rfl⟩
theorem nt71 : Try.f71.ntmps = 14:=by kernel_rfl
def hdD : D→Bool
  | .nil=>true
  | .sl ..=>true
  | _=>false
def bagR (d : D) : List D:=[.nil,.nil,.nil,.nil,.nil,.nil,.nil,.nil,.nil,d,.nil,.nil,.nil,.nil,.nil,.nil,.nil]
noncomputable def putMR (M : Mem) (bt lt lg : Tok) (n : Nat) (h : D) (hs : List (List D)) : Mem:=fun τ=>
  if τ = 0 :: bt then some (.box (bagR (.sl [12,0] 1 0 (n + 1) none)))
  else if τ = [12,0] then some (.row (if n = 0 then [12,0] else 0 :: lg) 22 ((hs.map (List.map (D.renC up))) ++ [[h.renC up]]))
  else dropM (fun g=>n ≠ 0∧g = 0 :: lg) (upM M) τ
theorem c69w (M : Mem) (bt lt lg : Tok) (h : D) (n : Nat) (hs : List (List D)) (hb : M bt = some (.box (bagR (if n = 0 then .nil else .sl lt 1 0 n none)))) (hl : n ≠ 0→M lt = some (.row lg 22 hs)) (hn : hs.length = n) (hsz : ∀ c ∈ hs,c.length = 1) (hh : hdD h = true) (hn1 : n≤1000) :
    wwp noEnv W69.1 (fun e s=>okExit e∧resV W69.2 s = some (.tup [])∧∀ t o,putMR M bt lt lg n h hs t = some o→s.m t = some o) (initM M [.ptr bt 0,h]):=by
  have hbu : upM M (0 :: bt) = some (.box (bagR (if n = 0 then .nil else .sl (0 :: lt) 1 0 n none))):=by
    rw [upM_up,hb]
    simp only [Option.map_some,HO.ren,bagR,List.map_cons,List.map_nil,D.renC]
    by_cases h0 : n = 0
    · simp [h0]
    · simp [h0]
  have hcells : (h.renC up).cells = [h.renC up]:=by cases h <;> first | rfl | (simp [hdD] at hh)
  have hok : (h.renC up).okC = true:=by cases h <;> first | rfl | (simp [hdD] at hh)
  have hren : D.ren up h = h.renC up:=by cases h <;> first | rfl | (simp [hdD] at hh)
  have W0 : WF (initM M [.ptr bt 0,h]):=wf_initM _ _
  have s0 : (initM M [.ptr bt 0,h]).s 0 = .ptr (0 :: bt) 0:=rfl
  have s1 : (initM M [.ptr bt 0,h]).s 1 = h.renC up:=hren
  have sm : (initM M [.ptr bt 0,h]).m = upM M:=rfl
  have sc : ∀ y,(initM M [.ptr bt 0,h]).c y = 0:=fun _=>rfl
  obtain ⟨σ0,hσ0⟩ : ∃ σ0,σ0 = initM M [.ptr bt 0,h]:=⟨_,rfl⟩
  rw [← hσ0] at W0 s0 s1 sm sc ⊢
  obtain ⟨hu,hhu⟩ : ∃ hu,hu = h.renC up:=⟨_,rfl⟩
  rw [← hhu] at hcells hok s1
  simp only [putMR,← hhu]
  clear hσ0 hren
  have hb2 : σ0.m (0 :: bt) = some (.box (bagR (if n = 0 then .nil else .sl (0 :: lt) 1 0 n none))):=by rw [sm]; exact hbu
  simp only [W69]
  refine wwp_cutN1 1 W0 (fun σ=>σ.m = upM M∧(∀ y,σ.c y = 0)∧σ.s 4 = .ptr (0 :: bt) 0∧σ.s 8 = (if n = 0 then .nil else .sl (0 :: lt) 1 0 n none)∧σ.s 9 = hu) ?_ ?_
  · simp only [bagR] at hb2
    simp [s0,s1,sc,hb2]
    exact sm
  rintro σ W ⟨hM,hc,h4,h8,h9⟩
  simp only [List.drop_succ_cons,List.drop_zero]
  have c10:=hc 10
  have c11:=hc 11
  have hb3 : σ.m (0 :: bt) = some (.box (bagR (if n = 0 then .nil else .sl (0 :: lt) 1 0 n none))):=by rw [hM]; exact hbu
  by_cases h0 : n = 0
  · rw [if_pos h0] at h8 hb3
    simp only [bagR] at hb3
    simp [h4,h8,h9,c10,c11,hb3,hcells,hok,one_made]
    intro t o ho
    by_cases e1 : t = 0 :: bt
    · rw [if_pos e1] at ho
      rw [if_pos e1,← ho,h0]
      simp [bagR,putAt]
    · rw [if_neg e1] at ho ⊢
      by_cases e2 : t = [12,0]
      · rw [if_pos e2] at ho
        have hs0 : hs = []:=List.eq_nil_of_length_eq_zero (by omega)
        rw [if_pos e2,← ho,if_pos h0,hs0]
        simp
      · rw [if_neg e2] at ho ⊢
        obtain ⟨ho,_⟩:=dropM_some.1 ho
        obtain ⟨r,q,rfl,_,_⟩:=upM_dom ho
        rw [if_neg (by simp),hM,ho]
  · rw [if_neg h0] at h8 hb3
    simp only [bagR] at hb3
    have hlu : σ.m (0 :: lt) = some (.row (0 :: lg) 22 (hs.map (List.map (D.renC up)))):=by rw [hM,upM_up,hl h0]; rfl
    have hmx : n + 1≤maxMade:=maxMade_le (by omega)
    have hl2 : (hs.map (List.map (D.renC up))).length = n:=by simp [hn]
    obtain ⟨H,hH⟩ : ∃ H,H = hs.map (List.map (D.renC up)):=⟨_,rfl⟩
    rw [← hH] at hlu hl2
    have htk : H.take n = H:=List.take_of_length_le (by omega)
    simp [h4,h8,h9,c10,c11,hb3,hcells,hok,one_made,hlu,hl2,htk,hmx]
    intro t o ho
    by_cases e1 : t = 0 :: bt
    · rw [if_pos e1] at ho
      rw [if_pos e1,← ho]
      simp [bagR,putAt]
    · rw [if_neg e1] at ho ⊢
      by_cases e2 : t = [12,0]
      · rw [if_pos e2] at ho
        rw [if_pos e2,← ho,if_neg h0,hH]
      · rw [if_neg e2] at ho ⊢
        obtain ⟨ho,hg⟩:=dropM_some.1 ho
        obtain ⟨r,q,rfl,hq,rfl⟩:=upM_dom ho
        rw [if_neg (by simp),hM,ho]
        exact struck_grp fun e=>hg _ e ⟨h0,rfl⟩
theorem c69 (M : Mem) (bt lt lg : Tok) (h : D) (n : Nat) (hs : List (List D)) (hb : M bt = some (.box (bagR (if n = 0 then .nil else .sl lt 1 0 n none)))) (hl : n ≠ 0→M lt = some (.row lg 22 hs)) (hn : hs.length = n) (hsz : ∀ c ∈ hs,c.length = 1) (hh : hdD h = true) (hn1 : n≤1000) :
    VCm Try.prog 69 M [.ptr bt 0,h] (.tup []) (putMR M bt lt lg n h hs):=
  wcontract_m sound0 mixed is69 (by rw [nt69]; simp) (c69w M bt lt lg h n hs hb hl hn hsz hh hn1)
open Classical in
noncomputable def S69 : FM:=fun M ds=>match ds with
  | [.ptr bt 0,h]=>match M bt with
    | some (.box fs)=>match fs.getD 9 .undef with
      | .nil=>if fs = bagR .nil∧hdD h = true then some (.tup [],putMR M bt [] [] 0 h []) else none
      | .sl lt 1 0 n none=>match M lt with
        | some (.row lg 22 hs)=>if fs = bagR (.sl lt 1 0 n none)∧n ≠ 0∧hs.length = n∧(∀ c ∈ hs,c.length = 1)∧hdD h = true∧n≤1000 then some (.tup [],putMR M bt lt lg n h hs) else none
        | _=>none
      | _=>none
    | _=>none
  | _=>none
theorem s69 : OkM 69 S69:=fun m ds d m' h=>by
  unfold S69 at h
  split at h
  · rename_i bt x
    split at h
    · rename_i fs hb
      split at h
      · split at h
        · rename_i hc
          cases h
          obtain ⟨rfl,h2⟩:=hc
          exact c69 m bt [] [] x 0 [] hb (fun h=>absurd rfl h) rfl (by simp) h2 (by omega)
        · cases h
      · rename_i lt n _
        split at h
        · rename_i lg hs hl
          split at h
          · rename_i hc
            cases h
            obtain ⟨rfl,h1,h2,h3,h4,h5⟩:=hc
            exact c69 m bt lt lg x n hs (by rw [if_neg h1]; exact hb) (fun _=>hl) h2 h3 h4 h5
          · cases h
        · cases h
      · cases h
    · cases h
  · cases h
theorem S69_nil {M : Mem} {bt : Tok} {h : D} (hb : M bt = some (.box (bagR .nil))) (hh : hdD h = true) : S69 M [.ptr bt 0,h] = some (.tup [],putMR M bt [] [] 0 h []):=by
  have : (bagR D.nil).getD 9 .undef = .nil:=rfl
  simp only [S69,hb,this]
  exact if_pos ⟨trivial,hh⟩
theorem S69_at {M : Mem} {bt lt lg : Tok} {h : D} {n : Nat} {hs : List (List D)} (hb : M bt = some (.box (bagR (.sl lt 1 0 n none)))) (h0 : n ≠ 0) (hl : M lt = some (.row lg 22 hs)) (hn : hs.length = n) (hsz : ∀ c ∈ hs,c.length = 1) (hh : hdD h = true) (hn1 : n≤1000) :
    S69 M [.ptr bt 0,h] = some (.tup [],putMR M bt lt lg n h hs):=by
  have : (bagR (D.sl lt 1 0 n none)).getD 9 .undef = .sl lt 1 0 n none:=rfl
  simp only [S69,hb,this,hl]
  exact if_pos ⟨trivial,h0,hn,hsz,hh,hn1⟩
def bagI (d : D) : List D:=[d,.nil,.nil,.nil,.nil,.nil,.nil,.nil,.nil,.nil,.nil,.nil,.nil,.nil,.nil,.nil,.nil]
noncomputable def putMI (M : Mem) (bt lt lg : Tok) (n : Nat) (h : D) (hs : List (List D)) : Mem:=fun τ=>
  if τ = 0 :: bt then some (.box (bagI (.sl [12,0] 1 0 (n + 1) none)))
  else if τ = [12,0] then some (.row (if n = 0 then [12,0] else 0 :: lg) 34 ((hs.map (List.map (D.renC up))) ++ [[h.renC up]]))
  else dropM (fun g=>n ≠ 0∧g = 0 :: lg) (upM M) τ
theorem c71w (M : Mem) (bt lt lg : Tok) (h : D) (n : Nat) (hs : List (List D)) (hb : M bt = some (.box (bagI (if n = 0 then .nil else .sl lt 1 0 n none)))) (hl : n ≠ 0→M lt = some (.row lg 34 hs)) (hn : hs.length = n) (hsz : ∀ c ∈ hs,c.length = 1) (hh : hdD h = true) (hn1 : n≤1000) :
    wwp noEnv W71.1 (fun e s=>okExit e∧resV W71.2 s = some (.tup [])∧∀ t o,putMI M bt lt lg n h hs t = some o→s.m t = some o) (initM M [.ptr bt 0,h]):=by
  have hbu : upM M (0 :: bt) = some (.box (bagI (if n = 0 then .nil else .sl (0 :: lt) 1 0 n none))):=by
    rw [upM_up,hb]
    simp only [Option.map_some,HO.ren,bagI,List.map_cons,List.map_nil,D.renC]
    by_cases h0 : n = 0
    · simp [h0]
    · simp [h0]
  have hcells : (h.renC up).cells = [h.renC up]:=by cases h <;> first | rfl | (simp [hdD] at hh)
  have hok : (h.renC up).okC = true:=by cases h <;> first | rfl | (simp [hdD] at hh)
  have hren : D.ren up h = h.renC up:=by cases h <;> first | rfl | (simp [hdD] at hh)
  have W0 : WF (initM M [.ptr bt 0,h]):=wf_initM _ _
  have s0 : (initM M [.ptr bt 0,h]).s 0 = .ptr (0 :: bt) 0:=rfl
  have s1 : (initM M [.ptr bt 0,h]).s 1 = h.renC up:=hren
  have sm : (initM M [.ptr bt 0,h]).m = upM M:=rfl
  have sc : ∀ y,(initM M [.ptr bt 0,h]).c y = 0:=fun _=>rfl
  obtain ⟨σ0,hσ0⟩ : ∃ σ0,σ0 = initM M [.ptr bt 0,h]:=⟨_,rfl⟩
  rw [← hσ0] at W0 s0 s1 sm sc ⊢
  obtain ⟨hu,hhu⟩ : ∃ hu,hu = h.renC up:=⟨_,rfl⟩
  rw [← hhu] at hcells hok s1
  simp only [putMI,← hhu]
  clear hσ0 hren
  have hb2 : σ0.m (0 :: bt) = some (.box (bagI (if n = 0 then .nil else .sl (0 :: lt) 1 0 n none))):=by rw [sm]; exact hbu
  simp only [W71]
  refine wwp_cutN1 1 W0 (fun σ=>σ.m = upM M∧(∀ y,σ.c y = 0)∧σ.s 4 = .ptr (0 :: bt) 0∧σ.s 8 = (if n = 0 then .nil else .sl (0 :: lt) 1 0 n none)∧σ.s 9 = hu) ?_ ?_
  · simp only [bagI] at hb2
    simp [s0,s1,sc,hb2]
    exact sm
  rintro σ W ⟨hM,hc,h4,h8,h9⟩
  simp only [List.drop_succ_cons,List.drop_zero]
  have c10:=hc 10
  have c11:=hc 11
  have hb3 : σ.m (0 :: bt) = some (.box (bagI (if n = 0 then .nil else .sl (0 :: lt) 1 0 n none))):=by rw [hM]; exact hbu
  by_cases h0 : n = 0
  · rw [if_pos h0] at h8 hb3
    simp only [bagI] at hb3
    simp [h4,h8,h9,c10,c11,hb3,hcells,hok,one_made]
    intro t o ho
    by_cases e1 : t = 0 :: bt
    · rw [if_pos e1] at ho
      rw [if_pos e1,← ho,h0]
      simp [bagI,putAt]
    · rw [if_neg e1] at ho ⊢
      by_cases e2 : t = [12,0]
      · rw [if_pos e2] at ho
        have hs0 : hs = []:=List.eq_nil_of_length_eq_zero (by omega)
        rw [if_pos e2,← ho,if_pos h0,hs0]
        simp
      · rw [if_neg e2] at ho ⊢
        obtain ⟨ho,_⟩:=dropM_some.1 ho
        obtain ⟨r,q,rfl,_,_⟩:=upM_dom ho
        rw [if_neg (by simp),hM,ho]
  · rw [if_neg h0] at h8 hb3
    simp only [bagI] at hb3
    have hlu : σ.m (0 :: lt) = some (.row (0 :: lg) 34 (hs.map (List.map (D.renC up)))):=by rw [hM,upM_up,hl h0]; rfl
    have hmx : n + 1≤maxMade:=maxMade_le (by omega)
    have hl2 : (hs.map (List.map (D.renC up))).length = n:=by simp [hn]
    obtain ⟨H,hH⟩ : ∃ H,H = hs.map (List.map (D.renC up)):=⟨_,rfl⟩
    rw [← hH] at hlu hl2
    have htk : H.take n = H:=List.take_of_length_le (by omega)
    simp [h4,h8,h9,c10,c11,hb3,hcells,hok,one_made,hlu,hl2,htk,hmx]
    intro t o ho
    by_cases e1 : t = 0 :: bt
    · rw [if_pos e1] at ho
      rw [if_pos e1,← ho]
      simp [bagI,putAt]
    · rw [if_neg e1] at ho ⊢
      by_cases e2 : t = [12,0]
      · rw [if_pos e2] at ho
        rw [if_pos e2,← ho,if_neg h0,hH]
      · rw [if_neg e2] at ho ⊢
        obtain ⟨ho,hg⟩:=dropM_some.1 ho
        obtain ⟨r,q,rfl,hq,rfl⟩:=upM_dom ho
        rw [if_neg (by simp),hM,ho]
        exact struck_grp fun e=>hg _ e ⟨h0,rfl⟩
theorem c71 (M : Mem) (bt lt lg : Tok) (h : D) (n : Nat) (hs : List (List D)) (hb : M bt = some (.box (bagI (if n = 0 then .nil else .sl lt 1 0 n none)))) (hl : n ≠ 0→M lt = some (.row lg 34 hs)) (hn : hs.length = n) (hsz : ∀ c ∈ hs,c.length = 1) (hh : hdD h = true) (hn1 : n≤1000) :
    VCm Try.prog 71 M [.ptr bt 0,h] (.tup []) (putMI M bt lt lg n h hs):=
  wcontract_m sound0 mixed is71 (by rw [nt71]; simp) (c71w M bt lt lg h n hs hb hl hn hsz hh hn1)
open Classical in
noncomputable def S71 : FM:=fun M ds=>match ds with
  | [.ptr bt 0,h]=>match M bt with
    | some (.box fs)=>match fs.getD 0 .undef with
      | .nil=>if fs = bagI .nil∧hdD h = true then some (.tup [],putMI M bt [] [] 0 h []) else none
      | .sl lt 1 0 n none=>match M lt with
        | some (.row lg 34 hs)=>if fs = bagI (.sl lt 1 0 n none)∧n ≠ 0∧hs.length = n∧(∀ c ∈ hs,c.length = 1)∧hdD h = true∧n≤1000 then some (.tup [],putMI M bt lt lg n h hs) else none
        | _=>none
      | _=>none
    | _=>none
  | _=>none
theorem s71 : OkM 71 S71:=fun m ds d m' h=>by
  unfold S71 at h
  split at h
  · rename_i bt x
    split at h
    · rename_i fs hb
      split at h
      · split at h
        · rename_i hc
          cases h
          obtain ⟨rfl,h2⟩:=hc
          exact c71 m bt [] [] x 0 [] hb (fun h=>absurd rfl h) rfl (by simp) h2 (by omega)
        · cases h
      · rename_i lt n _
        split at h
        · rename_i lg hs hl
          split at h
          · rename_i hc
            cases h
            obtain ⟨rfl,h1,h2,h3,h4,h5⟩:=hc
            exact c71 m bt lt lg x n hs (by rw [if_neg h1]; exact hb) (fun _=>hl) h2 h3 h4 h5
          · cases h
        · cases h
      · cases h
    · cases h
  · cases h
theorem S71_nil {M : Mem} {bt : Tok} {h : D} (hb : M bt = some (.box (bagI .nil))) (hh : hdD h = true) : S71 M [.ptr bt 0,h] = some (.tup [],putMI M bt [] [] 0 h []):=by
  have : (bagI D.nil).getD 0 .undef = .nil:=rfl
  simp only [S71,hb,this]
  exact if_pos ⟨trivial,hh⟩
theorem S71_at {M : Mem} {bt lt lg : Tok} {h : D} {n : Nat} {hs : List (List D)} (hb : M bt = some (.box (bagI (.sl lt 1 0 n none)))) (h0 : n ≠ 0) (hl : M lt = some (.row lg 34 hs)) (hn : hs.length = n) (hsz : ∀ c ∈ hs,c.length = 1) (hh : hdD h = true) (hn1 : n≤1000) :
    S71 M [.ptr bt 0,h] = some (.tup [],putMI M bt lt lg n h hs):=by
  have : (bagI (D.sl lt 1 0 n none)).getD 0 .undef = .sl lt 1 0 n none:=rfl
  simp only [S71,hb,this,hl]
  exact if_pos ⟨trivial,h0,hn,hsz,hh,hn1⟩
end Go.Proofs.Ytpmgaaalfdjikaa
namespace Go.Proofs.Ytpmgaaalfdjikaa
open Go.RowKit
set_option linter.unusedSimpArgs false
set_option linter.unusedVariables false
def W70 : WC × List VRes:=(.seq (.reg [.set [(2,.c (.v (.bool false)))] [2]]) (.seq (.reg [.set [(6,.ap (.load 1 false) [.ap (.fld 0) [.ap .chk [.t 0]]])] [3,4,5,6],.stm (.eff (.callm 7 77 [.t 6]) none),.stm (.op 8 .mv [.t 7] none),.stm (.op 9 .mv [.t 0] (some (8,true))),.stm (.op 10 .chk [.t 9] (some (8,true))),.stm (.op 11 (.fld 1) [.t 10] (some (8,true))),.stm (.op 12 (.load 1 false) [.t 11] (some (8,true))),.stm (.eff (.callm 13 78 [.t 12]) (some (8,true))),.stm (.op 14 .pick [.t 8,.t 13,.c (.v (.bool false))] none),.stm (.op 15 .mv [.t 14] none),.stm (.op 16 .mv [.t 0] (some (15,true))),.stm (.op 17 .chk [.t 16] (some (15,true))),.stm (.op 18 (.fld 2) [.t 17] (some (15,true))),.stm (.op 19 (.load 1 false) [.t 18] (some (15,true))),.stm (.eff (.callm 20 79 [.t 19]) (some (15,true))),.stm (.op 21 .pick [.t 15,.t 20,.c (.v (.bool false))] none),.stm (.op 22 .mv [.t 21] none),.stm (.op 23 .mv [.t 0] (some (22,true))),.stm (.op 24 .chk [.t 23] (some (22,true))),.stm (.op 25 (.fld 3) [.t 24] (some (22,true))),.stm (.op 26 (.load 1 false) [.t 25] (some (22,true))),.stm (.eff (.callm 27 80 [.t 26]) (some (22,true))),.stm (.op 28 .pick [.t 22,.t 27,.c (.v (.bool false))] none),.stm (.op 29 .mv [.t 28] none),.stm (.op 30 .mv [.t 0] (some (29,true))),.stm (.op 31 .chk [.t 30] (some (29,true))),.stm (.op 32 (.fld 4) [.t 31] (some (29,true))),.stm (.op 33 (.load 1 false) [.t 32] (some (29,true))),.stm (.eff (.callm 34 81 [.t 33]) (some (29,true))),.stm (.op 35 .pick [.t 29,.t 34,.c (.v (.bool false))] none),.stm (.op 36 .mv [.t 35] none),.stm (.op 37 .mv [.t 0] (some (36,true))),.stm (.op 38 .chk [.t 37] (some (36,true))),.stm (.op 39 (.fld 5) [.t 38] (some (36,true))),.stm (.op 40 (.load 1 false) [.t 39] (some (36,true))),.stm (.eff (.callm 41 82 [.t 40]) (some (36,true))),.stm (.op 42 .pick [.t 36,.t 41,.c (.v (.bool false))] none),.stm (.op 43 .mv [.t 42] none),.stm (.op 44 .mv [.t 0] (some (43,true))),.stm (.op 45 .chk [.t 44] (some (43,true))),.stm (.op 46 (.fld 6) [.t 45] (some (43,true))),.stm (.op 47 (.load 1 false) [.t 46] (some (43,true))),.stm (.eff (.callm 48 83 [.t 47]) (some (43,true))),.stm (.op 49 .pick [.t 43,.t 48,.c (.v (.bool false))] none),.stm (.op 50 .mv [.t 49] none),.stm (.op 51 .mv [.t 0] (some (50,true))),.stm (.op 52 .chk [.t 51] (some (50,true))),.stm (.op 53 (.fld 7) [.t 52] (some (50,true))),.stm (.op 54 (.load 1 false) [.t 53] (some (50,true))),.stm (.eff (.callm 55 84 [.t 54]) (some (50,true))),.stm (.op 56 .pick [.t 50,.t 55,.c (.v (.bool false))] none),.stm (.op 57 .mv [.t 56] none),.stm (.op 58 .mv [.t 0] (some (57,true))),.stm (.op 59 .chk [.t 58] (some (57,true))),.stm (.op 60 (.fld 8) [.t 59] (some (57,true))),.stm (.op 61 (.load 1 false) [.t 60] (some (57,true))),.stm (.eff (.callm 62 85 [.t 61]) (some (57,true))),.stm (.op 63 .pick [.t 57,.t 62,.c (.v (.bool false))] none),.stm (.op 64 .mv [.t 63] none),.stm (.op 65 .mv [.t 0] (some (64,true))),.stm (.op 66 .chk [.t 65] (some (64,true))),.stm (.op 67 (.fld 9) [.t 66] (some (64,true))),.stm (.op 68 (.load 1 false) [.t 67] (some (64,true))),.stm (.eff (.callm 69 86 [.t 68]) (some (64,true))),.stm (.op 70 .pick [.t 64,.t 69,.c (.v (.bool false))] none),.stm (.op 71 .mv [.t 70] none),.stm (.op 72 .mv [.t 0] (some (71,true))),.stm (.op 73 .chk [.t 72] (some (71,true))),.stm (.op 74 (.fld 10) [.t 73] (some (71,true))),.stm (.op 75 (.load 1 false) [.t 74] (some (71,true))),.stm (.eff (.callm 76 87 [.t 75]) (some (71,true))),.stm (.op 77 .pick [.t 71,.t 76,.c (.v (.bool false))] none),.stm (.op 78 .mv [.t 77] none),.stm (.op 79 .mv [.t 0] (some (78,true))),.stm (.op 80 .chk [.t 79] (some (78,true))),.stm (.op 81 (.fld 11) [.t 80] (some (78,true))),.stm (.op 82 (.load 1 false) [.t 81] (some (78,true))),.stm (.eff (.callm 83 88 [.t 82]) (some (78,true))),.stm (.op 84 .pick [.t 78,.t 83,.c (.v (.bool false))] none),.stm (.op 85 .mv [.t 84] none),.stm (.op 86 .mv [.t 0] (some (85,true))),.stm (.op 87 .chk [.t 86] (some (85,true))),.stm (.op 88 (.fld 12) [.t 87] (some (85,true))),.stm (.op 89 (.load 1 false) [.t 88] (some (85,true))),.stm (.eff (.callm 90 89 [.t 89]) (some (85,true))),.stm (.op 91 .pick [.t 85,.t 90,.c (.v (.bool false))] none),.stm (.op 92 .mv [.t 91] none),.stm (.op 93 .mv [.t 0] (some (92,true))),.stm (.op 94 .chk [.t 93] (some (92,true))),.stm (.op 95 (.fld 13) [.t 94] (some (92,true))),.stm (.op 96 (.load 1 false) [.t 95] (some (92,true))),.stm (.eff (.callm 97 90 [.t 96]) (some (92,true))),.stm (.op 98 .pick [.t 92,.t 97,.c (.v (.bool false))] none),.stm (.op 99 .mv [.t 98] none),.stm (.op 100 .mv [.t 0] (some (99,true))),.stm (.op 101 .chk [.t 100] (some (99,true))),.stm (.op 102 (.fld 14) [.t 101] (some (99,true))),.stm (.op 103 (.load 1 false) [.t 102] (some (99,true))),.stm (.eff (.callm 104 91 [.t 103]) (some (99,true))),.stm (.op 105 .pick [.t 99,.t 104,.c (.v (.bool false))] none),.stm (.op 106 .mv [.t 105] none),.stm (.op 107 .mv [.t 0] (some (106,true))),.stm (.op 108 .chk [.t 107] (some (106,true))),.stm (.op 109 (.fld 15) [.t 108] (some (106,true))),.stm (.op 110 (.load 1 false) [.t 109] (some (106,true))),.stm (.eff (.callm 111 92 [.t 110]) (some (106,true))),.stm (.op 112 .pick [.t 106,.t 111,.c (.v (.bool false))] none),.stm (.op 113 .mv [.t 112] none),.stm (.op 114 .mv [.t 0] (some (113,true))),.stm (.op 115 .chk [.t 114] (some (113,true))),.stm (.op 116 (.fld 16) [.t 115] (some (113,true))),.stm (.op 117 (.load 1 false) [.t 116] (some (113,true))),.stm (.eff (.callm 118 93 [.t 117]) (some (113,true))),.set [(2,.ite (.t 113) (.t 118) (.c (.v (.bool false))))] [119,2]]) .ret),[.t 2])
theorem is70 : IsFn Try.prog frOf 70 Try.f70 W70:=⟨by kernel_rfl,by kernel_rfl,by kernel_rfl⟩
theorem nt70 : Try.f70.ntmps = 120:=by kernel_rfl
def W51 : WC × List VRes:=(.seq (.reg [.set [(2,.c (.v (.bool false)))] [2]]) (.seq (.reg [.set [(5,.ap (.build (zrep 17 .nil) []) [])] [5],.stm (.eff (.box 6 (.t 5)) none),.set [(3,.t 6)] [3]]) (.seq (.seq (.reg [.set [(4,.c (.v (.int .i64 0)))] [4]]) (.block 0 (.loop (.seq (.seq (.reg [.set [(10,.ap (.ibin .lss) [.t 4,.ap .llen [.t 0]])] [7,8,9,10]]) (.cond (.t 10) .skip (.exit 0))) (.seq (.block 1 (.reg [.set [(13,.t 3),(17,.ap (.load 1 false) [.ap (.idx 22 1) [.t 0,.t 4]])] [13,14,15,16,17],.stm (.eff (.callm 18 69 [.t 13,.t 17]) none)])) (.reg [.set [(4,.ap (.ibin .add) [.t 4,.c (.v (.int .i64 1))])] [11,12,4]])))))) (.seq (.reg [.set [(19,.t 3)] [19],.stm (.eff (.callm 20 70 [.t 19]) none),.set [(2,.t 20)] [2]]) .ret))),[.t 2])
theorem is51 : IsFn Try.prog frOf 51 Try.f51 W51:=⟨by kernel_rfl,by kernel_rfl,by kernel_rfl⟩
theorem nt51 : Try.f51.ntmps = 21:=by kernel_rfl
def W52 : WC × List VRes:=(.seq (.reg [.set [(2,.c (.v (.bool false)))] [2]]) (.seq (.reg [.set [(5,.ap (.build (zrep 17 .nil) []) [])] [5],.stm (.eff (.box 6 (.t 5)) none),.set [(3,.t 6)] [3]]) (.seq (.seq (.reg [.set [(4,.c (.v (.int .i64 0)))] [4]]) (.block 0 (.loop (.seq (.seq (.reg [.set [(10,.ap (.ibin .lss) [.t 4,.ap .llen [.t 0]])] [7,8,9,10]]) (.cond (.t 10) .skip (.exit 0))) (.seq (.block 1 (.reg [.set [(13,.t 3),(17,.ap (.load 1 false) [.ap (.idx 34 1) [.t 0,.t 4]])] [13,14,15,16,17],.stm (.eff (.callm 18 71 [.t 13,.t 17]) none)])) (.reg [.set [(4,.ap (.ibin .add) [.t 4,.c (.v (.int .i64 1))])] [11,12,4]])))))) (.seq (.reg [.set [(19,.t 3)] [19],.stm (.eff (.callm 20 70 [.t 19]) none),.set [(2,.t 20)] [2]]) .ret))),[.t 2])
theorem is52 : IsFn Try.prog frOf 52 Try.f52 W52:=⟨by kernel_rfl,by kernel_rfl,by kernel_rfl⟩
theorem nt52 : Try.f52.ntmps = 21:=by kernel_rfl
theorem adoptM_gen {σ : St} (W : WF σ) {t : Tok} {o : HO} (h : σ.m t = some o) (x : Nat) (d : D) {m' : Mem} (hm' : m' (0 :: t) = some (o.ren up)) : (σ.adoptM x d m').m t = some (o.ren fun t=>t):=by
  have e1 : ((m' (0 :: t)).map (HO.ren (dnTok x (σ.c x)))) = some (o.ren fun t=>t):=by
    rw [hm',Option.map_some,HO.ren_ren]
    rfl
  have e2 : keepOld (σ.m t) ((m' (0 :: t)).map (HO.ren (dnTok x (σ.c x)))) = some (o.ren fun t=>t):=by rw [e1,h]; rfl
  match t,h,e2 with
  | [],_,e2=>exact e2
  | [_],_,e2=>exact e2
  | a :: b :: r,h,e2=>
    show (if a = x + 1∧b = σ.c x then _ else _) = _
    by_cases hab : a = x + 1∧b = σ.c x
    · obtain ⟨rfl,rfl⟩:=hab
      rw [W x (σ.c x) r (Nat.le_refl _)] at h
      cases h
    · rw [if_neg hab]; exact e2
theorem adoptM_g2 {σ : St} (W : WF σ) {t : Tok} {o o' : HO} (h : σ.m t = some o) (x : Nat) (d : D) {m' : Mem} (hm' : m' (0 :: t) = some o') : (σ.adoptM x d m').m t = some (o'.ren (dnTok x (σ.c x))):=by
  have e2 : keepOld (σ.m t) ((m' (0 :: t)).map (HO.ren (dnTok x (σ.c x)))) = some (o'.ren (dnTok x (σ.c x))):=by rw [hm',h]; rfl
  match t,h,e2 with
  | [],_,e2=>exact e2
  | [_],_,e2=>exact e2
  | a :: b :: r,h,e2=>
    show (if a = x + 1∧b = σ.c x then _ else _) = _
    by_cases hab : a = x + 1∧b = σ.c x
    · obtain ⟨rfl,rfl⟩:=hab
      rw [W x (σ.c x) r (Nat.le_refl _)] at h
      cases h
    · rw [if_neg hab]; exact e2
theorem adoptM_new {σ : St} {x : Nat} {d : D} {m' : Mem} {b : Nat} {r : Tok} : (σ.adoptM x d m').m ((x + 1) :: σ.c x :: (b + 1) :: r) = (m' ((b + 1) :: r)).map (HO.ren (dnTok x (σ.c x))):=by
  show (if x + 1 = x + 1∧σ.c x = σ.c x then _ else _) = _
  rw [if_pos ⟨rfl,rfl⟩]
theorem up_ren {m : Mem} {τ : Tok} {o : HO} (h : upM m τ = some o) : (o.ren fun t=>t) = o:=by
  obtain ⟨r,q,rfl,hq,rfl⟩:=upM_dom h
  rw [HO.ren_ren]
def DrM (B M : Mem) : Prop:=∀ τ o,B τ = some o→M τ = some o
theorem DrM.nil {D0 m : Mem} {σ : St} (W : WF σ) (h : DrM D0 σ.m) (hD : ∀ τ o,D0 τ = some o→upM m τ = some o) (x : Nat) (d : D) : DrM D0 (σ.adoptM x d (upM σ.m)).m:=fun τ o ho=>by
  rw [adoptM_keep W (h τ o ho),up_ren (hD τ o ho)]
theorem DrM.sp {B D' m : Mem} {σ : St} (W : WF σ) (h : Up m σ.m) (hD : ∀ τ o,B τ = some o→upM m τ = some o) (hD' : ∀ τ o,B τ = some o→D' (0 :: τ) = some (o.ren up)) (x : Nat) (d : D) : DrM B (σ.adoptM x d D').m:=fun τ o ho=>by
  rw [adoptM_gen W (h τ o (hD τ o ho)) x d (hD' τ o ho),up_ren (hD τ o ho)]
def Snil : FM:=fun M ds=>match ds with
  | [.nil]=>some (bv true,upM M)
  | _=>none
theorem snil {n : Nat} (h : ∀ m,VCm Try.prog n m [.nil] (bv true) (upM m)) : OkM n Snil:=fun m ds d m' e=>by
  unfold Snil at e
  split at e
  · cases e; exact h m
  · cases e
end Go.Proofs.Ytpmgaaalfdjikaa
