/- TurnSmall: the law returns true (second part of the proof). No condition. -/
import Derived.Test.YtpmgaaalfdjikaaZa
namespace Go.Proofs.Ytpmgaaalfdjikaa
open Go.RowKit
set_option linter.unusedSimpArgs false
set_option linter.unusedVariables false
def inP (P : List Row) (n : Int) : Prop:=∀ x ∈ P,1≤x.ns∧x.ns≤n∧1≤x.ew∧x.ew≤n∧x.ns ≠ x.ew
def tm (P : List Row) (p q : Int) (a b : Row) : Int:=if b.s = a.s then (if a = b then ((playsN P a.s : Int) - 1) * (eqI a.ns p * eqI a.ew q + eqI a.ew p * eqI a.ns q)
  else eqI a.ns p * eqI b.ns q + eqI a.ew p * eqI b.ew q - eqI a.ns p * eqI b.ew q - eqI a.ew p * eqI b.ns q) else 0
def cpq (P : List Row) (p q : Int) : Int:=(P.map fun a=>(P.map fun b=>tm P p q a b).sum).sum
theorem hit_eq {a b : Int} {p q : Nat} (ha : 0≤a∧a≤49) (hb : 0≤b∧b≤49) (hp : p≤49) (hq : q≤49) (v : Int) : hit (cellOf a b) (p * 50 + q) v = v * (eqI a p * eqI b q):=by
  unfold hit cellOf eqI
  by_cases h1 : a = p
  · by_cases h2 : b = q
    · rw [if_pos (by omega),if_pos h1,if_pos h2]; omega
    · rw [if_neg (by omega),if_neg h2]; omega
  · rw [if_neg (by omega),if_neg h1]; omega
theorem allC_cpq {P : List Row} {n : Int} (hP : inP P n) (hn : n≤49) {p q : Nat} (hp : p≤49) (hq : q≤49) : allC P (p * 50 + q) = cpq P p q:=by
  unfold allC cpq
  refine sum_congr fun a ha=>sum_congr fun b hb=>?_
  have a1:=hP a ha
  have b1:=hP b hb
  unfold pairC tm
  split
  · unfold contr
    split
    · rw [hit_eq (by omega) (by omega) hp hq,hit_eq (by omega) (by omega) hp hq,Int.mul_add]
    · rw [hit_eq (by omega) (by omega) hp hq,hit_eq (by omega) (by omega) hp hq,hit_eq (by omega) (by omega) hp hq,hit_eq (by omega) (by omega) hp hq]
      omega
  · rfl
theorem tm_symm (P : List Row) (p q : Int) (a b : Row) : tm P q p a b = tm P p q b a:=by
  unfold tm
  by_cases hs : b.s = a.s
  · rw [if_pos hs,if_pos hs.symm]
    by_cases hab : a = b
    · subst hab
      rw [if_pos rfl,if_pos rfl,Int.mul_comm (eqI a.ns q),Int.mul_comm (eqI a.ew q),Int.add_comm]
    · rw [if_neg hab,if_neg (Ne.symm hab),Int.mul_comm (eqI a.ns q) (eqI b.ns p),Int.mul_comm (eqI a.ew q) (eqI b.ew p),Int.mul_comm (eqI a.ns q) (eqI b.ew p),Int.mul_comm (eqI a.ew q) (eqI b.ns p)]
      omega
  · rw [if_neg hs,if_neg (Ne.symm hs)]
theorem cpq_symm (P : List Row) (p q : Int) : cpq P q p = cpq P p q:=by
  unfold cpq
  rw [sum_comm2 (fun a b=>tm P p q a b)]
  exact sum_congr fun a _=>sum_congr fun b _=>tm_symm P p q a b
theorem cpq_out {P : List Row} {n : Int} (hP : inP P n) {p : Int} (hp : p < 1 ∨ n < p) (q : Int) : cpq P p q = 0:=by
  unfold cpq
  refine sum_zero fun a ha=>sum_zero fun b hb=>?_
  have a1:=hP a ha
  have e1 : eqI a.ns p = 0:=if_neg (by omega)
  have e2 : eqI a.ew p = 0:=if_neg (by omega)
  unfold tm
  rw [e1,e2]
  simp
theorem sum_pickR (v : Int) (a : Row) : ∀ {P : List Row},P.Nodup→a ∈ P→(P.map fun b=>if b = a then v else 0).sum = v
  | b :: P,hn,hk=>by
    rw [List.nodup_cons] at hn
    rw [List.map_cons,List.sum_cons]
    by_cases e : b = a
    · subst e
      have : (P.map fun c=>if c = b then v else 0).sum = 0:=sum_zero fun s hs=>if_neg fun h=>hn.1 (by rw [← h]; exact hs)
      rw [if_pos rfl,this]
      omega
    · rw [if_neg e,sum_pickR v a hn.2 ((List.mem_cons.1 hk).resolve_left (Ne.symm e))]
      omega
theorem fit_inP {m : Mv} (h : fitB m = true) : inP (m.rows.filter played) (great m.rows):=fun x hx=>by
  obtain ⟨h1,h2⟩:=List.mem_filter.1 hx
  have hr:=((fit_iff m).1 h).2.1 x h1
  have hp : 0 < x.ns∧0 < x.ew:=by simpa [played] using h2
  have hg : ∀ (l : List Row) (p : Int),p≤l.foldl (fun p x=>max (max p x.ns) x.ew) p∧∀ x ∈ l,x.ns≤l.foldl (fun p x=>max (max p x.ns) x.ew) p∧x.ew≤l.foldl (fun p x=>max (max p x.ns) x.ew) p:=by
    intro l
    induction l with
    | nil=>intro p; exact ⟨Int.le_refl _,by simp⟩
    | cons y l ih=>
      intro p
      obtain ⟨i1,i2⟩:=ih (max (max p y.ns) y.ew)
      rw [List.foldl_cons]
      refine ⟨by omega,fun z hz=>?_⟩
      rcases List.mem_cons.1 hz with rfl | hz
      · omega
      · exact i2 z hz
  have:=(hg m.rows 0).2 x h1
  unfold rowP at hr
  have e : great m.rows = m.rows.foldl (fun p x=>max (max p x.ns) x.ew) 0:=rfl
  rw [e]
  omega
theorem fit_nodup {m : Mv} (h : fitB m = true) : m.rows.Nodup:=by
  have:=((fit_iff m).1 h).2.2
  exact this.imp fun {a b} hs e=>by
    subst e
    exact (hs rfl).1 rfl
end Go.Proofs.Ytpmgaaalfdjikaa
namespace Go.Proofs.Ytpmgaaalfdjikaa
open Go.RowKit
set_option linter.unusedSimpArgs false
set_option linter.unusedVariables false
theorem cont_symm {m : Mv} (hf : fitB m = true) {p q : Nat} (hp : p≤49) (hq : q≤49) : cont m.rows (p * 50 + q) = cont m.rows (q * 50 + p):=by
  have hP:=fit_inP hf
  have hg:=great_bounds (fit_pairs hf)
  unfold cont
  by_cases h : p = q
  · subst h; rfl
  · rw [if_neg (by omega),if_neg (by omega),allC_cpq hP hg.2 hp hq,allC_cpq hP hg.2 hq hp,cpq_symm]
theorem cont_diag (l : List Row) {p : Nat} (h1 : 1≤p) (h : p≤49) : cont l (p * 50 + p) = 0:=by
  unfold cont
  rw [if_pos (by omega)]
theorem cont_out {m : Mv} (hf : fitB m = true) {n : Nat} (hn : great m.rows = n) {p q : Nat} (hp : p≤49) (hq : q≤49) (ho : p < 1 ∨ n < p) : cont m.rows (p * 50 + q) = 0:=by
  have hP:=fit_inP hf
  have hg:=great_bounds (fit_pairs hf)
  unfold cont
  split
  · rfl
  · rw [allC_cpq hP hg.2 hp hq]
    exact cpq_out hP (by omega) q
theorem window (f : Nat→Int) {n : Nat} (hn : n≤49) (h : ∀ x,x≤49→x < 1 ∨ n < x→f x = 0) : ((List.range 50).map f).sum = ((List.range n).map fun p=>f (p + 1)).sum:=by
  have h1 : ((List.range 50).map f).sum = f 0 + ((List.range 49).map fun p=>f (p + 1)).sum:=by
    rw [show (50 : Nat) = 49 + 1 from rfl,List.range_succ_eq_map,List.map_cons,List.sum_cons,List.map_map]
    rfl
  have h2 : ∀ k,n + k≤49→((List.range (n + k)).map fun p=>f (p + 1)).sum = ((List.range n).map fun p=>f (p + 1)).sum:=by
    intro k
    induction k with
    | zero=>intro _; rfl
    | succ k ih=>
      intro hk
      rw [show n + (k + 1) = (n + k) + 1 from rfl,List.range_succ,List.map_append,List.sum_append,ih (by omega)]
      simp only [List.map_cons,List.map_nil,List.sum_cons,List.sum_nil]
      rw [h (n + k + 1) (by omega) (.inr (by omega))]
      omega
  have h3:=h2 (49 - n) (by omega)
  rw [show n + (49 - n) = 49 by omega] at h3
  rw [h1,h3,h 0 (by omega) (.inl (by omega))]
  omega
theorem unb_law {m : Mv} (hf : fitB m = true) {n : Nat} (hn : great m.rows = n) : 2 * sqOut (cont m.rows) 50 = ((List.range n).map fun p=>((List.range n).map fun q=>cont m.rows ((p + 1) * 50 + (q + 1)) * cont m.rows ((p + 1) * 50 + (q + 1))).sum).sum:=by
  have hg:=great_bounds (fit_pairs hf)
  obtain ⟨G,hG⟩ : ∃ G : Nat→Nat→Int,G = fun a k=>cont m.rows (a * 50 + k) * cont m.rows (a * 50 + k):=⟨_,rfl⟩
  have sym : ∀ a k,a≤49→k≤49→G a k = G k a:=fun a k ha hk=>by rw [hG]; simp only; rw [cont_symm hf ha hk]
  have out : ∀ a k,a≤49→k≤49→a < 1 ∨ n < a→G a k = 0:=fun a k ha hk ho=>by rw [hG]; simp only; rw [cont_out hf hn ha hk ho]; rfl
  have dia : ∀ a,a≤49→G a a = 0:=fun a ha=>by
    by_cases h0 : a < 1
    · exact out a a ha ha (.inl h0)
    · rw [hG]; simp only; rw [cont_diag _ (by omega) ha]; rfl
  have full : ((List.range 50).map fun a=>((List.range 50).map fun k=>G a k).sum).sum = ((List.range n).map fun p=>((List.range n).map fun q=>G (p + 1) (q + 1)).sum).sum:=by
    rw [window (fun a=>((List.range 50).map fun k=>G a k).sum) (n:=n) (by omega) fun a ha ho=>sum_zero fun k hk=>out a k ha (by have:=List.mem_range.1 hk; omega) ho]
    refine sum_congr fun p hp=>?_
    have hp':=List.mem_range.1 hp
    exact window (fun k=>G (p + 1) k) (n:=n) (by omega) fun k hk ho=>by rw [sym _ _ (by omega) hk]; exact out k _ hk (by omega) ho
  have half : sqOut (cont m.rows) 50 = ((List.range 50).map fun a=>((List.range 50).map fun k=>if a < k then G a k else 0).sum).sum:=by rw [hG]; rfl
  have half2 : ((List.range 50).map fun a=>((List.range 50).map fun k=>if k < a then G a k else 0).sum).sum = sqOut (cont m.rows) 50:=by
    rw [half,sum_comm2 (fun a k=>if k < a then G a k else 0)]
    refine sum_congr fun a ha=>sum_congr fun k hk=>?_
    have ha':=List.mem_range.1 ha
    have hk':=List.mem_range.1 hk
    rw [sym k a (by omega) (by omega)]
  have both : ((List.range 50).map fun a=>((List.range 50).map fun k=>G a k).sum).sum = ((List.range 50).map fun a=>((List.range 50).map fun k=>if a < k then G a k else 0).sum).sum + ((List.range 50).map fun a=>((List.range 50).map fun k=>if k < a then G a k else 0).sum).sum:=by
    rw [← sum_map_add]
    refine sum_congr fun a ha=>?_
    rw [← sum_map_add]
    refine sum_congr fun k hk=>?_
    have ha':=List.mem_range.1 ha
    by_cases h1 : a < k
    · rw [if_pos h1,if_neg (by omega)]; omega
    · by_cases h2 : k < a
      · rw [if_neg h1,if_pos h2]; omega
      · have : a = k:=by omega
        subst this
        rw [if_neg h1,dia a (by omega)]; rfl
  rw [half2,← half] at both
  rw [hG] at full both
  simp only at full both
  rw [← full,both]
  omega
end Go.Proofs.Ytpmgaaalfdjikaa
namespace Go.Proofs.Ytpmgaaalfdjikaa
open Go.RowKit
set_option linter.unusedSimpArgs false
set_option linter.unusedVariables false
def tbD (a n : Nat) : D:=if n = 0 then .nil else .sl [a,0] 1 0 n none
def TbM (m : Mem) (a n : Nat) (Ls : List (List Int)) : Prop:=0 < n→(∃ g,m [a,0] = some (.row g 34 (hdsF (fun j=>[a,0,j + 1]) 0 Ls)))∧LsF (fun j=>[a,0,j + 1]) (fun j=>[a,0,0,j]) m 0 Ls
@[simp] theorem tbD_def (a n : Nat) : (tbD a n).isDef = true:=by unfold tbD; split <;> rfl
@[simp] theorem tbD_len (a n : Nat) : (tbD a n).lenD = some n:=by
  unfold tbD
  split
  · rename_i h; subst h; rfl
  · rfl
theorem TbM.old {m m' : Mem} {a n : Nat} {Ls : List (List Int)} (h : TbM m a n Ls) (h0 : ∀ g es,m [a,0] = some (.row g 34 es)→m' [a,0] = some (.row g 34 es)) (h1 : ∀ j es,m [a,0,j + 1] = some (.row [a,0,0,j] 3 es)→m' [a,0,j + 1] = some (.row [a,0,0,j] 3 es)) : TbM m' a n Ls:=fun hn=>by
  obtain ⟨⟨g,h2⟩,h3⟩:=h hn
  exact ⟨⟨g,h0 g _ h2⟩,h3.old fun i _ es e=>h1 (0 + i) es e⟩
theorem TbM.adopt {σ : St} {x : Nat} {d : D} {n : Nat} {Ls : List (List Int)} (hc : σ.c x = 0) : TbM (σ.adopt x d (tableMem Ls)).m (x + 1) n Ls:=fun _=>by
  refine ⟨⟨[x + 1,0,0],?_⟩,fun i L hi hL=>?_⟩
  · simp [St.adopt,hc,tableMem,HO.ren,hdsF_ren]
  · have e : tableMem Ls [0 + i + 1] = some (.row [0,0 + i] 3 (ints L)):=by simp only [Nat.zero_add,tableMem,hi,Option.bind_some,if_neg hL]
    show (if x + 1 = x + 1∧0 = σ.c x then (tableMem Ls [0 + i + 1]).map (HO.ren fun t=>(x + 1) :: σ.c x :: t) else σ.m [x + 1,0,0 + i + 1]) = _
    rw [e,hc,if_pos ⟨rfl,rfl⟩]
    simp [HO.ren]
end Go.Proofs.Ytpmgaaalfdjikaa
namespace Go.Proofs.Ytpmgaaalfdjikaa
open Go.RowKit Go.ChangeShapes Go.WideShapes Go.ChangeAt
set_option linter.unusedSimpArgs false
set_option linter.unusedVariables false
set_option linter.constructorNameAsVariable false
theorem S25_at (m : Mv) (p q : Int) : S25 [.agg m.cells,iv p,iv q] = some (.tup [iv (contestR m p q).1,iv (contestR m p q).2]):=by rw [S25,asMv_of]; rfl
end Go.Proofs.Ytpmgaaalfdjikaa
namespace Go.Proofs.Ytpmgaaalfdjikaa
open Go.RowKit
set_option linter.unusedSimpArgs false
set_option linter.unusedVariables false
theorem fit_bad {m : Mv} (h : ¬ fitP m) : fitB m = false:=by
  cases hf : fitB m with
  | false=>rfl
  | true=>exact absurd ((fit_iff m).1 hf) h
end Go.Proofs.Ytpmgaaalfdjikaa
namespace Go.Proofs.Ytpmgaaalfdjikaa
open Go.RowKit Go.ChangeShapes Go.WideShapes Go.ChangeAt
set_option linter.unusedSimpArgs false
set_option linter.unusedVariables false
set_option linter.constructorNameAsVariable false
theorem bestR_e {m : Mv} {Ls : List (List Int)} {e : Int} (h : bestE m Ls = e) (h0 : e ≠ 0) : bestR m Ls = (0,e):=by
  unfold bestR
  rw [h,if_neg h0]
end Go.Proofs.Ytpmgaaalfdjikaa
namespace Go.Proofs.Ytpmgaaalfdjikaa
open Go.RowKit
set_option linter.unusedSimpArgs false
set_option linter.unusedVariables false
def W68 : WC × List VRes:=(.seq (.reg [.stm (.eff (.box 2 (.t 0)) none),.set [(4,.c (.v (.bool false)))] [4]]) (.seq (.reg [.set [(4,.ite (.ap (.ibin .eql) [.ap (.load 1 false) [.ap (.fld 2) [.t 2]],.t 1]) (.c (.v (.bool true))) (.ap (.ibin .eql) [.ap (.load 1 false) [.ap (.fld 3) [.t 2]],.t 1]))] [5,6,7,8,9,10,11,12,13,14,4]]) .ret),[.t 4])
theorem is68 : IsFn Try.prog frOf 68 Try.f68 W68:=⟨by kernel_rfl,by kernel_rfl,by kernel_rfl⟩
theorem nt68 : Try.f68.ntmps = 15:=by kernel_rfl
def W76 : WC × List VRes:=(.seq (.reg [.stm (.eff (.box 2 (.t 0)) none),.set [(4,.c (.v (.bool false)))] [4]]) (.seq (.reg [.set [(4,.ite (.ite (.ap (.ibin .gtr) [.ap (.load 1 false) [.ap (.fld 2) [.t 2]],.c (.v (.int .i64 0))]) (.ap (.ibin .gtr) [.ap (.load 1 false) [.ap (.fld 3) [.t 2]],.c (.v (.int .i64 0))]) (.c (.v (.bool false)))) (.ap (.ibin .eql) [.ap (.load 1 false) [.ap (.fld 4) [.t 2]],.t 1]) (.c (.v (.bool false))))] [5,6,7,8,9,10,11,12,13,14,15,16,17,18,4]]) .ret),[.t 4])
theorem is76 : IsFn Try.prog frOf 76 Try.f76 W76:=⟨by kernel_rfl,by kernel_rfl,by kernel_rfl⟩
theorem nt76 : Try.f76.ntmps = 19:=by kernel_rfl
def W49 : WC × List VRes:=(.seq (.reg [.stm (.eff (.box 1 (.t 0)) none),.set [(2,.c (.v (.bool false)))] [2]]) (.seq (.seq (.reg [.set [(35,.ite (.ite (.ite (.ite (.ap (.ibin .lss) [.ap (.load 1 false) [.ap (.fld 0) [.t 1]],.c (.v (.int .i64 1))]) (.c (.v (.bool true))) (.ap (.ibin .gtr) [.ap (.load 1 false) [.ap (.fld 0) [.t 1]],.c (.v (.int .i64 24))])) (.c (.v (.bool true))) (.ap (.ibin .lss) [.ap (.load 1 false) [.ap (.fld 1) [.t 1]],.c (.v (.int .i64 1))])) (.c (.v (.bool true))) (.ap (.ibin .gtr) [.ap (.load 1 false) [.ap (.fld 1) [.t 1]],.c (.v (.int .i64 47))])) (.c (.v (.bool true))) (.ap (.ibin .gtr) [.ap .llen [.ap (.load 1 false) [.ap (.fld 5) [.t 1]]],.ap (.ibin .mul) [.ap (.load 1 false) [.ap (.fld 0) [.t 1]],.ap (.load 1 false) [.ap (.fld 1) [.t 1]]]]))] [7,8,9,10,11,12,13,14,15,16,17,18,19,20,21,22,23,24,25,26,27,28,29,30,31,32,33,34,35]]) (.cond (.t 35) (.seq (.reg [.set [(2,.c (.v (.bool false)))] [2]]) .ret) .skip)) (.seq (.seq (.reg [.set [(3,.c (.v (.int .i64 0)))] [3]]) (.block 0 (.loop (.seq (.seq (.reg [.set [(40,.ap (.ibin .lss) [.t 3,.ap .llen [.ap (.load 1 false) [.ap (.fld 5) [.t 1]]]])] [36,37,38,39,40]]) (.cond (.t 40) .skip (.exit 0))) (.seq (.block 1 (.seq (.reg [.set [(47,.ap (.load 5 true) [.ap (.idx 53 5) [.ap (.load 1 false) [.ap (.fld 5) [.t 1]],.t 3]])] [43,44,45,46,47],.stm (.eff (.box 4 (.c (.agg [.v (.int .i64 0),.v (.int .i64 0),.v (.int .i64 0),.v (.int .i64 0),.v (.int .i64 0)]))) none),.stm (.eff (.store 5 (.t 4) (.t 47)) none)]) (.seq (.seq (.reg [.set [(113,.ite (.ite (.ite (.ite (.ite (.ite (.ite (.ite (.ite (.ite (.ap (.ibin .lss) [.ap (.load 1 false) [.ap (.fld 0) [.t 4]],.c (.v (.int .i64 0))]) (.c (.v (.bool true))) (.ap (.ibin .geq) [.ap (.load 1 false) [.ap (.fld 0) [.t 4]],.ap (.load 1 false) [.ap (.fld 1) [.t 1]]])) (.c (.v (.bool true))) (.ap (.ibin .lss) [.ap (.load 1 false) [.ap (.fld 1) [.t 4]],.c (.v (.int .i64 0))])) (.c (.v (.bool true))) (.ap (.ibin .geq) [.ap (.load 1 false) [.ap (.fld 1) [.t 4]],.ap (.load 1 false) [.ap (.fld 0) [.t 1]]])) (.c (.v (.bool true))) (.ap (.ibin .lss) [.ap (.load 1 false) [.ap (.fld 4) [.t 4]],.c (.v (.int .i64 0))])) (.c (.v (.bool true))) (.ap (.ibin .geq) [.ap (.load 1 false) [.ap (.fld 4) [.t 4]],.ap (.load 1 false) [.ap (.fld 2) [.t 1]]])) (.c (.v (.bool true))) (.ap (.ibin .lss) [.ap (.load 1 false) [.ap (.fld 2) [.t 4]],.c (.v (.int .i64 0))])) (.c (.v (.bool true))) (.ap (.ibin .gtr) [.ap (.load 1 false) [.ap (.fld 2) [.t 4]],.c (.v (.int .i64 49))])) (.c (.v (.bool true))) (.ap (.ibin .lss) [.ap (.load 1 false) [.ap (.fld 3) [.t 4]],.c (.v (.int .i64 0))])) (.c (.v (.bool true))) (.ap (.ibin .gtr) [.ap (.load 1 false) [.ap (.fld 3) [.t 4]],.c (.v (.int .i64 49))])) (.c (.v (.bool true))) (.ite (.ap (.ibin .eql) [.ap (.load 1 false) [.ap (.fld 2) [.t 4]],.ap (.load 1 false) [.ap (.fld 3) [.t 4]]]) (.ap (.ibin .gtr) [.ap (.load 1 false) [.ap (.fld 2) [.t 4]],.c (.v (.int .i64 0))]) (.c (.v (.bool false)))))] [48,49,50,51,52,53,54,55,56,57,58,59,60,61,62,63,64,65,66,67,68,69,70,71,72,73,74,75,76,77,78,79,80,81,82,83,84,85,86,87,88,89,90,91,92,93,94,95,96,97,98,99,100,101,102,103,104,105,106,107,108,109,110,111,112,113]]) (.cond (.t 113) (.seq (.reg [.set [(2,.c (.v (.bool false)))] [2]]) .ret) .skip)) (.seq (.reg [.set [(5,.c (.v (.int .i64 0)))] [5]]) (.block 2 (.loop (.seq (.seq (.reg [.set [(116,.ap (.ibin .lss) [.t 5,.t 3])] [114,115,116]]) (.cond (.t 116) .skip (.exit 2))) (.seq (.block 3 (.seq (.reg [.set [(123,.ap (.load 5 true) [.ap (.idx 53 5) [.ap (.load 1 false) [.ap (.fld 5) [.t 1]],.t 5]])] [119,120,121,122,123],.stm (.eff (.box 6 (.c (.agg [.v (.int .i64 0),.v (.int .i64 0),.v (.int .i64 0),.v (.int .i64 0),.v (.int .i64 0)]))) none),.stm (.eff (.store 5 (.t 6) (.t 123)) none)]) (.seq (.reg [.set [(157,.ite (.ap (.ibin .eql) [.ap (.load 1 false) [.ap (.fld 0) [.t 6]],.ap (.load 1 false) [.ap (.fld 0) [.t 4]]]) (.ite (.ite (.ap (.ibin .eql) [.ap (.load 1 false) [.ap (.fld 1) [.t 6]],.ap (.load 1 false) [.ap (.fld 1) [.t 4]]]) (.c (.v (.bool true))) (.ite (.ap (.ibin .gtr) [.ap (.load 1 false) [.ap (.fld 2) [.t 6]],.c (.v (.int .i64 0))]) (.ap (.call 68) [.ap (.load 5 true) [.t 4],.ap (.load 1 false) [.ap (.fld 2) [.t 6]]]) (.c (.v (.bool false))))) (.c (.v (.bool true))) (.ite (.ap (.ibin .gtr) [.ap (.load 1 false) [.ap (.fld 3) [.t 6]],.c (.v (.int .i64 0))]) (.ap (.call 68) [.ap (.load 5 true) [.t 4],.ap (.load 1 false) [.ap (.fld 3) [.t 6]]]) (.c (.v (.bool false))))) (.c (.v (.bool false))))] [124,125,126,127,128,129,130,131,132,133,134,135,136,137,138,139,140,141,142,143,144,145,146,147,148,149,150,151,152,153,154,155,156,157]]) (.cond (.t 157) (.seq (.reg [.set [(2,.c (.v (.bool false)))] [2]]) .ret) .skip)))) (.reg [.set [(5,.ap (.ibin .add) [.t 5,.c (.v (.int .i64 1))])] [117,118,5]]))))))))) (.reg [.set [(3,.ap (.ibin .add) [.t 3,.c (.v (.int .i64 1))])] [41,42,3]])))))) (.seq (.reg [.set [(2,.c (.v (.bool true)))] [2]]) .ret))),[.t 2])
theorem is49 : IsFn Try.prog frOf 49 Try.f49 W49:=⟨by kernel_rfl,by kernel_rfl,by kernel_rfl⟩
theorem nt49 : Try.f49.ntmps = 158:=by kernel_rfl
def W60 : WC × List VRes:=(.seq (.reg [.stm (.eff (.box 2 (.t 0)) none),.set [(4,.c (.v (.bool false)))] [4]]) (.seq (.seq (.reg [.set [(5,.c (.v (.int .i64 0)))] [5]]) (.block 0 (.loop (.seq (.seq (.reg [.set [(9,.ap (.ibin .lss) [.t 5,.ap .llen [.t 1]])] [6,7,8,9]]) (.cond (.t 9) .skip (.exit 0))) (.seq (.block 1 (.seq (.reg [.set [(41,.ite (.ite (.ap (.ibin .lss) [.ap (.load 1 false) [.ap (.idx 3 1) [.t 1,.t 5]],.c (.v (.int .i64 0))]) (.c (.v (.bool true))) (.ap (.ibin .geq) [.ap (.load 1 false) [.ap (.idx 3 1) [.t 1,.t 5]],.ap (.load 1 false) [.ap (.fld 1) [.t 2]]])) (.c (.v (.bool true))) (.ite (.ap (.ibin .gtr) [.t 5,.c (.v (.int .i64 0))]) (.ap (.ibin .leq) [.ap (.load 1 false) [.ap (.idx 3 1) [.t 1,.t 5]],.ap (.load 1 false) [.ap (.idx 3 1) [.t 1,.ap (.ibin .sub) [.t 5,.c (.v (.int .i64 1))]]]]) (.c (.v (.bool false)))))] [12,13,14,15,16,17,18,19,20,21,22,23,24,25,26,27,28,29,30,31,32,33,34,35,36,37,38,39,40,41]]) (.cond (.t 41) (.seq (.reg [.set [(4,.c (.v (.bool false)))] [4]]) .ret) .skip))) (.reg [.set [(5,.ap (.ibin .add) [.t 5,.c (.v (.int .i64 1))])] [10,11,5]])))))) (.seq (.reg [.set [(4,.c (.v (.bool true)))] [4]]) .ret)),[.t 4])
theorem is60 : IsFn Try.prog frOf 60 Try.f60 W60:=⟨by kernel_rfl,by kernel_rfl,by kernel_rfl⟩
theorem nt60 : Try.f60.ntmps = 42:=by kernel_rfl
def W65 : WC × List VRes:=(.seq (.reg [.stm (.eff (.box 1 (.t 0)) none),.set [(2,.c (.v (.int .i64 0)))] [2]]) (.seq (.reg [.set [(3,.c (.v (.int .i64 0)))] [3]]) (.seq (.seq (.reg [.set [(4,.c (.v (.int .i64 0)))] [4]]) (.block 0 (.loop (.seq (.seq (.reg [.set [(9,.ap (.ibin .lss) [.t 4,.ap .llen [.ap (.load 1 false) [.ap (.fld 5) [.t 1]]]])] [5,6,7,8,9]]) (.cond (.t 9) .skip (.exit 0))) (.seq (.block 1 (.seq (.seq (.reg [.set [(19,.ap (.ibin .gtr) [.ap (.load 1 false) [.ap (.fld 2) [.ap (.idx 53 5) [.ap (.load 1 false) [.ap (.fld 5) [.t 1]],.t 4]]],.t 3])] [12,13,14,15,16,17,18,19]]) (.cond (.t 19) (.reg [.set [(3,.ap (.load 1 false) [.ap (.fld 2) [.ap (.idx 53 5) [.ap (.load 1 false) [.ap (.fld 5) [.t 1]],.t 4]]])] [20,21,22,23,24,25,3]]) .skip)) (.seq (.reg [.set [(33,.ap (.ibin .gtr) [.ap (.load 1 false) [.ap (.fld 3) [.ap (.idx 53 5) [.ap (.load 1 false) [.ap (.fld 5) [.t 1]],.t 4]]],.t 3])] [26,27,28,29,30,31,32,33]]) (.cond (.t 33) (.reg [.set [(3,.ap (.load 1 false) [.ap (.fld 3) [.ap (.idx 53 5) [.ap (.load 1 false) [.ap (.fld 5) [.t 1]],.t 4]]])] [34,35,36,37,38,39,3]]) .skip)))) (.reg [.set [(4,.ap (.ibin .add) [.t 4,.c (.v (.int .i64 1))])] [10,11,4]])))))) (.seq (.reg [.set [(2,.t 3)] [40,2]]) .ret))),[.t 2])
theorem is65 : IsFn Try.prog frOf 65 Try.f65 W65:=⟨by kernel_rfl,by kernel_rfl,by kernel_rfl⟩
theorem nt65 : Try.f65.ntmps = 41:=by kernel_rfl
def S68 : List D→Option D
  | [.agg [.v (.int .i64 _),.v (.int .i64 _),.v (.int .i64 a),.v (.int .i64 b),.v (.int .i64 _)],.v (.int .i64 p)]=>some (bv (a == p || b == p))
  | _=>none
theorem c68 (r t a b s p : Int) : VCp Try.prog 68 [.agg [iv r,iv t,iv a,iv b,iv s],iv p] (bv (a == p || b == p)):=by
  refine wcontract_p sound0 mixed is68 (by rw [nt68]; simp) ?_ rfl
  simp [W68]
theorem s68 : OkP 68 S68:=fun ds d h=>by
  unfold S68 at h
  split at h
  · obtain rfl:=Option.some.inj h
    exact c68 _ _ _ _ _ _
  · cases h
def playB (a b s q : Int) : Bool:=decide (0 < a) && decide (0 < b) && s == q
def S76 : List D→Option D
  | [.agg [.v (.int .i64 _),.v (.int .i64 _),.v (.int .i64 a),.v (.int .i64 b),.v (.int .i64 s)],.v (.int .i64 q)]=>some (bv (playB a b s q))
  | _=>none
theorem c76 (r t a b s p : Int) : VCp Try.prog 76 [.agg [iv r,iv t,iv a,iv b,iv s],iv p] (bv (playB a b s p)):=by
  refine wcontract_p sound0 mixed is76 (by rw [nt76]; simp) ?_ rfl
  simp [W76,playB]
theorem s76 : OkP 76 S76:=fun ds d h=>by
  unfold S76 at h
  split at h
  · obtain rfl:=Option.some.inj h
    exact c76 _ _ _ _ _ _
  · cases h
theorem fit_no_row {m : Mv} {k : Nat} (h : k < m.rows.length) (hr : ¬ rowP m m.rows[k]) : fitB m = false:=fit_bad fun hf=>hr (hf.2.1 _ (List.getElem_mem h))
theorem fit_no_sep {m : Mv} {j k : Nat} (h : k < m.rows.length) (hj : j < k) (hr : ¬ sep (m.rows[j]'(by omega)) m.rows[k]) : fitB m = false:=fit_bad fun hf=>hr (List.pairwise_iff_getElem.1 hf.2.2 j k (by omega) h hj)
def MvA (m : Mv) (σ : St) : Prop:=σ.s 1 = .ptr [2,0] 0∧σ.m [2,0] = some (.box [iv m.t,iv m.r,iv m.s,iv m.c,iv m.w,.list (rowsL m.rows)])
theorem c49w (p68 : FP) (m : Mv) (hl : m.rows.length≤1000000) (h68 : ∀ r t a b s p : Int,p68 [.agg [iv r,iv t,iv a,iv b,iv s],iv p] = some (bv (a == p || b == p))) :
    wwp (mkEnv [(68,p68)] [] []) W49.1 (fun e s=>okExit e∧resV W49.2 s = some (bv (fitB m))) (initV [.agg m.cells]):=by
  have hbi : (decide (m.t < 1) || decide (24 < m.t) || decide (m.r < 1) || decide (47 < m.r) || decide (IntKind.i64.wrap (m.t * m.r) < ↑m.rows.length)) = false ↔ boundOK m:=by
    simp only [Bool.or_eq_false_iff,decide_eq_false_iff_not,boundOK]
    have hw : 1≤m.t→m.t≤24→1≤m.r→m.r≤47→IntKind.i64.wrap (m.t * m.r) = m.t * m.r:=fun h1 h2 h3 h4=>by
      have e1 : m.t * m.r≤24 * 47:=Int.mul_le_mul h2 h4 (by omega) (by omega)
      have e2 : 0≤m.t * m.r:=Int.mul_nonneg (by omega) (by omega)
      exact wrap_in (by omega) (by omega)
    constructor
    · rintro ⟨⟨⟨⟨a,b⟩,c⟩,d⟩,e⟩
      rw [hw (by omega) (by omega) (by omega) (by omega)] at e
      omega
    · rintro ⟨a,b,c,d,e⟩
      rw [hw a b c d]
      omega
  simp only [W49]
  refine wwp_cutW (wf_init _) (MvA m) (by simp [MvA,Mv.cells,Mv.cellsW]) ?_
  rintro σ W ⟨h1,m2⟩
  by_cases hb : boundOK m
  · have hv:=hbi.2 hb
    have hlen : m.rows.length≤1128:=by
      obtain ⟨b1,b2,b3,b4,b5⟩:=id hb
      have e1 : m.t * m.r≤24 * 47:=Int.mul_le_mul b2 b4 (by omega) (by omega)
      omega
    refine wwp_condW W (MvA m) (by simp [MvA,h1,m2,hv]) ?_
    clear W h1 m2 hv σ
    rintro σ W ⟨h1,m2⟩
    refine wwp_cutG (fun σ=>fitB m = true) ?_ (fun σ hf=>by simp [hf])
    refine wwp_cut (fun σ=>MvA m σ∧σ.s 3 = iv 0) (by simp [MvA,h1,m2]) ?_
    clear W h1 m2 σ
    rintro σ ⟨hM,h3⟩
    simp only [wwp_block]
    refine wwp_loop (fun σ=>∃ k : Nat,k≤m.rows.length∧MvA m σ∧σ.s 3 = iv k∧∀ i (h : i < m.rows.length),i < k→rowP m m.rows[i]∧∀ j (hj : j < i),sep (m.rows[j]'(by omega)) m.rows[i]) (fun σ=>cnt m.rows.length (σ.s 3)) ?_ ?_
    · exact ⟨0,by omega,hM,h3,fun i _ h=>absurd h (by omega)⟩
    clear hM h3 σ
    rintro σ hw ⟨k,hk,⟨h1,m2⟩,h3,hok⟩
    refine wwp_seq_assoc ?_
    by_cases hlt : k < m.rows.length
    · have hw1:=wrap_succ (show k≤1000000000 by omega)
      have hmu : cnt m.rows.length (σ.s 3) = m.rows.length - k:=by simp [h3]
      simp only [hmu]
      clear hmu
      obtain ⟨x,hx⟩ : ∃ x,x = m.rows[k]:=⟨_,rfl⟩
      have hcell : (rowsL m.rows)[k]? = some x.cells:=by rw [rowsL_at hlt,hx]
      have hnr:=fit_no_row hlt
      have hns:=fun j hj=>fit_no_sep (j:=j) hlt hj
      rw [← hx] at hnr
      simp only [← hx] at hns
      refine wwp_on (fun σ=>WF σ∧MvA m σ∧σ.s 3 = iv k) (by simp [MvA,h1,m2,h3,hlt]; exact hw) ?_
      clear hw h1 m2 h3 σ
      rintro σ ⟨hw,⟨h1,m2⟩,h3⟩
      refine wwp_body (fun σ=>MvA m σ∧σ.s 3 = iv k∧rowP m x∧∀ j (hj : j < k),sep (m.rows[j]'(by omega)) x) ?_ ?_
      · refine wwp_cutW hw (fun σ=>MvA m σ∧σ.s 3 = iv k∧∃ i,σ.s 4 = .ptr [5,i] 0∧σ.m [5,i] = some (.box x.cells)) (by simp [MvA,h1,m2,h3,hlt,hcell,Row.cells,← hx]) ?_
        clear hw h1 m2 h3 σ
        rintro σ hw ⟨⟨h1,m2⟩,h3,i,h4,m5⟩
        obtain ⟨B,hB⟩ : ∃ B : Bool,B = (decide (x.r < 0) || decide (m.r≤x.r) || decide (x.t < 0) || decide (m.t≤x.t) || decide (x.s < 0) || decide (m.s≤x.s) || decide (x.ns < 0) || decide (49 < x.ns) || decide (x.ew < 0) || decide (49 < x.ew) || x.ns == x.ew && decide (0 < x.ns)):=⟨_,rfl⟩
        have hBP : B = false ↔ rowP m x:=by
          rw [hB]
          simp only [Bool.or_eq_false_iff,Bool.and_eq_false_iff,decide_eq_false_iff_not,beq_eq_false_iff_ne,rowP,inOK]
          omega
        cases hBv : B with
        | true=>
          have hf:=hnr (fun h=>by rw [hBP.2 h] at hBv; cases hBv)
          rw [hBv] at hB
          simp [h1,m2,h3,h4,m5,Row.cells,← hB,hf]
        | false=>
          have hP:=hBP.1 hBv
          rw [hBv] at hB
          refine wwp_condW hw (fun σ=>MvA m σ∧σ.s 3 = iv k∧∃ i,σ.s 4 = .ptr [5,i] 0∧σ.m [5,i] = some (.box x.cells)) (by simp [MvA,h1,m2,h3,h4,m5,Row.cells,← hB]) ?_
          clear hw h1 m2 h3 i h4 m5 hBP σ
          rintro σ hw ⟨⟨h1,m2⟩,h3,i,h4,m5⟩
          refine wwp_cut (fun σ=>MvA m σ∧σ.s 3 = iv k∧(∃ i,σ.s 4 = .ptr [5,i] 0∧σ.m [5,i] = some (.box x.cells))∧σ.s 5 = iv 0) (by simp [MvA,h1,m2,h3,h4,m5]) ?_
          clear hw h1 m2 h3 i h4 m5 σ
          rintro σ ⟨hM,h3,h4,h5⟩
          simp only [wwp_block]
          refine wwp_loop (fun σ=>∃ j : Nat,j≤k∧MvA m σ∧σ.s 3 = iv k∧(∃ i,σ.s 4 = .ptr [5,i] 0∧σ.m [5,i] = some (.box x.cells))∧σ.s 5 = iv j∧∀ l (hl : l < j),l < k→∀ hl',sep (m.rows[l]'hl') x) (fun σ=>cnt k (σ.s 5)) ?_ ?_
          · exact ⟨0,by omega,hM,h3,h4,h5,fun l hl=>absurd hl (by omega)⟩
          clear hM h3 h4 h5 σ
          rintro σ hw ⟨j,hj,⟨h1,m2⟩,h3,⟨i,h4,m5⟩,h5,hsp⟩
          refine wwp_seq_assoc ?_
          by_cases hjk : j < k
          · have hw2:=wrap_succ (show j≤1000000000 by omega)
            have hmu : cnt k (σ.s 5) = k - j:=by simp [h5]
            simp only [hmu]
            clear hmu
            have hjl : j < m.rows.length:=by omega
            obtain ⟨y,hy⟩ : ∃ y,y = m.rows[j]:=⟨_,rfl⟩
            have hcj : (rowsL m.rows)[j]? = some y.cells:=by rw [rowsL_at hjl,hy]
            have hns:=hns j hjk
            rw [← hy] at hns
            refine wwp_on (fun σ=>WF σ∧MvA m σ∧σ.s 3 = iv k∧(∃ i,σ.s 4 = .ptr [5,i] 0∧σ.m [5,i] = some (.box x.cells))∧σ.s 5 = iv j) (by simp [MvA,h1,m2,h3,h4,m5,h5,hjk]; exact hw) ?_
            clear hw h1 m2 h3 i h4 m5 h5 σ
            rintro σ ⟨hw,⟨h1,m2⟩,h3,⟨i,h4,m5⟩,h5⟩
            refine wwp_body (fun σ=>MvA m σ∧σ.s 3 = iv k∧(∃ i,σ.s 4 = .ptr [5,i] 0∧σ.m [5,i] = some (.box x.cells))∧σ.s 5 = iv j∧sep y x) ?_ ?_
            · refine wwp_cut (fun σ=>MvA m σ∧σ.s 3 = iv k∧(∃ i,σ.s 4 = .ptr [5,i] 0∧σ.m [5,i] = some (.box x.cells))∧σ.s 5 = iv j∧∃ i,σ.s 6 = .ptr [7,i] 0∧σ.m [7,i] = some (.box y.cells)) (by simp [MvA,h1,m2,h3,h4,m5,h5,hjl,hcj,Row.cells,← hy]) ?_
              clear hw h1 m2 h3 i h4 m5 h5 σ
              rintro σ ⟨⟨h1,m2⟩,h3,⟨i,h4,m5⟩,h5,i',h6,m7⟩
              obtain ⟨C,hC⟩ : ∃ C : Bool,C = (y.r == x.r && (y.t == x.t || decide (0 < y.ns) && (x.ns == y.ns || x.ew == y.ns) || decide (0 < y.ew) && (x.ns == y.ew || x.ew == y.ew))):=⟨_,rfl⟩
              have hCP : C = false ↔ sep y x:=by
                rw [hC]
                simp only [Bool.or_eq_false_iff,Bool.and_eq_false_iff,decide_eq_false_iff_not,beq_eq_false_iff_ne,sep]
                omega
              cases hCv : C with
              | true=>
                have hf:=hns (fun h=>by rw [hCP.2 h] at hCv; cases hCv)
                rw [hCv] at hC
                simp [h1,m2,h3,h4,m5,h5,h6,m7,Row.cells,h68,← hC,hf]
              | false=>
                have hS:=hCP.1 hCv
                rw [hCv] at hC
                simp [MvA,h1,m2,h3,h4,m5,h5,h6,m7,Row.cells,h68,← hC,hS]
            · clear hw h1 m2 h3 i h4 m5 h5 σ
              rintro σ ⟨⟨h1,m2⟩,h3,⟨i,h4,m5⟩,h5,hS⟩
              simp [MvA,h1,m2,h3,h4,m5,h5,hw2]
              refine ⟨⟨j + 1,by omega,by omega,fun l hl1 hl2 hl'=>?_⟩,by omega⟩
              by_cases hlj : l < j
              · exact hsp l hlj hl2 hl'
              · obtain rfl : l = j:=by omega
                rw [← hy]; exact hS
          · obtain rfl : j = k:=by omega
            refine wwp_off ?_
            simp [MvA,h1,m2,h3,h5,hP]
            exact fun l hl=>hsp l hl hl _
      · clear hw h1 m2 h3 σ
        rintro σ ⟨⟨h1,m2⟩,h3,hP,hS⟩
        simp [MvA,h1,m2,h3,hw1]
        refine ⟨⟨k + 1,by omega,rfl,fun i hi hik=>?_⟩,by omega⟩
        by_cases hik' : i < k
        · exact hok i hi hik'
        · obtain rfl : i = k:=by omega
          rw [← hx]; exact ⟨hP,hS⟩
    · have hkl : k = m.rows.length:=by omega
      subst hkl
      refine wwp_off ?_
      have hf : fitB m = true:=(fit_iff m).2 ⟨hb,fun x hx=>by
        obtain ⟨i,hi,rfl⟩:=List.mem_iff_getElem.1 hx
        exact (hok i hi hi).1,List.pairwise_iff_getElem.2 fun i j hi hj hij=>(hok j hj hj).2 i hij⟩
      simp [h1,m2,h3,hf]
  · have hv : (decide (m.t < 1) || decide (24 < m.t) || decide (m.r < 1) || decide (47 < m.r) || decide (IntKind.i64.wrap (m.t * m.r) < ↑m.rows.length)) = true:=by
      cases h : (decide (m.t < 1) || decide (24 < m.t) || decide (m.r < 1) || decide (47 < m.r) || decide (IntKind.i64.wrap (m.t * m.r) < ↑m.rows.length)) with
      | true=>rfl
      | false=>exact absurd (hbi.1 h) hb
    have hf : fitB m = false:=fit_bad fun h=>hb h.1
    simp [h1,m2,hv,hf]
theorem c49 (m : Mv) (hl : m.rows.length≤1000000) : VCp Try.prog 49 [.agg m.cells] (bv (fitB m)):=
  wcontract_p (Γ:=mkEnv [(68,S68)] [] []) (sound_mk (by simp [s68]) (by simp) (by simp)) mixed is49 (by rw [nt49]; simp) (c49w S68 m hl fun _ _ _ _ _ _=>rfl) rfl
def S49 : List D→Option D
  | [.agg xs]=>(asMv xs).bind fun m=>if m.rows.length≤1000000 then some (bv (fitB m)) else none
  | _=>none
theorem s49 : OkP 49 S49:=fun ds d h=>by
  unfold S49 at h
  split at h
  · rw [Option.bind_eq_some_iff] at h
    obtain ⟨m,hm,h⟩:=h
    split at h <;> cases h
    rw [asMv_eq hm]
    exact c49 m (by assumption)
  · cases h
theorem S49_at (m : Mv) (h : m.rows.length≤1000000) : S49 [.agg m.cells] = some (bv (fitB m)):=by rw [S49,Mv.cells,Mv.cellsW,asMv_cells,Option.bind_some,if_pos h]
theorem c65 (m : Mv) (hl : m.rows.length≤1000000) : VCp Try.prog 65 [.agg m.cells] (iv (great m.rows)):=by
  refine wcontract_p sound0 mixed is65 (by rw [nt65]; simp) ?_ rfl
  simp only [W65]
  refine wwp_cut (MvA m) (by simp [MvA,Mv.cells,Mv.cellsW]) ?_
  rintro σ ⟨h1,m2⟩
  refine wwp_cut (fun σ=>MvA m σ∧σ.s 3 = iv 0) (by simp [MvA,h1,m2]) ?_
  clear h1 m2 σ
  rintro σ ⟨⟨h1,m2⟩,h3⟩
  refine wwp_cutG (fun σ=>σ.s 3 = iv (great m.rows)) ?_ (fun σ hf=>by simp [hf])
  refine wwp_cut (fun σ=>MvA m σ∧σ.s 3 = iv 0∧σ.s 4 = iv 0) (by simp [MvA,h1,m2,h3]) ?_
  clear h1 m2 h3 σ
  rintro σ ⟨hM,h3,h4⟩
  simp only [wwp_block]
  refine wwp_loop (fun σ=>∃ k : Nat,k≤m.rows.length∧MvA m σ∧σ.s 3 = iv (great (m.rows.take k))∧σ.s 4 = iv k) (fun σ=>cnt m.rows.length (σ.s 4)) ?_ ?_
  · exact ⟨0,by omega,hM,by simpa [great] using h3,h4⟩
  clear hM h3 h4 σ
  rintro σ hw ⟨k,hk,⟨h1,m2⟩,h3,h4⟩
  refine wwp_seq_assoc ?_
  by_cases hlt : k < m.rows.length
  · have hw1:=wrap_succ (show k≤1000000000 by omega)
    have hmu : cnt m.rows.length (σ.s 4) = m.rows.length - k:=by simp [h4]
    simp only [hmu]
    clear hmu
    have hgs:=great_succ hlt
    obtain ⟨x,hx⟩ : ∃ x,x = m.rows[k]:=⟨_,rfl⟩
    have hcell : (rowsL m.rows)[k]? = some x.cells:=by rw [rowsL_at hlt,hx]
    rw [← hx] at hgs
    obtain ⟨a,ha⟩ : ∃ a,a = great (m.rows.take k):=⟨_,rfl⟩
    rw [← ha] at hgs h3
    refine wwp_on (fun σ=>MvA m σ∧σ.s 3 = iv a∧σ.s 4 = iv k) (by simp [MvA,h1,m2,h3,h4,hlt]) ?_
    clear hw h1 m2 h3 h4 σ
    rintro σ ⟨⟨h1,m2⟩,h3,h4⟩
    refine wwp_body (fun σ=>MvA m σ∧σ.s 3 = iv (great (m.rows.take (k + 1)))∧σ.s 4 = iv k) ?_ ?_
    · refine wwp_cutG (fun σ=>MvA m σ∧σ.s 3 = iv (max a x.ns)∧σ.s 4 = iv k) ?_ ?_
      · by_cases h : a < x.ns
        · have e : max a x.ns = x.ns:=by omega
          simp [MvA,h1,m2,h3,h4,hlt,hcell,Row.cells,← hx,h,e]
        · have e : max a x.ns = a:=by omega
          simp [MvA,h1,m2,h3,h4,hlt,hcell,Row.cells,← hx,h,e]
      clear h1 m2 h3 h4 σ
      rintro σ ⟨⟨h1,m2⟩,h3,h4⟩
      rw [hgs]
      by_cases h : max a x.ns < x.ew
      · have e : max (max a x.ns) x.ew = x.ew:=by omega
        simp [MvA,h1,m2,h3,h4,hlt,hcell,Row.cells,← hx,h,e]
      · have e : max (max a x.ns) x.ew = max a x.ns:=by omega
        simp [MvA,h1,m2,h3,h4,hlt,hcell,Row.cells,← hx,h,e]
    · clear h1 m2 h3 h4 σ
      rintro σ ⟨⟨h1,m2⟩,h3,h4⟩
      simp [MvA,h1,m2,h3,h4,hw1]
      exact ⟨⟨k + 1,by omega,rfl,rfl⟩,by omega⟩
  · refine wwp_off ?_
    simp [h1,m2,h3,h4,hlt]
    rw [List.take_of_length_le (by omega)]
def S65 : List D→Option D
  | [.agg xs]=>(asMv xs).bind fun m=>if m.rows.length≤1000000 then some (iv (great m.rows)) else none
  | _=>none
theorem s65 : OkP 65 S65:=fun ds d h=>by
  unfold S65 at h
  split at h
  · rw [Option.bind_eq_some_iff] at h
    obtain ⟨m,hm,h⟩:=h
    split at h <;> cases h
    rw [asMv_eq hm]
    exact c65 m (by assumption)
  · cases h
theorem S65_at (m : Mv) (h : m.rows.length≤1000000) : S65 [.agg m.cells] = some (iv (great m.rows)):=by rw [S65,Mv.cells,Mv.cellsW,asMv_cells,Option.bind_some,if_pos h]
theorem listOK_of {r : Int} {L : List Int} (h : ∀ k (h : k < L.length),0≤L[k]∧L[k] < r∧(∀ h0 : 0 < k,L[k - 1] < L[k])) : listOK r (-1) L = true:=by
  have key : ∀ n,n≤L.length→listOK r (-1) (L.take n) = true:=by
    intro n
    induction n with
    | zero=>intro _; simp [listOK]
    | succ n ih=>
      intro hn
      have h1:=ih (by omega)
      rw [listOK_iff] at h1 ⊢
      obtain ⟨⟨a1,a2⟩,a3⟩:=h1
      obtain ⟨b1,b2,b3⟩:=h n (by omega)
      rw [List.take_succ_eq_append_getElem (by omega : n < L.length)]
      refine ⟨⟨fun x hx=>?_,List.pairwise_append.2 ⟨a2,by simp,fun x hx y hy=>?_⟩⟩,fun x hx=>?_⟩
      · rcases List.mem_append.1 hx with hx | hx
        · exact a1 x hx
        · rw [List.mem_singleton.1 hx]; omega
      · rw [List.mem_singleton.1 hy]
        obtain ⟨i,hi,rfl⟩:=List.mem_iff_getElem.1 hx
        rw [List.length_take] at hi
        have c1:=b3 (by omega)
        rw [List.getElem_take]
        by_cases hin : i = n - 1
        · subst hin; exact c1
        · have:=List.pairwise_iff_getElem.1 a2 i (n - 1) (by rw [List.length_take]; omega) (by rw [List.length_take]; omega) (by omega)
          rw [List.getElem_take,List.getElem_take] at this
          omega
      · rcases List.mem_append.1 hx with hx | hx
        · exact a3 x hx
        · rw [List.mem_singleton.1 hx]; exact b2
  have:=key L.length (Nat.le_refl _)
  rwa [List.take_length] at this
theorem listOK_at {r : Int} {L : List Int} (h : listOK r (-1) L = true) {k : Nat} (hk : k < L.length) : 0≤L[k]∧L[k] < r∧(∀ h0 : 0 < k,L[k - 1] < L[k]):=by
  rw [listOK_iff] at h
  obtain ⟨⟨a1,a2⟩,a3⟩:=h
  have b1:=a1 _ (List.getElem_mem hk)
  refine ⟨by omega,a3 _ (List.getElem_mem hk),fun h0=>List.pairwise_iff_getElem.1 a2 _ _ (by omega) hk (by omega)⟩
theorem c60 (m : Mv) (L : List Int) (hl : L.length≤1000000) : VCp Try.prog 60 [.agg m.cells,.list (ints L)] (bv (listOK m.r (-1) L)):=by
  refine wcontract_p sound0 mixed is60 (by rw [nt60]; simp) ?_ rfl
  simp only [W60]
  refine wwp_cut (fun σ=>σ.s 1 = .list (ints L)∧σ.s 2 = .ptr [3,0] 0∧σ.m [3,0] = some (.box [iv m.t,iv m.r,iv m.s,iv m.c,iv m.w,.list (rowsL m.rows)])) (by simp [Mv.cells,Mv.cellsW]) ?_
  rintro σ ⟨h1,h2,m3⟩
  refine wwp_cutG (fun σ=>listOK m.r (-1) L = true) ?_ (fun σ hf=>by simp [hf])
  refine wwp_cut (fun σ=>σ.s 1 = .list (ints L)∧σ.s 2 = .ptr [3,0] 0∧σ.m [3,0] = some (.box [iv m.t,iv m.r,iv m.s,iv m.c,iv m.w,.list (rowsL m.rows)])∧σ.s 5 = iv 0) (by simp [h1,h2,m3]) ?_
  clear h1 h2 m3 σ
  rintro σ ⟨h1,h2,m3,h5⟩
  simp only [wwp_block]
  refine wwp_loop (fun σ=>∃ k : Nat,k≤L.length∧σ.s 1 = .list (ints L)∧σ.s 2 = .ptr [3,0] 0∧σ.m [3,0] = some (.box [iv m.t,iv m.r,iv m.s,iv m.c,iv m.w,.list (rowsL m.rows)])∧σ.s 5 = iv k∧
    ∀ i (h : i < L.length),i < k→0≤L[i]∧L[i] < m.r∧(∀ h0 : 0 < i,L[i - 1] < L[i])) (fun σ=>cnt L.length (σ.s 5)) ?_ ?_
  · exact ⟨0,by omega,h1,h2,m3,h5,fun i _ h=>absurd h (by omega)⟩
  clear h1 h2 m3 h5 σ
  rintro σ hw ⟨k,hk,h1,h2,m3,h5,hok⟩
  refine wwp_seq_assoc ?_
  by_cases hlt : k < L.length
  · have hw1:=wrap_succ (show k≤1000000000 by omega)
    have hmu : cnt L.length (σ.s 5) = L.length - k:=by simp [h5]
    simp only [hmu]
    clear hmu
    have hbad : listOK m.r (-1) L = true→0≤L[k]∧L[k] < m.r∧(∀ h0 : 0 < k,L[k - 1] < L[k]):=fun h=>listOK_at h hlt
    refine wwp_on (fun σ=>σ.s 1 = .list (ints L)∧σ.s 2 = .ptr [3,0] 0∧σ.m [3,0] = some (.box [iv m.t,iv m.r,iv m.s,iv m.c,iv m.w,.list (rowsL m.rows)])∧σ.s 5 = iv k) (by simp [h1,h2,m3,h5,hlt]) ?_
    clear hw h1 h2 m3 h5 σ
    rintro σ ⟨h1,h2,m3,h5⟩
    have c1:=ints_at hlt
    obtain ⟨x,hx⟩ : ∃ x,x = L[k]:=⟨_,rfl⟩
    rw [← hx] at c1
    refine wwp_body (fun σ=>σ.s 1 = .list (ints L)∧σ.s 2 = .ptr [3,0] 0∧σ.m [3,0] = some (.box [iv m.t,iv m.r,iv m.s,iv m.c,iv m.w,.list (rowsL m.rows)])∧σ.s 5 = iv k∧0≤x∧x < m.r∧(∀ h0 : 0 < k,L[k - 1] < x)) ?_ ?_
    · by_cases h0 : k = 0
      · subst h0
        by_cases hP : 0≤x∧x < m.r
        · have q1 : ¬ x < 0:=by omega
          have q2 : ¬ m.r≤x:=by omega
          simp [h1,h2,m3,h5,hlt,c1,← hx,q1,q2,hP]
        · have hf : listOK m.r (-1) L = false:=by
            cases h : listOK m.r (-1) L with
            | false=>rfl
            | true=>have:=hbad h; rw [← hx] at this; exact absurd ⟨this.1,this.2.1⟩ hP
          have hB : (decide (x < 0) || decide (m.r≤x)) = true:=by simp only [Bool.or_eq_true,decide_eq_true_eq]; omega
          simp [h1,h2,m3,h5,hlt,c1,← hx,hB,hf]
      · obtain ⟨j,rfl⟩ : ∃ j,k = j + 1:=⟨k - 1,by omega⟩
        have hj : j < L.length:=by omega
        have c2:=ints_at hj
        obtain ⟨y,hy⟩ : ∃ y,y = L[j]:=⟨_,rfl⟩
        rw [← hy] at c2
        have wj : IntKind.i64.wrap (((j + 1 : Nat) : Int) - 1) = j:=by rw [wrap_in (by omega) (by omega)]; omega
        have wj2 : IntKind.i64.wrap ((j : Int) + 1 - 1) = j:=by rw [wrap_in (by omega) (by omega)]; omega
        have hz : (j : Int) < (L.length : Int):=by omega
        have p0 : (0 : Int) < (j : Int) + 1:=by omega
        simp only [Nat.add_sub_cancel,← hy] at hbad ⊢
        obtain ⟨K,hK⟩ : ∃ K : Nat,K = j + 1:=⟨_,rfl⟩
        rw [← hK] at h5 c1 wj hlt ⊢
        have hKz : (0 : Int) < (K : Int):=by omega
        have hK0 : 0 < K:=by omega
        have hxK : x = L[K]:=by subst hK; exact hx
        by_cases hP : 0≤x∧x < m.r∧y < x
        · have q1 : ¬ x < 0:=by omega
          have q2 : ¬ m.r≤x:=by omega
          have q3 : ¬ x≤y:=by omega
          simp [h1,h2,m3,h5,hlt,hj,c1,c2,← hxK,← hy,q1,q2,q3,hP,wj,hz,hKz,hK0]
        · have hf : listOK m.r (-1) L = false:=by
            cases h : listOK m.r (-1) L with
            | false=>rfl
            | true=>have:=hbad h; rw [← hx] at this; exact absurd ⟨this.1,this.2.1,this.2.2 (by omega)⟩ hP
          have hB : (decide (x < 0) || decide (m.r≤x) || decide (x≤y)) = true:=by simp only [Bool.or_eq_true,decide_eq_true_eq]; omega
          simp [h1,h2,m3,h5,hlt,hj,c1,c2,← hxK,← hy,wj,hz,hKz,hK0,hB,hf]
    · clear h1 h2 m3 h5 σ
      rintro σ ⟨h1,h2,m3,h5,hP1,hP2,hP3⟩
      simp [h1,h2,m3,h5,hw1]
      refine ⟨⟨k + 1,by omega,rfl,fun i hi hik=>?_⟩,by omega⟩
      by_cases hik' : i < k
      · exact hok i hi hik'
      · obtain rfl : i = k:=by omega
        rw [← hx]; exact ⟨hP1,hP2,hP3⟩
  · refine wwp_off ?_
    simp [h1,h2,m3,h5,hlt]
    exact listOK_of fun i hi=>hok i hi (by omega)
end Go.Proofs.Ytpmgaaalfdjikaa
namespace Go.Proofs.Ytpmgaaalfdjikaa
open Go.RowKit
set_option linter.unusedSimpArgs false
set_option linter.unusedVariables false
def W66 : WC × List VRes:=(.seq (.reg [.stm (.eff (.box 3 (.t 0)) none),.set [(6,.c (.v (.int .i64 0)))] [6]]) (.seq (.reg [.set [(7,.c (.v (.int .i64 0)))] [7]]) (.seq (.seq (.reg [.set [(8,.c (.v (.int .i64 0)))] [8]]) (.block 0 (.loop (.seq (.seq (.reg [.set [(17,.ap (.ibin .lss) [.t 8,.ap .llen [.ap (.load 1 false) [.ap (.fld 5) [.t 3]]]])] [13,14,15,16,17]]) (.cond (.t 17) .skip (.exit 0))) (.seq (.block 1 (.seq (.reg [.set [(24,.ap (.load 5 true) [.ap (.idx 53 5) [.ap (.load 1 false) [.ap (.fld 5) [.t 3]],.t 8]])] [20,21,22,23,24],.stm (.eff (.box 9 (.c (.agg [.v (.int .i64 0),.v (.int .i64 0),.v (.int .i64 0),.v (.int .i64 0),.v (.int .i64 0)]))) none),.stm (.eff (.store 5 (.t 9) (.t 24)) none)]) (.seq (.seq (.reg [.set [(35,.ite (.ap .inot [.ap (.call 76) [.ap (.load 5 true) [.t 9],.ap (.load 1 false) [.ap (.fld 4) [.t 9]]]]) (.c (.v (.bool true))) (.ap .inot [.ap (.call 68) [.ap (.load 5 true) [.t 9],.t 1]]))] [25,26,27,28,29,30,31,32,33,34,35]]) (.cond (.t 35) (.exit 1) .skip)) (.seq (.reg [.set [(10,.c (.v (.int .i64 0)))] [10]]) (.seq (.seq (.reg [.set [(11,.c (.v (.int .i64 0)))] [11]]) (.block 2 (.loop (.seq (.seq (.reg [.set [(40,.ap (.ibin .lss) [.t 11,.ap .llen [.ap (.load 1 false) [.ap (.fld 5) [.t 3]]]])] [36,37,38,39,40]]) (.cond (.t 40) .skip (.exit 2))) (.seq (.block 3 (.seq (.reg [.set [(47,.ap (.load 5 true) [.ap (.idx 53 5) [.ap (.load 1 false) [.ap (.fld 5) [.t 3]],.t 11]])] [43,44,45,46,47],.stm (.eff (.box 12 (.c (.agg [.v (.int .i64 0),.v (.int .i64 0),.v (.int .i64 0),.v (.int .i64 0),.v (.int .i64 0)]))) none),.stm (.eff (.store 5 (.t 12) (.t 47)) none)]) (.seq (.seq (.reg [.set [(52,.ap .inot [.ap (.call 76) [.ap (.load 5 true) [.t 12],.ap (.load 1 false) [.ap (.fld 4) [.t 9]]]])] [48,49,50,51,52]]) (.cond (.t 52) (.exit 3) .skip)) (.seq (.reg [.set [(10,.ap (.ibin .add) [.t 10,.c (.v (.int .i64 1))])] [53,54,10]]) (.seq (.reg [.set [(62,.ite (.ap (.ibin .neq) [.t 11,.t 8]) (.ap (.call 68) [.ap (.load 5 true) [.t 12],.t 2]) (.c (.v (.bool false))))] [55,56,57,58,59,60,61,62]]) (.cond (.t 62) (.seq (.reg [.set [(71,.ap (.beq false) [.ap (.ibin .eql) [.ap (.load 1 false) [.ap (.fld 2) [.t 9]],.t 1],.ap (.ibin .eql) [.ap (.load 1 false) [.ap (.fld 2) [.t 12]],.t 2]])] [63,64,65,66,67,68,69,70,71]]) (.cond (.t 71) (.reg [.set [(7,.ap (.ibin .add) [.t 7,.c (.v (.int .i64 1))])] [72,73,7]]) (.reg [.set [(7,.ap (.ibin .sub) [.t 7,.c (.v (.int .i64 1))])] [74,75,7]]))) .skip)))))) (.reg [.set [(11,.ap (.ibin .add) [.t 11,.c (.v (.int .i64 1))])] [41,42,11]])))))) (.seq (.reg [.set [(78,.ap (.call 68) [.ap (.load 5 true) [.t 9],.t 2])] [76,77,78]]) (.cond (.t 78) (.reg [.set [(7,.ap (.ibin .sub) [.ap (.ibin .add) [.t 7,.t 10],.c (.v (.int .i64 1))])] [79,80,81,82,7]]) .skip))))))) (.reg [.set [(8,.ap (.ibin .add) [.t 8,.c (.v (.int .i64 1))])] [18,19,8]])))))) (.seq (.reg [.set [(6,.t 7)] [83,6]]) .ret))),[.t 6])
theorem is66 : IsFn Try.prog frOf 66 Try.f66 W66:=⟨by kernel_rfl,by kernel_rfl,by kernel_rfl⟩
theorem nt66 : Try.f66.ntmps = 84:=by kernel_rfl
def rowAt (l : List Row) (j : Nat) : Row:=l.getD j Row.zero
theorem rowAt_eq {l : List Row} {j : Nat} (h : j < l.length) : rowAt l j = l[j]:=by simp [rowAt,h]
def sumTo (f : Nat→Int) (k : Nat) : Int:=((List.range k).map f).sum
@[simp] theorem sumTo_0 (f : Nat→Int) : sumTo f 0 = 0:=rfl
theorem sumTo_succ (f : Nat→Int) (k : Nat) : sumTo f (k + 1) = sumTo f k + f k:=by simp [sumTo,List.range_succ]
theorem sumTo_bound {f : Nat→Int} {a b : Int} (h : ∀ j,a≤f j∧f j≤b) : ∀ k : Nat,a * k≤sumTo f k∧sumTo f k≤b * k
  | 0=>by simp
  | k + 1=>by
    have h1:=sumTo_bound h k
    have h2:=h k
    rw [sumTo_succ]
    push_cast
    rw [Int.mul_add,Int.mul_add,Int.mul_one,Int.mul_one]
    omega
def inC (x y : Row) : Int:=if playB y.ns y.ew y.s x.s then 1 else 0
def inT (x : Row) (i : Nat) (p q : Int) (k : Nat) (y : Row) : Int:=if playB y.ns y.ew y.s x.s && (k != i && (y.ns == q || y.ew == q)) then (if ((x.ns == p) == (y.ns == q)) then 1 else -1) else 0
def inS (l : List Row) (x : Row) (i : Nat) (p q : Int) (k : Nat) : Int:=sumTo (fun j=>inT x i p q j (rowAt l j)) k
def inN (l : List Row) (x : Row) (k : Nat) : Int:=sumTo (fun j=>inC x (rowAt l j)) k
def outT (l : List Row) (p q : Int) (i : Nat) : Int:=
  if playB (rowAt l i).ns (rowAt l i).ew (rowAt l i).s (rowAt l i).s && ((rowAt l i).ns == p || (rowAt l i).ew == p) then inS l (rowAt l i) i p q l.length + (if (rowAt l i).ns == q || (rowAt l i).ew == q then inN l (rowAt l i) l.length - 1 else 0) else 0
def outS (l : List Row) (p q : Int) (k : Nat) : Int:=sumTo (outT l p q) k
theorem inS_bound (l : List Row) (x : Row) (i : Nat) (p q : Int) (k : Nat) : -(k : Int)≤inS l x i p q k∧inS l x i p q k≤k:=by
  have:=sumTo_bound (f:=fun j=>inT x i p q j (rowAt l j)) (a:=-1) (b:=1) (fun j=>by simp only [inT]; split <;> (try split) <;> omega) k
  unfold inS
  omega
theorem inN_bound (l : List Row) (x : Row) (k : Nat) : 0≤inN l x k∧inN l x k≤k:=by
  have:=sumTo_bound (f:=fun j=>inC x (rowAt l j)) (a:=0) (b:=1) (fun j=>by simp only [inC]; split <;> omega) k
  unfold inN
  omega
theorem outS_bound {l : List Row} (hl : l.length≤60) (p q : Int) {k : Nat} (hk : k≤l.length) : -10000≤outS l p q k∧outS l p q k≤10000:=by
  have:=sumTo_bound (f:=outT l p q) (a:=-122) (b:=122) (fun j=>by
    have h1:=inS_bound l (rowAt l j) j p q l.length
    have h2:=inN_bound l (rowAt l j) l.length
    unfold outT
    split
    · split <;> omega
    · omega) k
  unfold outS
  omega
def CvA (m : Mv) (p q : Int) (σ : St) : Prop:=σ.s 1 = iv p∧σ.s 2 = iv q∧σ.s 3 = .ptr [4,0] 0∧σ.m [4,0] = some (.box [iv m.t,iv m.r,iv m.s,iv m.c,iv m.w,.list (rowsL m.rows)])
theorem c66w (p68 p76 : FP) (m : Mv) (p q : Int) (hl : m.rows.length≤60) (h68 : ∀ r t a b s p : Int,p68 [.agg [iv r,iv t,iv a,iv b,iv s],iv p] = some (bv (a == p || b == p)))
    (h76 : ∀ r t a b s p : Int,p76 [.agg [iv r,iv t,iv a,iv b,iv s],iv p] = some (bv (playB a b s p))) :
    wwp (mkEnv [(68,p68),(76,p76)] [] []) W66.1 (fun e s=>okExit e∧resV W66.2 s = some (iv (outS m.rows p q m.rows.length))) (initV [.agg m.cells,iv p,iv q]):=by
  simp only [W66]
  refine wwp_cut (CvA m p q) (by simp [CvA,Mv.cells,Mv.cellsW]) ?_
  rintro σ ⟨h1,h2,h3,m4⟩
  refine wwp_cut (fun σ=>CvA m p q σ∧σ.s 7 = iv 0) (by simp [CvA,h1,h2,h3,m4]) ?_
  clear h1 h2 h3 m4 σ
  rintro σ ⟨⟨h1,h2,h3,m4⟩,h7⟩
  refine wwp_cutG (fun σ=>σ.s 7 = iv (outS m.rows p q m.rows.length)) ?_ (fun σ hf=>by simp [hf])
  refine wwp_cut (fun σ=>CvA m p q σ∧σ.s 7 = iv 0∧σ.s 8 = iv 0) (by simp [CvA,h1,h2,h3,m4,h7]) ?_
  clear h1 h2 h3 m4 h7 σ
  rintro σ ⟨hC,h7,h8⟩
  simp only [wwp_block]
  refine wwp_loop (fun σ=>∃ i : Nat,i≤m.rows.length∧CvA m p q σ∧σ.s 7 = iv (outS m.rows p q i)∧σ.s 8 = iv i) (fun σ=>cnt m.rows.length (σ.s 8)) ?_ ?_
  · exact ⟨0,by omega,hC,h7,h8⟩
  clear hC h7 h8 σ
  rintro σ hw ⟨i,hi,⟨h1,h2,h3,m4⟩,h7,h8⟩
  refine wwp_seq_assoc ?_
  by_cases hlt : i < m.rows.length
  · have hw1:=wrap_succ (show i≤1000000000 by omega)
    have hmu : cnt m.rows.length (σ.s 8) = m.rows.length - i:=by simp [h8]
    simp only [hmu]
    clear hmu
    have hob:=outS_bound hl p q (k:=i) (by omega)
    have hos : outS m.rows p q (i + 1) = outS m.rows p q i + outT m.rows p q i:=sumTo_succ _ _
    obtain ⟨x,hx⟩ : ∃ x,x = m.rows[i]:=⟨_,rfl⟩
    have hra:=rowAt_eq hlt
    rw [← hx] at hra
    unfold outT at hos
    rw [hra] at hos
    have hcell : (rowsL m.rows)[i]? = some x.cells:=by rw [rowsL_at hlt,hx]
    obtain ⟨A,hA⟩ : ∃ A,A = outS m.rows p q i:=⟨_,rfl⟩
    rw [← hA] at hos h7 hob
    refine wwp_on (fun σ=>WF σ∧CvA m p q σ∧σ.s 7 = iv A∧σ.s 8 = iv i) (by simp [CvA,h1,h2,h3,m4,h7,h8,hlt]; exact hw) ?_
    clear hw h1 h2 h3 m4 h7 h8 σ
    rintro σ ⟨hw,⟨h1,h2,h3,m4⟩,h7,h8⟩
    refine wwp_body (fun σ=>CvA m p q σ∧σ.s 7 = iv (outS m.rows p q (i + 1))∧σ.s 8 = iv i) ?_ ?_
    · refine wwp_cutW hw (fun σ=>CvA m p q σ∧σ.s 7 = iv A∧σ.s 8 = iv i∧∃ u,σ.s 9 = .ptr [10,u] 0∧σ.m [10,u] = some (.box x.cells)) (by simp [CvA,h1,h2,h3,m4,h7,h8,hlt,hcell,Row.cells,← hx]) ?_
      clear hw h1 h2 h3 m4 h7 h8 σ
      rintro σ hw ⟨⟨h1,h2,h3,m4⟩,h7,h8,u,h9,m10⟩
      cases hB : playB x.ns x.ew x.s x.s && (x.ns == p || x.ew == p) with
      | false=>
        rw [hB] at hos
        have hB' : (!playB x.ns x.ew x.s x.s || !(x.ns == p || x.ew == p)) = true:=by rw [← Bool.not_and,hB]; rfl
        have hos' : outS m.rows p q (i + 1) = A:=by rw [hos]; simp
        simp only [Bool.not_or] at hB'
        simp [CvA,h1,h2,h3,m4,h7,h8,h9,m10,Row.cells,h68,h76,hB',hos']
      | true=>
        rw [hB,if_pos rfl] at hos
        have hB2:=Bool.and_eq_true_iff.1 hB
        refine wwp_condW hw (fun σ=>CvA m p q σ∧σ.s 7 = iv A∧σ.s 8 = iv i∧∃ u,σ.s 9 = .ptr [10,u] 0∧σ.m [10,u] = some (.box x.cells)) (by simp [CvA,h1,h2,h3,m4,h7,h8,h9,m10,Row.cells,h68,h76,hB2.1]; exact fun hx=>(by simpa using hB2.2 : x.ns = p ∨ x.ew = p).resolve_left hx) ?_
        clear hw h1 h2 h3 m4 h7 h8 u h9 m10 σ
        rintro σ hw ⟨⟨h1,h2,h3,m4⟩,h7,h8,u,h9,m10⟩
        refine wwp_cutW hw (fun σ=>CvA m p q σ∧σ.s 7 = iv A∧σ.s 8 = iv i∧(∃ u,σ.s 9 = .ptr [10,u] 0∧σ.m [10,u] = some (.box x.cells))∧σ.s 10 = iv 0) (by simp [CvA,h1,h2,h3,m4,h7,h8,h9,m10]) ?_
        clear hw h1 h2 h3 m4 h7 h8 u h9 m10 σ
        rintro σ hw ⟨⟨h1,h2,h3,m4⟩,h7,h8,⟨u,h9,m10⟩,h10⟩
        refine wwp_cutG (fun σ=>CvA m p q σ∧σ.s 7 = iv (A + inS m.rows x i p q m.rows.length)∧σ.s 8 = iv i∧(∃ u,σ.s 9 = .ptr [10,u] 0∧σ.m [10,u] = some (.box x.cells))∧σ.s 10 = iv (inN m.rows x m.rows.length)) ?_ ?_
        · refine wwp_cut (fun σ=>CvA m p q σ∧σ.s 7 = iv A∧σ.s 8 = iv i∧(∃ u,σ.s 9 = .ptr [10,u] 0∧σ.m [10,u] = some (.box x.cells))∧σ.s 10 = iv 0∧σ.s 11 = iv 0) (by simp [CvA,h1,h2,h3,m4,h7,h8,h9,m10,h10]) ?_
          clear hw h1 h2 h3 m4 h7 h8 u h9 m10 h10 σ
          rintro σ ⟨hC,h7,h8,h9,h10,h11⟩
          simp only [wwp_block]
          refine wwp_loop (fun σ=>∃ k : Nat,k≤m.rows.length∧CvA m p q σ∧σ.s 7 = iv (A + inS m.rows x i p q k)∧σ.s 8 = iv i∧(∃ u,σ.s 9 = .ptr [10,u] 0∧σ.m [10,u] = some (.box x.cells))∧σ.s 10 = iv (inN m.rows x k)∧σ.s 11 = iv k) (fun σ=>cnt m.rows.length (σ.s 11)) ?_ ?_
          · exact ⟨0,by omega,hC,by simpa [inS] using h7,h8,h9,h10,h11⟩
          clear hC h7 h8 h9 h10 h11 σ
          rintro σ hw ⟨k,hk,⟨h1,h2,h3,m4⟩,h7,h8,⟨u,h9,m10⟩,h10,h11⟩
          refine wwp_seq_assoc ?_
          by_cases hkl : k < m.rows.length
          · have hw2:=wrap_succ (show k≤1000000000 by omega)
            have hmu : cnt m.rows.length (σ.s 11) = m.rows.length - k:=by simp [h11]
            simp only [hmu]
            clear hmu
            have hb1:=inS_bound m.rows x i p q k
            have hb2:=inN_bound m.rows x k
            have hs1 : inS m.rows x i p q (k + 1) = inS m.rows x i p q k + inT x i p q k (rowAt m.rows k):=sumTo_succ _ _
            have hs2 : inN m.rows x (k + 1) = inN m.rows x k + inC x (rowAt m.rows k):=sumTo_succ _ _
            obtain ⟨y,hy⟩ : ∃ y,y = m.rows[k]:=⟨_,rfl⟩
            have hrk:=rowAt_eq hkl
            rw [← hy] at hrk
            rw [hrk] at hs1 hs2
            have hck : (rowsL m.rows)[k]? = some y.cells:=by rw [rowsL_at hkl,hy]
            obtain ⟨S,hS⟩ : ∃ S,S = inS m.rows x i p q k:=⟨_,rfl⟩
            obtain ⟨N,hN⟩ : ∃ N,N = inN m.rows x k:=⟨_,rfl⟩
            rw [← hS] at hs1 h7 hb1
            rw [← hN] at hs2 h10 hb2
            refine wwp_on (fun σ=>CvA m p q σ∧σ.s 7 = iv (A + S)∧σ.s 8 = iv i∧(∃ u,σ.s 9 = .ptr [10,u] 0∧σ.m [10,u] = some (.box x.cells))∧σ.s 10 = iv N∧σ.s 11 = iv k) (by simp [CvA,h1,h2,h3,m4,h7,h8,h9,m10,h10,h11,hkl]) ?_
            clear hw h1 h2 h3 m4 h7 h8 u h9 m10 h10 h11 σ
            rintro σ ⟨⟨h1,h2,h3,m4⟩,h7,h8,⟨u,h9,m10⟩,h10,h11⟩
            refine wwp_body (fun σ=>CvA m p q σ∧σ.s 7 = iv (A + inS m.rows x i p q (k + 1))∧σ.s 8 = iv i∧(∃ u,σ.s 9 = .ptr [10,u] 0∧σ.m [10,u] = some (.box x.cells))∧σ.s 10 = iv (inN m.rows x (k + 1))∧σ.s 11 = iv k) ?_ ?_
            · refine wwp_cut (fun σ=>CvA m p q σ∧σ.s 7 = iv (A + S)∧σ.s 8 = iv i∧(∃ u,σ.s 9 = .ptr [10,u] 0∧σ.m [10,u] = some (.box x.cells))∧σ.s 10 = iv N∧σ.s 11 = iv k∧∃ v,σ.s 12 = .ptr [13,v] 0∧σ.m [13,v] = some (.box y.cells)) (by simp [CvA,h1,h2,h3,m4,h7,h8,h9,m10,h10,h11,hkl,hck,Row.cells,← hy]) ?_
              clear h1 h2 h3 m4 h7 h8 u h9 m10 h10 h11 σ
              rintro σ ⟨⟨h1,h2,h3,m4⟩,h7,h8,⟨u,h9,m10⟩,h10,h11,v,h12,m13⟩
              cases hP : playB y.ns y.ew y.s x.s with
              | false=>
                have e1 : inS m.rows x i p q (k + 1) = S:=by rw [hs1,inT,hP]; simp
                have e2 : inN m.rows x (k + 1) = N:=by rw [hs2,inC,hP]; simp
                simp [CvA,h1,h2,h3,m4,h7,h8,h9,m10,h10,h11,h12,m13,Row.cells,h76,hP,e1,e2]
              | true=>
                have e2 : inN m.rows x (k + 1) = N + 1:=by rw [hs2,inC,hP]; simp
                have wN : IntKind.i64.wrap (N + 1) = N + 1:=wrap_in (by omega) (by omega)
                refine wwp_cutG (fun σ=>CvA m p q σ∧σ.s 7 = iv (A + S)∧σ.s 8 = iv i∧(∃ u,σ.s 9 = .ptr [10,u] 0∧σ.m [10,u] = some (.box x.cells))∧σ.s 10 = iv N∧σ.s 11 = iv k∧∃ v,σ.s 12 = .ptr [13,v] 0∧σ.m [13,v] = some (.box y.cells)) (by simp [CvA,h1,h2,h3,m4,h7,h8,h9,m10,h10,h11,h12,m13,Row.cells,h76,hP]) ?_
                clear h1 h2 h3 m4 h7 h8 u h9 m10 h10 h11 v h12 m13 σ
                rintro σ ⟨⟨h1,h2,h3,m4⟩,h7,h8,⟨u,h9,m10⟩,h10,h11,v,h12,m13⟩
                by_cases hki : k = i
                · subst hki
                  have e1 : inS m.rows x k p q (k + 1) = S:=by rw [hs1,inT]; simp
                  simp [CvA,h1,h2,h3,m4,h7,h8,h9,m10,h10,h11,h12,m13,Row.cells,h68,wN,e1,e2]
                · have hne : ((k : Int) == (i : Int)) = false:=by simp; omega
                  have hne5 : ((k : Int) != (i : Int)) = true:=by rw [bne,hne]; rfl
                  have hne2 : (k != i) = true:=by simp [hki]
                  have hne3 : ¬ (k : Int) = (i : Int):=by omega
                  have hne4 : ¬ (i : Int) = (k : Int):=by omega
                  cases hQ : (y.ns == q || y.ew == q) with
                  | false=>
                    have e1 : inS m.rows x i p q (k + 1) = S:=by rw [hs1,inT,hQ]; simp
                    simp [CvA,h1,h2,h3,m4,h7,h8,h9,m10,h10,h11,h12,m13,Row.cells,h68,wN,e1,e2,hne,hne5,hne3,hki,hQ]
                  | true=>
                    cases hE : ((x.ns == p) == (y.ns == q)) with
                    | true=>
                      have e1 : inS m.rows x i p q (k + 1) = S + 1:=by rw [hs1,inT,hP,hQ,hne2,hE]; simp
                      have wS : IntKind.i64.wrap (A + S + 1) = A + (S + 1):=by rw [wrap_in (by omega) (by omega)]; omega
                      simp [CvA,h1,h2,h3,m4,h7,h8,h9,m10,h10,h11,h12,m13,Row.cells,h68,wN,e1,e2,hne,hne5,hne3,hki,hQ,hE,wS]
                    | false=>
                      have e1 : inS m.rows x i p q (k + 1) = S - 1:=by rw [hs1,inT,hP,hQ,hne2,hE]; simp; omega
                      have wS : IntKind.i64.wrap (A + S - 1) = A + (S - 1):=by rw [wrap_in (by omega) (by omega)]; omega
                      simp [CvA,h1,h2,h3,m4,h7,h8,h9,m10,h10,h11,h12,m13,Row.cells,h68,wN,e1,e2,hne,hne5,hne3,hki,hQ,hE,wS]
            · clear h1 h2 h3 m4 h7 h8 u h9 m10 h10 h11 σ
              rintro σ ⟨⟨h1,h2,h3,m4⟩,h7,h8,⟨u,h9,m10⟩,h10,h11⟩
              simp [CvA,h1,h2,h3,m4,h7,h8,h9,m10,h10,h11,hw2]
              exact ⟨⟨k + 1,by omega,rfl,rfl,rfl⟩,by omega⟩
          · obtain rfl : k = m.rows.length:=by omega
            refine wwp_off ?_
            simp [CvA,h1,h2,h3,m4,h7,h8,h9,m10,h10,h11]
        · clear hw h1 h2 h3 m4 h7 h8 u h9 m10 h10 σ
          rintro σ ⟨⟨h1,h2,h3,m4⟩,h7,h8,⟨u,h9,m10⟩,h10⟩
          have hb1:=inS_bound m.rows x i p q m.rows.length
          have hb2:=inN_bound m.rows x m.rows.length
          obtain ⟨S,hS⟩ : ∃ S,S = inS m.rows x i p q m.rows.length:=⟨_,rfl⟩
          obtain ⟨N,hN⟩ : ∃ N,N = inN m.rows x m.rows.length:=⟨_,rfl⟩
          rw [← hS] at hos h7 hb1
          rw [← hN] at hos h10 hb2
          cases hQ : (x.ns == q || x.ew == q) with
          | true=>
            have e1 : outS m.rows p q (i + 1) = A + S + N - 1:=by rw [hos,hQ]; simp; omega
            have w1 : IntKind.i64.wrap (A + S + N) = A + S + N:=wrap_in (by omega) (by omega)
            have w2 : IntKind.i64.wrap (A + S + N - 1) = A + S + N - 1:=wrap_in (by omega) (by omega)
            simp [CvA,h1,h2,h3,m4,h7,h8,h9,m10,h10,Row.cells,h68,hQ,e1,w1,w2]
          | false=>
            have e1 : outS m.rows p q (i + 1) = A + S:=by rw [hos,hQ]; simp
            simp [CvA,h1,h2,h3,m4,h7,h8,h9,m10,h10,Row.cells,h68,hQ,e1]
    · clear hw h1 h2 h3 m4 h7 h8 σ
      rintro σ ⟨⟨h1,h2,h3,m4⟩,h7,h8⟩
      simp [CvA,h1,h2,h3,m4,h7,h8,hw1]
      exact ⟨⟨i + 1,by omega,rfl,rfl⟩,by omega⟩
  · obtain rfl : i = m.rows.length:=by omega
    refine wwp_off ?_
    simp [h1,h2,h3,m4,h7,h8]
theorem c66 (m : Mv) (p q : Int) (hl : m.rows.length≤60) : VCp Try.prog 66 [.agg m.cells,iv p,iv q] (iv (outS m.rows p q m.rows.length)):=
  wcontract_p (Γ:=mkEnv [(68,S68),(76,S76)] [] []) (sound_mk (by simp [s68,s76]) (by simp) (by simp)) mixed is66 (by rw [nt66]; simp) (c66w S68 S76 m p q hl (fun _ _ _ _ _ _=>rfl) fun _ _ _ _ _ _=>rfl) rfl
end Go.Proofs.Ytpmgaaalfdjikaa
namespace Go.Proofs.Ytpmgaaalfdjikaa
open Go.RowKit
set_option linter.unusedSimpArgs false
set_option linter.unusedVariables false
theorem sumTo_congr {f g : Nat→Int} {k : Nat} (h : ∀ j,j < k→f j = g j) : sumTo f k = sumTo g k:=by
  unfold sumTo
  rw [List.map_congr_left fun j hj=>h j (List.mem_range.1 hj)]
theorem sumTo_list (g : Row→Int) (l : List Row) : sumTo (fun j=>g (rowAt l j)) l.length = (l.map g).sum:=by
  unfold sumTo
  congr 1
  refine List.ext_getElem (by simp) fun n h1 h2=>?_
  simp at h1 h2
  simp [rowAt_eq h2]
def inG (x : Row) (p q : Int) (y : Row) : Int:=if y = x then 0 else if playB y.ns y.ew y.s x.s && (y.ns == q || y.ew == q) then (if ((x.ns == p) == (y.ns == q)) then 1 else -1) else 0
theorem inT_inG {x y : Row} {i j : Nat} (p q : Int) (h : j = i ↔ y = x) : inT x i p q j y = inG x p q y:=by
  unfold inT inG
  by_cases e : j = i
  · rw [if_pos (h.1 e)]; simp [e]
  · rw [if_neg fun e'=>e (h.2 e')]
    have : (j != i) = true:=by simp [e]
    rw [this,Bool.true_and]
theorem inS_list {l : List Row} (hn : l.Nodup) {i : Nat} (hi : i < l.length) (p q : Int) : inS l l[i] i p q l.length = (l.map (inG l[i] p q)).sum:=by
  rw [← sumTo_list]
  refine sumTo_congr fun j hj=>?_
  rw [rowAt_eq hj]
  refine inT_inG p q ⟨fun e=>by subst e; rfl,fun e=>?_⟩
  exact (List.getElem_inj (xs:=l) (h₀:=hj) (h₁:=hi) hn).1 e
theorem played_playB (x y : Row) : playB y.ns y.ew y.s x.s = (played y && y.s == x.s):=rfl
theorem inN_list (x : Row) : ∀ l : List Row,(l.map (inC x)).sum = (playsN (l.filter played) x.s : Int)
  | []=>rfl
  | y :: l=>by
    have ih:=inN_list x l
    unfold playsN at ih ⊢
    rw [List.map_cons,List.sum_cons,ih]
    unfold inC
    rw [played_playB]
    cases h1 : played y with
    | false=>simp [List.filter_cons,h1]
    | true=>
      cases h2 : (y.s == x.s) with
      | false=>simp [List.filter_cons,h1,h2]
      | true=>simp [List.filter_cons,h1,h2]; omega
theorem pair_eq (P : List Row) {p q : Int} (hpq : p ≠ q) {x y : Row} (hx : x.ns ≠ x.ew) (hy : played y = true→y.ns ≠ y.ew) (hpx : played x = true) (hp : x.ns = p ∨ x.ew = p) :
    inG x p q y + (if y = x then (if x.ns == q || x.ew == q then (playsN P x.s : Int) - 1 else 0) else 0) = if played y = true then tm P p q x y else 0:=by
  by_cases e : y = x
  · subst e
    rw [if_pos rfl,if_pos hpx]
    unfold inG tm
    rw [if_pos rfl,if_pos rfl,if_pos rfl]
    obtain ⟨N,hN⟩ : ∃ N : Int,N = (playsN P y.s : Int) - 1:=⟨_,rfl⟩
    rw [← hN]
    unfold eqI
    have q1 : ¬ p = q:=hpq
    have q2 : ¬ q = p:=hpq.symm
    rcases hp with h | h
    · have h1 : ¬ y.ew = p:=fun h2=>hx (by rw [h,h2])
      have h2 : ¬ y.ns = q:=fun h2=>hpq (by rw [← h,h2])
      by_cases h3 : y.ew = q
      · simp [h,h1,h3,q1,q2]
      · simp [h,h1,h2,h3,q1,q2]
    · have h1 : ¬ y.ns = p:=fun h2=>hx (by rw [h,h2])
      have h2 : ¬ y.ew = q:=fun h2=>hpq (by rw [← h,h2])
      by_cases h3 : y.ns = q
      · simp [h,h1,h3,q1,q2]
      · simp [h,h1,h2,h3,q1,q2]
  · rw [if_neg e,Int.add_zero]
    unfold inG tm
    rw [if_neg e,played_playB]
    cases h1 : played y with
    | false=>simp
    | true=>
      have hyn:=hy h1
      by_cases h2 : y.s = x.s
      · have hxy : ¬ x = y:=fun h=>e h.symm
        rw [if_pos rfl,if_pos h2,if_neg hxy]
        have h2' : (y.s == x.s) = true:=by simp [h2]
        rw [h2']
        unfold eqI
        by_cases a1 : y.ns = q
        · have a2 : ¬ y.ew = q:=fun h=>hyn (by rw [a1,h])
          by_cases b1 : x.ns = p
          · have b2 : ¬ x.ew = p:=fun h=>hx (by rw [b1,h])
            simp [a1,a2,b1,b2]
          · have b2 : x.ew = p:=hp.resolve_left b1
            simp [a1,a2,b1,b2]
        · by_cases a2 : y.ew = q
          · by_cases b1 : x.ns = p
            · have b2 : ¬ x.ew = p:=fun h=>hx (by rw [b1,h])
              simp [a1,a2,b1,b2]
            · have b2 : x.ew = p:=hp.resolve_left b1
              have b3 : (x.ns == p) = (y.ns == q):=by rw [beq_false_of_ne b1,beq_false_of_ne a1]
              simp [a1,a2,b1,b2,b3]
          · simp [a1,a2]
      · have h2' : (y.s == x.s) = false:=by simp [h2]
        rw [if_pos rfl,if_neg h2,h2']
        simp
theorem outT_eq {m : Mv} (hf : fitB m = true) {p q : Int} (hpq : p ≠ q) {i : Nat} (hi : i < m.rows.length) :
    outT m.rows p q i = if played m.rows[i] = true then ((m.rows.filter played).map (tm (m.rows.filter played) p q m.rows[i])).sum else 0:=by
  have hn:=fit_nodup hf
  have hne : ∀ y ∈ m.rows,played y = true→y.ns ≠ y.ew:=fun y hy hp=>(fit_inP hf y (List.mem_filter.2 ⟨hy,hp⟩)).2.2.2.2
  have hxm : m.rows[i] ∈ m.rows:=List.getElem_mem hi
  have e1:=inS_list hn hi p q
  have e2:=inN_list m.rows[i] m.rows
  obtain ⟨P,hP⟩ : ∃ P,P = m.rows.filter played:=⟨_,rfl⟩
  rw [← hP] at e2
  have e3 : inN m.rows m.rows[i] m.rows.length = (playsN P m.rows[i].s : Int):=by rw [← e2,← sumTo_list]; rfl
  unfold outT
  rw [rowAt_eq hi,e1,e3]
  rw [← hP]
  obtain ⟨x,hx⟩ : ∃ x,x = m.rows[i]:=⟨_,rfl⟩
  rw [← hx] at hxm ⊢
  rw [played_playB]
  have hss : (x.s == x.s) = true:=by simp
  rw [hss,Bool.and_true]
  cases hpl : played x with
  | false=>simp
  | true=>
    rw [Bool.true_and,if_pos rfl]
    have hxn:=hne x hxm hpl
    have es : (P.map (tm P p q x)).sum = (m.rows.map fun y=>if played y = true then tm P p q x y else 0).sum:=by rw [hP]; exact sum_filter _ _ _
    rw [es]
    by_cases hp : x.ns = p ∨ x.ew = p
    · have hpb : (x.ns == p || x.ew == p) = true:=by simpa using hp
      rw [hpb,if_pos rfl]
      have ep:=sum_pickR (if x.ns == q || x.ew == q then (playsN P x.s : Int) - 1 else 0) x hn hxm
      rw [← ep,← sum_map_add]
      exact sum_congr fun y hy=>pair_eq P hpq hxn (hne y hy) hpl hp
    · have hpb : (x.ns == p || x.ew == p) = false:=by
        rw [Bool.or_eq_false_iff,beq_eq_false_iff_ne,beq_eq_false_iff_ne]
        exact ⟨fun h=>hp (.inl h),fun h=>hp (.inr h)⟩
      rw [hpb,if_neg (by simp)]
      refine (sum_zero fun y hy=>?_).symm
      split
      · have a1 : eqI x.ns p = 0:=if_neg fun h=>hp (.inl h)
        have a2 : eqI x.ew p = 0:=if_neg fun h=>hp (.inr h)
        unfold tm
        rw [a1,a2]
        split
        · split <;> simp
        · rfl
      · rfl
theorem out_cont {m : Mv} (hf : fitB m = true) {p q : Nat} (hp : p≤49) (hq : q≤49) (hpq : p ≠ q) : outS m.rows p q m.rows.length = cont m.rows (p * 50 + q):=by
  have hP:=fit_inP hf
  have hg:=great_bounds (fit_pairs hf)
  have e : outS m.rows p q m.rows.length = (m.rows.map fun x=>if played x = true then ((m.rows.filter played).map (tm (m.rows.filter played) p q x)).sum else 0).sum:=by
    rw [← sumTo_list]
    refine sumTo_congr fun j hj=>?_
    rw [outT_eq hf (by omega) hj,rowAt_eq hj]
  rw [e,← sum_filter]
  unfold cont
  rw [if_neg (by omega),allC_cpq hP hg.2 hp hq]
  rfl
end Go.Proofs.Ytpmgaaalfdjikaa
namespace Go.Proofs.Ytpmgaaalfdjikaa
open Go.RowKit
set_option linter.unusedSimpArgs false
set_option linter.unusedVariables false
def W43 : WC × List VRes:=(.seq (.reg [.stm (.eff (.box 2 (.t 0)) none),.stm (.eff (.box 4 (.c (.agg [.v (.int .i64 0),.v (.int .i64 0),.v (.int .i64 0),.v (.int .i64 0),.v (.int .i64 0),.nil]))) none),.set [(5,.c (.v (.int .i64 0)))] [5]]) (.seq (.seq (.reg [.set [(12,.ap .inot [.ap (.call 49) [.ap (.load 6 true) [.t 2]]])] [10,11,12]]) (.cond (.t 12) (.seq (.reg [.set [(13,.ap (.build [.v (.int .i64 0),.v (.int .i64 0),.v (.int .i64 0),.v (.int .i64 0),.v (.int .i64 0),.nil] []) [])] [13],.stm (.eff (.store 6 (.t 4) (.t 13)) none),.set [(5,.c (.v (.int .i64 290)))] [5]]) .ret) .skip)) (.seq (.seq (.reg [.set [(17,.ap .inot [.ap (.call 60) [.ap (.load 6 true) [.t 2],.t 1]])] [14,15,16,17]]) (.cond (.t 17) (.seq (.reg [.set [(18,.ap (.build [.v (.int .i64 0),.v (.int .i64 0),.v (.int .i64 0),.v (.int .i64 0),.v (.int .i64 0),.nil] []) [])] [18],.stm (.eff (.store 6 (.t 4) (.t 18)) none),.set [(5,.c (.v (.int .i64 291)))] [5]]) .ret) .skip)) (.seq (.reg [.set [(6,.c .nil)] [6]]) (.seq (.seq (.reg [.set [(7,.c (.v (.int .i64 0)))] [7]]) (.block 0 (.loop (.seq (.seq (.reg [.set [(23,.ap (.ibin .lss) [.t 7,.ap .llen [.ap (.load 1 false) [.ap (.fld 5) [.t 2]]]])] [19,20,21,22,23]]) (.cond (.t 23) .skip (.exit 0))) (.seq (.block 1 (.seq (.reg [.set [(30,.ap (.load 5 true) [.ap (.idx 53 5) [.ap (.load 1 false) [.ap (.fld 5) [.t 2]],.t 7]])] [26,27,28,29,30],.stm (.eff (.box 8 (.c (.agg [.v (.int .i64 0),.v (.int .i64 0),.v (.int .i64 0),.v (.int .i64 0),.v (.int .i64 0)]))) none),.stm (.eff (.store 5 (.t 8) (.t 30)) none)]) (.seq (.seq (.reg [.set [(9,.c (.v (.int .i64 0)))] [9]]) (.block 2 (.loop (.seq (.seq (.reg [.set [(34,.ap (.ibin .lss) [.t 9,.ap .llen [.t 1]])] [31,32,33,34]]) (.cond (.t 34) .skip (.exit 2))) (.seq (.block 3 (.seq (.reg [.set [(47,.ap (.ibin .eql) [.ap (.load 1 false) [.ap (.idx 3 1) [.t 1,.t 9]],.ap (.load 1 false) [.ap (.fld 0) [.ap (.idx 53 5) [.ap (.load 1 false) [.ap (.fld 5) [.t 2]],.t 7]]]])] [37,38,39,40,41,42,43,44,45,46,47]]) (.cond (.t 47) (.drw [[.op 48 (.fld 5) [.t 2] none,.op 49 (.load 1 false) [.t 48] none,.op 50 .mv [.t 7] none,.op 51 (.idx 53 5) [.t 49,.t 50] none,.op 52 (.fld 3) [.t 51] none,.op 53 (.load 1 false) [.t 52] none,.op 54 (.fld 5) [.t 2] none,.op 56 .mv [.t 7] none,.op 60 (.fld 2) [.t 8] none,.op 55 (.load 1 false) [.t 54] none,.op 57 (.idx 53 5) [.t 55,.t 56] none,.op 58 (.fld 2) [.t 57] none,.op 59 (.load 1 false) [.t 58] none,.eff (.store 1 (.t 60) (.t 53)) none,.op 61 (.fld 3) [.t 8] none,.eff (.store 1 (.t 61) (.t 59)) none],[.op 48 (.fld 5) [.t 2] none,.op 49 (.load 1 false) [.t 48] none,.op 50 .mv [.t 7] none,.op 51 (.idx 53 5) [.t 49,.t 50] none,.op 52 (.fld 3) [.t 51] none,.op 53 (.load 1 false) [.t 52] none,.op 54 (.fld 5) [.t 2] none,.op 56 .mv [.t 7] none,.op 60 (.fld 2) [.t 8] none,.op 55 (.load 1 false) [.t 54] none,.op 57 (.idx 53 5) [.t 55,.t 56] none,.op 58 (.fld 2) [.t 57] none,.eff (.store 1 (.t 60) (.t 53)) none,.op 59 (.load 1 false) [.t 58] none,.op 61 (.fld 3) [.t 8] none,.eff (.store 1 (.t 61) (.t 59)) none],[.op 48 (.fld 5) [.t 2] none,.op 49 (.load 1 false) [.t 48] none,.op 50 .mv [.t 7] none,.op 51 (.idx 53 5) [.t 49,.t 50] none,.op 52 (.fld 3) [.t 51] none,.op 53 (.load 1 false) [.t 52] none,.op 54 (.fld 5) [.t 2] none,.op 56 .mv [.t 7] none,.op 60 (.fld 2) [.t 8] none,.eff (.store 1 (.t 60) (.t 53)) none,.op 55 (.load 1 false) [.t 54] none,.op 57 (.idx 53 5) [.t 55,.t 56] none,.op 58 (.fld 2) [.t 57] none,.op 59 (.load 1 false) [.t 58] none,.op 61 (.fld 3) [.t 8] none,.eff (.store 1 (.t 61) (.t 59)) none]]) .skip))) (.reg [.set [(9,.ap (.ibin .add) [.t 9,.c (.v (.int .i64 1))])] [35,36,9]])))))) (.reg [.set [(62,.t 6),(63,.ap (.load 5 true) [.t 8])] [62,63],.stm (.eff (.lit 64 53 5 1 [.v (.int .i64 0),.v (.int .i64 0),.v (.int .i64 0),.v (.int .i64 0),.v (.int .i64 0)] [(0,5)] [.t 63]) none),.stm (.eff (.app 65 53 5 (.t 62) (.t 64)) none),.set [(6,.t 65)] [6]])))) (.reg [.set [(7,.ap (.ibin .add) [.t 7,.c (.v (.int .i64 1))])] [24,25,7]])))))) (.seq (.reg [.set [(66,.t 6),(67,.ap (.fld 5) [.t 2])] [66,67],.stm (.eff (.store 1 (.t 67) (.t 66)) none)]) (.seq (.seq (.reg [.set [(70,.ap (.ibin .gtr) [.ap .llen [.t 1],.c (.v (.int .i64 0))])] [68,69,70]]) (.cond (.t 70) (.reg [.set [(71,.ap (.fld 4) [.t 2])] [71],.stm (.eff (.store 1 (.t 71) (.c (.v (.int .i64 1)))) none)]) .skip)) (.seq (.reg [.set [(72,.ap (.load 6 true) [.t 2])] [72],.stm (.eff (.store 6 (.t 4) (.t 72)) none),.set [(5,.c (.v (.int .i64 0)))] [5]]) .ret))))))),[.cell 4 6 true,.t 5])
theorem is43 : IsFn Try.prog frOf 43 Try.f43 W43:=⟨by kernel_rfl,by kernel_rfl,by kernel_rfl⟩
theorem nt43 : Try.f43.ntmps = 73:=by kernel_rfl
def turnRef (m : Mv) (L : List Int) : D × Mem:=
  if fitB m = true then (if listOK m.r (-1) L = true then (if m.rows.isEmpty then (.tup [.agg ((exch m L).cellsW .nil),iv 0],noMem)
    else (.tup [.agg ((exch m L).cellsW (.sl [] 5 0 m.rows.length none)),iv 0],rowMem 53 (rowsL (exch m L).rows)))
  else (.tup [.agg noMv,iv 291],noMem)) else (.tup [.agg noMv,iv 290],noMem)
def TvA (m : Mv) (L : List Int) (σ : St) : Prop:=σ.s 1 = .list (ints L)∧σ.s 2 = .ptr [3,0] 0∧σ.m [3,0] = some (.box [iv m.t,iv m.r,iv m.s,iv m.c,iv m.w,.list (rowsL m.rows)])∧σ.s 4 = .ptr [5,0] 0∧σ.m [5,0] = some (.box noMv)
theorem turnRow_take {L : List Int} {k : Nat} (h : k < L.length) (x : Row) : turnRow (L.take (k + 1)) x = if L[k] = x.r then { x with ns:=x.ew,ew:=x.ns } else turnRow (L.take k) x:=by
  unfold turnRow
  rw [List.take_succ_eq_append_getElem h]
  by_cases e : L[k] = x.r
  · rw [if_pos e,if_pos (by simp [e])]
  · rw [if_neg e]
    have : (L.take k ++ [L[k]]).contains x.r = (L.take k).contains x.r:=by
      rw [Bool.eq_iff_iff]
      simp only [List.contains_iff_mem,List.mem_append,List.mem_singleton]
      exact ⟨fun h=>h.resolve_right fun h=>e h.symm,.inl⟩
    rw [this]
theorem c43w (p49 p60 : FP) (m : Mv) (L : List Int) (hl : L.length≤1000000) (h49 : p49 [.agg [iv m.t,iv m.r,iv m.s,iv m.c,iv m.w,.list (rowsL m.rows)]] = some (bv (fitB m)))
    (h60 : p60 [.agg [iv m.t,iv m.r,iv m.s,iv m.c,iv m.w,.list (rowsL m.rows)],.list (ints L)] = some (bv (listOK m.r (-1) L))) :
    wwp (mkEnv [(49,p49),(60,p60)] [] []) W43.1 (fun e s=>okExit e∧∃ d0,resV W43.2 s = some d0∧Out s d0 (turnRef m L).1 (turnRef m L).2) (initV [.agg m.cells,.list (ints L)]):=by
  simp only [W43]
  refine wwp_cutW (wf_init _) (TvA m L) (by simp [TvA,Mv.cells,Mv.cellsW,noMv]) ?_
  rintro σ W ⟨h1,h2,m3,h4,m5⟩
  cases hf : fitB m with
  | false=>
    rw [hf] at h49
    have e : turnRef m L = (.tup [.agg noMv,iv 290],noMem):=by unfold turnRef; rw [hf]; rfl
    rw [e]
    simp [h1,h2,m3,h4,m5,h49,noMv]
    exact Out.flat rfl rfl
  | true=>
  rw [hf] at h49
  have hm60:=fit_len hf
  refine wwp_condW W (TvA m L) (by simp [TvA,h1,h2,m3,h4,m5,h49]) ?_
  clear W h1 h2 m3 h4 m5 σ
  rintro σ W ⟨h1,h2,m3,h4,m5⟩
  cases hk : listOK m.r (-1) L with
  | false=>
    rw [hk] at h60
    have e : turnRef m L = (.tup [.agg noMv,iv 291],noMem):=by unfold turnRef; rw [hf,hk]; rfl
    rw [e]
    simp [h1,h2,m3,h4,m5,h60,noMv]
    exact Out.flat rfl rfl
  | true=>
  rw [hk] at h60
  refine wwp_condW W (TvA m L) (by simp [TvA,h1,h2,m3,h4,m5,h60]) ?_
  clear W h1 h2 m3 h4 m5 σ
  rintro σ W ⟨h1,h2,m3,h4,m5⟩
  refine wwp_cut (fun σ=>TvA m L σ∧σ.s 6 = .nil) (by simp [TvA,h1,h2,m3,h4,m5]) ?_
  clear W h1 h2 m3 h4 m5 σ
  rintro σ ⟨⟨h1,h2,m3,h4,m5⟩,h6⟩
  refine wwp_cutG (fun σ=>TvA m L σ∧RowsAt σ.m (σ.s 6) (m.rows.map (turnRow L))) ?_ ?_
  · refine wwp_cut (fun σ=>TvA m L σ∧σ.s 6 = .nil∧σ.s 7 = iv 0) (by simp [TvA,h1,h2,m3,h4,m5,h6]) ?_
    clear h1 h2 m3 h4 m5 h6 σ
    rintro σ ⟨hT,h6,h7⟩
    simp only [wwp_block]
    refine wwp_loop (fun σ=>∃ i : Nat,i≤m.rows.length∧TvA m L σ∧RowsAt σ.m (σ.s 6) ((m.rows.take i).map (turnRow L))∧σ.s 7 = iv i) (fun σ=>cnt m.rows.length (σ.s 7)) ?_ ?_
    · exact ⟨0,by omega,hT,.inl ⟨rfl,h6⟩,h7⟩
    clear hT h6 h7 σ
    rintro σ hw ⟨i,hi,⟨h1,h2,m3,h4,m5⟩,hR,h7⟩
    refine wwp_seq_assoc ?_
    by_cases hlt : i < m.rows.length
    · have hw1:=wrap_succ (show i≤1000000000 by omega)
      have hmu : cnt m.rows.length (σ.s 7) = m.rows.length - i:=by simp [h7]
      simp only [hmu]
      clear hmu
      have htk : (m.rows.take (i + 1)).map (turnRow L) = (m.rows.take i).map (turnRow L) ++ [turnRow L m.rows[i]]:=by rw [List.take_succ_eq_append_getElem hlt,List.map_append]; rfl
      obtain ⟨x,hx⟩ : ∃ x,x = m.rows[i]:=⟨_,rfl⟩
      rw [← hx] at htk
      have hcell : (rowsL m.rows)[i]? = some x.cells:=by rw [rowsL_at hlt,hx]
      have hlen : ((m.rows.take i).map (turnRow L)).length = i:=by simp; omega
      obtain ⟨RS,hRS⟩ : ∃ RS,RS = (m.rows.take i).map (turnRow L):=⟨_,rfl⟩
      rw [← hRS] at hR htk hlen
      refine wwp_on (fun σ=>WF σ∧TvA m L σ∧RowsAt σ.m (σ.s 6) RS∧σ.s 7 = iv i) (by simp [TvA,h1,h2,m3,h4,m5,h7,hlt]; exact ⟨hw,hR⟩) ?_
      clear hw h1 h2 m3 h4 m5 hR h7 σ
      rintro σ ⟨hw,⟨h1,h2,m3,h4,m5⟩,hR,h7⟩
      refine wwp_body (fun σ=>TvA m L σ∧RowsAt σ.m (σ.s 6) (RS ++ [turnRow L x])∧σ.s 7 = iv i) ?_ ?_
      · refine wwp_cutW hw (fun σ=>TvA m L σ∧RowsAt σ.m (σ.s 6) RS∧σ.s 7 = iv i∧∃ u,σ.s 8 = .ptr [9,u] 0∧σ.m [9,u] = some (.box x.cells)) ?_ ?_
        · rcases hR with ⟨hd0,hd⟩ | ⟨hd0,tk,g,hd,htkm⟩
          · simp [TvA,h1,h2,m3,h4,m5,h7,hlt,hcell,Row.cells,← hx,hd]
            exact .inl ⟨hd0,rfl⟩
          · have n1:=hw.ne htkm 8 (σ.c 8) []
            simp [TvA,h1,h2,m3,h4,m5,h7,hlt,hcell,Row.cells,← hx,hd]
            exact .inr ⟨hd0,tk,g,rfl,by simp [n1,htkm]⟩
        clear hw h1 h2 m3 h4 m5 hR h7 σ
        rintro σ hw ⟨⟨h1,h2,m3,h4,m5⟩,hR,h7,u,h8,m9⟩
        refine wwp_cutG (fun σ=>WF σ∧TvA m L σ∧RowsAt σ.m (σ.s 6) RS∧σ.s 7 = iv i∧∃ u,σ.s 8 = .ptr [9,u] 0∧σ.m [9,u] = some (.box (turnRow L x).cells)) ?_ ?_
        · refine wwp_cutW hw (fun σ=>TvA m L σ∧RowsAt σ.m (σ.s 6) RS∧σ.s 7 = iv i∧(∃ u,σ.s 8 = .ptr [9,u] 0∧σ.m [9,u] = some (.box x.cells))∧σ.s 9 = iv 0) (by simp [TvA,h1,h2,m3,h4,m5,h7,h8,m9]; exact hR) ?_
          clear hw h1 h2 m3 h4 m5 hR h7 u h8 m9 σ
          rintro σ hw ⟨hT,hR,h7,h8,h9⟩
          simp only [wwp_block]
          refine wwp_loop (fun σ=>∃ k : Nat,k≤L.length∧TvA m L σ∧RowsAt σ.m (σ.s 6) RS∧σ.s 7 = iv i∧(∃ u,σ.s 8 = .ptr [9,u] 0∧σ.m [9,u] = some (.box (turnRow (L.take k) x).cells))∧σ.s 9 = iv k) (fun σ=>cnt L.length (σ.s 9)) ?_ ?_
          · refine ⟨0,by omega,hT,hR,h7,?_,h9⟩
            simpa [turnRow] using h8
          clear hw hT hR h7 h8 h9 σ
          rintro σ hw ⟨k,hkl,⟨h1,h2,m3,h4,m5⟩,hR,h7,⟨u,h8,m9⟩,h9⟩
          refine wwp_seq_assoc ?_
          by_cases hlk : k < L.length
          · have hw2:=wrap_succ (show k≤1000000000 by omega)
            have hmu : cnt L.length (σ.s 9) = L.length - k:=by simp [h9]
            simp only [hmu]
            clear hmu
            have c1:=ints_at hlk
            have htt:=turnRow_take hlk x
            obtain ⟨z,hz⟩ : ∃ z,z = L[k]:=⟨_,rfl⟩
            rw [← hz] at c1 htt
            obtain ⟨y,hy⟩ : ∃ y,y = turnRow (L.take k) x:=⟨_,rfl⟩
            rw [← hy] at m9 htt
            have hyc : y.r = x.r∧y.t = x.t∧y.s = x.s:=by rw [hy]; unfold turnRow; split <;> exact ⟨rfl,rfl,rfl⟩
            refine wwp_on (fun σ=>WF σ∧TvA m L σ∧RowsAt σ.m (σ.s 6) RS∧σ.s 7 = iv i∧(∃ u,σ.s 8 = .ptr [9,u] 0∧σ.m [9,u] = some (.box y.cells))∧σ.s 9 = iv k) (by simp [TvA,h1,h2,m3,h4,m5,h7,h8,m9,h9,hlk]; exact ⟨hw,hR⟩) ?_
            clear hw h1 h2 m3 h4 m5 hR h7 u h8 m9 h9 σ
            rintro σ ⟨hw,⟨h1,h2,m3,h4,m5⟩,hR,h7,⟨u,h8,m9⟩,h9⟩
            refine wwp_body (fun σ=>TvA m L σ∧RowsAt σ.m (σ.s 6) RS∧σ.s 7 = iv i∧(∃ u,σ.s 8 = .ptr [9,u] 0∧σ.m [9,u] = some (.box (turnRow (L.take (k + 1)) x).cells))∧σ.s 9 = iv k) ?_ ?_
            · rw [htt]
              by_cases hzx : z = x.r
              · refine wwp_cutG (fun σ=>TvA m L σ∧RowsAt σ.m (σ.s 6) RS∧σ.s 7 = iv i∧(σ.s 8 = .ptr [9,u] 0∧σ.m [9,u] = some (.box y.cells))∧σ.s 9 = iv k∧σ.s 47 = bv true) (by simp [TvA,h1,h2,m3,h4,m5,h7,h8,m9,h9,hlk,c1,hlt,hcell,Row.cells,← hx,← hz,hzx]; exact hR) ?_
                clear hw h1 h2 m3 h4 m5 h7 h8 m9 h9 hR σ
                rintro σ ⟨⟨h1,h2,m3,h4,m5⟩,hR,h7,⟨h8,m9⟩,h9,h47⟩
                rw [if_pos hzx]
                simp only [wwp_cond,VArg.val,h47]
                refine condK_b (fun _=>?_) (fun h=>by cases h)
                refine wwp_drw_k [48,49,50,51,52,53,54,55,56,57,58,59,60,61] (fun τ=>if τ = [9,u] then some (.box [iv x.r,iv x.t,iv x.ew,iv x.ns,iv x.s]) else σ.m τ) σ.c (by decide) ?_ ?_
                · intro sts hsts
                  simp only [List.mem_cons,List.not_mem_nil,or_false] at hsts
                  rcases hsts with rfl | rfl | rfl
                  all_goals
                    simp [h2,m3,h7,h8,m9,hlt,hcell,Row.cells,← hx,hyc]
                    funext τ
                    by_cases ht : τ = [9,u] <;> simp [ht]
                · have hR' : RowsAt (fun τ=>if τ = [9,u] then some (.box [iv x.r,iv x.t,iv x.ew,iv x.ns,iv x.s]) else σ.m τ) (σ.s 6) RS:=by
                    rcases hR with hR | ⟨a,tk,g,hd,htkm⟩
                    · exact .inl hR
                    · refine .inr ⟨a,tk,g,hd,?_⟩
                      have : tk ≠ [9,u]:=fun e=>by rw [e,m9] at htkm; cases htkm
                      simp [this,htkm]
                  simp [TvA,h1,h2,m3,h4,m5,h7,h8,h9,Row.cells]
                  exact hR'
              · have hzb : (z == x.r) = false:=beq_false_of_ne hzx
                refine wwp_cutG (fun σ=>TvA m L σ∧RowsAt σ.m (σ.s 6) RS∧σ.s 7 = iv i∧(σ.s 8 = .ptr [9,u] 0∧σ.m [9,u] = some (.box y.cells))∧σ.s 9 = iv k∧σ.s 47 = bv false) (by simp [TvA,h1,h2,m3,h4,m5,h7,h8,m9,h9,hlk,c1,hlt,hcell,Row.cells,← hx,← hz,hzb]; exact hR) ?_
                clear hw h1 h2 m3 h4 m5 h7 h8 m9 h9 hR σ
                rintro σ ⟨⟨h1,h2,m3,h4,m5⟩,hR,h7,⟨h8,m9⟩,h9,h47⟩
                rw [if_neg hzx]
                simp only [wwp_cond,VArg.val,h47]
                refine condK_b (fun h=>by cases h) (fun _=>?_)
                simp [TvA,h1,h2,m3,h4,m5,h7,h8,m9,h9]
                exact hR
            · clear hw h1 h2 m3 h4 m5 hR h7 u h8 m9 h9 σ
              rintro σ ⟨⟨h1,h2,m3,h4,m5⟩,hR,h7,⟨u,h8,m9⟩,h9⟩
              simp [TvA,h1,h2,m3,h4,m5,h7,h8,m9,h9,hw2]
              exact ⟨⟨k + 1,by omega,hR,rfl,rfl⟩,by omega⟩
          · obtain rfl : k = L.length:=by omega
            rw [List.take_length] at m9
            refine wwp_off ?_
            simp [TvA,h1,h2,m3,h4,m5,h7,h8,m9,h9]
            exact ⟨hw,hR⟩
        · clear hw h1 h2 m3 h4 m5 hR h7 u h8 m9 σ
          rintro σ ⟨hw,⟨h1,h2,m3,h4,m5⟩,hR,h7,u,h8,m9⟩
          obtain ⟨y,hy⟩ : ∃ y,y = turnRow L x:=⟨_,rfl⟩
          rw [← hy] at m9 ⊢
          rcases hR with ⟨hd0,hd⟩ | ⟨hd0,tk,g,hd,htkm⟩
          · simp [TvA,h1,h2,m3,h4,m5,h7,h8,m9,hd,Row.cells,one_made]
            exact .inr ⟨by simp,[66,σ.c 65],[66,σ.c 65],by simp [hd0],by simp [hd0,rowsL,Row.cells]⟩
          · have p1:=hw.ne htkm 64 (σ.c 64) []
            have p2:=hw.ne htkm 65 (σ.c 65) []
            have hmm : RS.length + 1≤maxMade:=by unfold maxMade; omega
            simp [TvA,h1,h2,m3,h4,m5,h7,h8,m9,hd,Row.cells,htkm,p1,hmm]
            exact .inr ⟨by simp,[66,σ.c 65],g,by simp,by simp [rowsL_append,rowsL,Row.cells]⟩
      · rw [← htk]
        clear hw h1 h2 m3 h4 m5 hR h7 σ
        rintro σ ⟨⟨h1,h2,m3,h4,m5⟩,hR,h7⟩
        simp [TvA,h1,h2,m3,h4,m5,h7,hw1]
        exact ⟨⟨i + 1,by omega,by simpa using hR,rfl⟩,by omega⟩
    · obtain rfl : i = m.rows.length:=by omega
      rw [List.take_length] at hR
      refine wwp_off ?_
      simp [TvA,h1,h2,m3,h4,m5,h7]
      exact hR
  · clear h1 h2 m3 h4 m5 h6 σ
    rintro σ ⟨⟨h1,h2,m3,h4,m5⟩,hR⟩
    by_cases h0 : m.rows = []
    · have hd : σ.s 6 = .nil:=by
        rcases hR with ⟨_,hd⟩ | ⟨hd0,_⟩
        · exact hd
        · rw [h0] at hd0; simp at hd0
      have e : turnRef m L = (.tup [.agg ((exch m L).cellsW .nil),iv 0],noMem):=by unfold turnRef; rw [hf,hk,h0]; rfl
      rw [e]
      by_cases hL : L = []
      · simp [h1,h2,m3,h4,m5,hd,hL,noMv,exch,Mv.cellsW]
        exact Out.flat rfl rfl
      · have hL' : 0 < L.length:=List.length_pos_iff.2 hL
        simp [h1,h2,m3,h4,m5,hd,hL,hL',noMv,exch,Mv.cellsW]
        exact Out.flat rfl rfl
    · have h0' : m.rows.isEmpty = false:=by simpa using h0
      have e : turnRef m L = (.tup [.agg ((exch m L).cellsW (.sl [] 5 0 m.rows.length none)),iv 0],rowMem 53 (rowsL (exch m L).rows)):=by unfold turnRef; rw [hf,hk,h0']; rfl
      rw [e]
      rcases hR with ⟨hd0,_⟩ | ⟨_,tk,g,hd,htkm⟩
      · simp at hd0; exact absurd hd0 h0
      · have n3 : tk ≠ [3,0]:=fun e=>by rw [e,m3] at htkm; cases htkm
        have n5 : tk ≠ [5,0]:=fun e=>by rw [e,m5] at htkm; cases htkm
        rw [List.length_map] at hd
        by_cases hL : L = []
        · simp [h1,h2,m3,h4,m5,hd,hL,noMv,exch,Mv.cellsW]
          rw [hL] at htkm
          exact Out.tup (Out.aggRow (t:=tk) (g:=g) (es:=rowsL (m.rows.map (turnRow []))) (pre:=[iv m.t,iv m.r,iv m.s,iv m.c,iv m.w]) rfl (by simp [n3,n5,htkm]) (rowsL_flat _)) _
        · have hL' : 0 < L.length:=List.length_pos_iff.2 hL
          simp [h1,h2,m3,h4,m5,hd,hL,hL',noMv,exch,Mv.cellsW]
          exact Out.tup (Out.aggRow (t:=tk) (g:=g) (es:=rowsL (m.rows.map (turnRow L))) (pre:=[iv m.t,iv m.r,iv m.s,iv m.c,iv 1]) rfl (by simp [n3,n5,htkm]) (rowsL_flat _)) _
end Go.Proofs.Ytpmgaaalfdjikaa
namespace Go.Proofs.Ytpmgaaalfdjikaa
open Go.RowKit
set_option linter.unusedSimpArgs false
set_option linter.unusedVariables false
def W46 : WC × List VRes:=(.seq (.reg [.stm (.eff (.box 1 (.t 0)) none),.set [(2,.c .nil),(3,.c (.v (.int .i64 0)))] [2,3]]) (.seq (.seq (.reg [.set [(10,.ap .inot [.ap (.call 49) [.ap (.load 6 true) [.t 1]]])] [8,9,10]]) (.cond (.t 10) (.seq (.reg [.set [(2,.c .nil),(3,.c (.v (.int .i64 290)))] [2,3]]) .ret) .skip)) (.seq (.reg [.set [(4,.c .nil)] [4]]) (.seq (.seq (.reg [.set [(5,.c (.v (.int .i64 1)))] [5]]) (.block 0 (.loop (.seq (.seq (.reg [.set [(14,.ap (.ibin .leq) [.t 5,.ap (.call 65) [.ap (.load 6 true) [.t 1]]])] [11,12,13,14]]) (.cond (.t 14) .skip (.exit 0))) (.seq (.block 1 (.seq (.reg [.set [(6,.c .nil)] [6]]) (.seq (.seq (.reg [.set [(7,.c (.v (.int .i64 1)))] [7]]) (.block 2 (.loop (.seq (.seq (.reg [.set [(20,.ap (.ibin .leq) [.t 7,.ap (.call 65) [.ap (.load 6 true) [.t 1]]])] [17,18,19,20]]) (.cond (.t 20) .skip (.exit 2))) (.seq (.block 3 (.seq (.reg [.set [(25,.ap (.ibin .eql) [.t 5,.t 7])] [23,24,25]]) (.cond (.t 25) (.reg [.set [(26,.t 6)] [26],.stm (.eff (.lit 27 3 1 1 [.v (.int .i64 0)] [(0,1)] [.c (.v (.int .i64 0))]) none),.stm (.eff (.app 28 3 1 (.t 26) (.t 27)) none),.set [(6,.t 28)] [6]]) (.reg [.set [(29,.t 6),(33,.ap (.call 66) [.ap (.load 6 true) [.t 1],.t 5,.t 7])] [29,30,31,32,33],.stm (.eff (.lit 34 3 1 1 [.v (.int .i64 0)] [(0,1)] [.t 33]) none),.stm (.eff (.app 35 3 1 (.t 29) (.t 34)) none),.set [(6,.t 35)] [6]])))) (.reg [.set [(7,.ap (.ibin .add) [.t 7,.c (.v (.int .i64 1))])] [21,22,7]])))))) (.reg [.set [(36,.t 4),(37,.t 6)] [36,37],.stm (.eff (.lit 38 34 1 1 [.nil] [(0,1)] [.t 37]) none),.stm (.eff (.app 39 34 1 (.t 36) (.t 38)) none),.set [(4,.t 39)] [4]])))) (.reg [.set [(5,.ap (.ibin .add) [.t 5,.c (.v (.int .i64 1))])] [15,16,5]])))))) (.seq (.reg [.set [(2,.t 4),(3,.c (.v (.int .i64 0)))] [40,2,3]]) .ret)))),[.t 2,.t 3])
theorem is46 : IsFn Try.prog frOf 46 Try.f46 W46:=⟨by kernel_rfl,by kernel_rfl,by kernel_rfl⟩
theorem nt46 : Try.f46.ntmps = 41:=by kernel_rfl
def tkR (n j : Nat) : Tok:=if j + 1 = n then [29,j] else if j + 1 < n then [36,j * (n - 1) + (n - 2)] else [0,j]
def grR (n j : Nat) : Tok:=if j = 0 then [29,0] else if j < n then [36,j * (n - 1)] else [0,j]
theorem mul_step {n i j : Nat} (h : i < j) : i * (n - 1) + (n - 1)≤j * (n - 1):=by
  rw [← Nat.succ_mul]; exact Nat.mul_le_mul_right _ h
theorem tkR_at {n i j : Nat} (h : i < j) (hj : j < n) : ∃ u,tkR n i = [36,u]∧u < j * (n - 1):=by
  have:=mul_step (n:=n) h
  refine ⟨i * (n - 1) + (n - 2),?_,by omega⟩
  unfold tkR
  rw [if_neg (by omega),if_pos (by omega)]
theorem grR_ne {n i j : Nat} (h : i < j) (hj : j < n) : grR n i ≠ [36,j * (n - 1)]:=by
  have:=mul_step (n:=n) h
  unfold grR
  by_cases h0 : i = 0
  · rw [if_pos h0]; intro e; simp at e
  · rw [if_neg h0,if_pos (by omega)]
    intro e
    injection e with _ e
    injection e with e _
    omega
theorem tkR_inj (n j k : Nat) (h : tkR n j = tkR n k) : j = k:=by
  unfold tkR at h
  split at h <;> split at h
  all_goals (try split at h)
  all_goals (try split at h)
  all_goals (simp at h)
  all_goals (try omega)
  rcases Nat.lt_trichotomy j k with e | e | e
  · have:=mul_step (n:=n) e; omega
  · exact e
  · have:=mul_step (n:=n) e; omega
theorem grR_inj (n j k : Nat) (h : grR n j = grR n k) : j = k:=by
  unfold grR at h
  split at h <;> split at h
  all_goals (try split at h)
  all_goals (try split at h)
  all_goals (try (simp at h))
  all_goals (try omega)
  all_goals
    rcases Nat.lt_trichotomy j k with e | e | e
    · have:=mul_step (n:=n) e; omega
    · exact e
    · have:=mul_step (n:=n) e; omega
theorem c46w (p49 p65 p66 : FP) (m : Mv) (n : Nat) (hn : n≤49) (C : Nat→Nat→Int) (h49 : p49 [.agg [iv m.t,iv m.r,iv m.s,iv m.c,iv m.w,.list (rowsL m.rows)]] = some (bv true)) (h65 : p65 [.agg [iv m.t,iv m.r,iv m.s,iv m.c,iv m.w,.list (rowsL m.rows)]] = some (iv n))
    (h66 : ∀ p q : Nat,p < n→q < n→p ≠ q→p66 [.agg [iv m.t,iv m.r,iv m.s,iv m.c,iv m.w,.list (rowsL m.rows)],iv ((p : Int) + 1),iv ((q : Int) + 1)] = some (iv (C p q))) (hC : ∀ p,p < n→C p p = 0)
    (d : D) (mm : Mem) (hd0 : n = 0→d = .tup [.nil,iv 0]∧mm = noMem) (hd1 : 0 < n→d = .tup [.sl [] 1 0 n none,iv 0]∧mm = tableMem ((List.range n).map fun p=>(List.range n).map (C p))) :
    wwp (mkEnv [(49,p49),(65,p65),(66,p66)] [] []) W46.1 (fun e s=>okExit e∧∃ d0,resV W46.2 s = some d0∧Out s d0 d mm) (initV [.agg m.cells]):=by
  obtain ⟨Ls,hLs⟩ : ∃ Ls,Ls = (List.range n).map fun p=>(List.range n).map (C p):=⟨_,rfl⟩
  have hLl : Ls.length = n:=by rw [hLs]; simp
  simp only [W46]
  refine wwp_cutW (wf_init _) (fun σ=>MvA m σ∧σ.c 28 = 0∧σ.c 35 = 0∧σ.c 39 = 0) (by simp [MvA,Mv.cells,Mv.cellsW]) ?_
  rintro σ W ⟨⟨h1,m2⟩,k1,k2,k3⟩
  refine wwp_condW W (fun σ=>MvA m σ∧σ.c 28 = 0∧σ.c 35 = 0∧σ.c 39 = 0) (by simp [MvA,h1,m2,k1,k2,k3,h49]) ?_
  clear W h1 m2 k1 k2 k3 σ
  rintro σ W ⟨⟨h1,m2⟩,k1,k2,k3⟩
  refine wwp_cut (fun σ=>MvA m σ∧σ.c 28 = 0∧σ.c 35 = 0∧σ.c 39 = 0∧σ.s 4 = .nil) (by simp [MvA,h1,m2,k1,k2,k3]) ?_
  clear W h1 m2 k1 k2 k3 σ
  rintro σ ⟨⟨h1,m2⟩,k1,k2,k3,h4⟩
  refine wwp_cutG (fun σ=>σ.s 4 = varOf 40 n∧(0 < n→σ.m [40,n - 1] = some (.row [40,0] 34 (hdsF (tkR n) 0 Ls)))∧LsF (tkR n) (grR n) σ.m 0 Ls) ?_ ?_
  · refine wwp_cut (fun σ=>MvA m σ∧σ.c 28 = 0∧σ.c 35 = 0∧σ.c 39 = 0∧σ.s 4 = .nil∧σ.s 5 = iv 1) (by simp [MvA,h1,m2,k1,k2,k3,h4]) ?_
    clear h1 m2 k1 k2 k3 h4 σ
    rintro σ ⟨hM,k1,k2,k3,h4,h5⟩
    simp only [wwp_block]
    refine wwp_loop (fun σ=>∃ j : Nat,j≤n∧MvA m σ∧σ.c 28 = j∧σ.c 35 = j * (n - 1)∧σ.c 39 = j∧σ.s 4 = varOf 40 j∧σ.s 5 = iv (j + 1)∧
      (0 < j→σ.m [40,j - 1] = some (.row [40,0] 34 (hdsF (tkR n) 0 (Ls.take j))))∧LsF (tkR n) (grR n) σ.m 0 (Ls.take j)) (fun σ=>cnt (n + 1) (σ.s 5)) ?_ ?_
    · exact ⟨0,by omega,hM,k1,by simpa using k2,k3,by simpa [varOf] using h4,by simpa using h5,by omega,fun i L h=>by simp at h⟩
    clear hM k1 k2 k3 h4 h5 σ
    rintro σ hw ⟨j,hj,⟨h1,m2⟩,k1,k2,k3,h4,h5,m40,hls⟩
    refine wwp_seq_assoc ?_
    by_cases hlt : j < n
    · have hlL : j < Ls.length:=by omega
      have htk : Ls.take (j + 1) = Ls.take j ++ [Ls[j]]:=List.take_succ_eq_append_getElem hlL
      have hLj : Ls[j] = (List.range n).map (C j):=by
        have : ∀ (Ls : List (List Int)) (h : j < Ls.length),Ls = ((List.range n).map fun p=>(List.range n).map (C p))→Ls[j] = (List.range n).map (C j):=by
          rintro _ h rfl
          simp
        exact this Ls hlL hLs
      obtain ⟨L,hL⟩ : ∃ L,L = Ls[j]:=⟨_,rfl⟩
      rw [← hL] at htk hLj
      have hne : L ≠ []:=by rw [hLj]; simp; omega
      have hln : L.length = n:=by rw [hLj]; simp
      have htl : (Ls.take j).length = j:=by rw [List.length_take]; omega
      have hw1 : IntKind.i64.wrap ((j : Int) + 1 + 1) = (j : Int) + 1 + 1:=wrap_in (by omega) (by omega)
      have hmu : cnt (n + 1) (σ.s 5) = n - j:=by simp [h5]
      simp only [hmu]
      clear hmu
      have a1 : (j : Int) + 1≤n:=by omega
      have a1' : (j : Int) < n:=by omega
      obtain ⟨Lj,hLj'⟩ : ∃ Lj,Lj = Ls.take j:=⟨_,rfl⟩
      rw [← hLj'] at htk hls htl m40
      obtain ⟨e,he⟩ : ∃ e,e = j * (n - 1):=⟨_,rfl⟩
      have htki : ∀ i,i < j→∃ u,tkR n i = [36,u]∧u < e:=fun i hi=>by rw [he]; exact tkR_at hi hlt
      have hgri : ∀ i,i < j→grR n i ≠ [36,e]:=fun i hi=>by rw [he]; exact grR_ne hi hlt
      have hgrj : 0 < j→grR n j = [36,e]:=fun h=>by unfold grR; rw [if_neg (by omega),if_pos hlt,he]
      rw [← he] at k2
      refine wwp_on (fun σ=>MvA m σ∧σ.c 28 = j∧σ.c 35 = e∧σ.c 39 = j∧σ.s 4 = varOf 40 j∧σ.s 5 = iv (j + 1)∧
        (0 < j→σ.m [40,j - 1] = some (.row [40,0] 34 (hdsF (tkR n) 0 Lj)))∧LsF (tkR n) (grR n) σ.m 0 Lj) (by simp [MvA,h1,m2,k1,k2,k3,h4,h5,h65,a1,a1']; exact ⟨m40,hls⟩) ?_
      clear hw h1 m2 k1 k2 k3 h4 h5 m40 hls σ
      rintro σ ⟨⟨h1,m2⟩,k1,k2,k3,h4,h5,m40,hls⟩
      refine wwp_body (fun σ=>MvA m σ∧σ.c 28 = j + 1∧σ.c 35 = e + (n - 1)∧σ.c 39 = j + 1∧σ.s 4 = varOf 40 (j + 1)∧σ.s 5 = iv (j + 1)∧
        σ.m [40,j] = some (.row [40,0] 34 (hdsF (tkR n) 0 (Lj ++ [L])))∧LsF (tkR n) (grR n) σ.m 0 (Lj ++ [L])) ?_ ?_
      · obtain ⟨G,hG⟩ : ∃ G,G = grR n j:=⟨_,rfl⟩
        have hG40 : ¬ [40,0] = G:=by rw [hG]; unfold grR; intro e; split at e <;> (try split at e) <;> simp at e
        have hGi : ∀ i,i < j→¬ grR n i = G:=fun i hi e=>by rw [hG] at e; have:=grR_inj n i j e; omega
        obtain ⟨bq,hbq⟩ : ∃ bq : Nat→Nat,bq = fun q=>if j < q then 1 else 0:=⟨_,rfl⟩
        have hb0 : ∀ q,q≤j→bq q = 0:=fun q h=>by rw [hbq]; exact if_neg (by omega)
        have hb1 : ∀ q,j < q→bq q = 1:=fun q h=>by rw [hbq]; exact if_pos h
        obtain ⟨tq,htq⟩ : ∃ tq : Nat→Tok,tq = fun q=>if q = j + 1 then [29,j] else [36,e + (q - 1 - bq q)]:=⟨_,rfl⟩
        have htqn : tq n = tkR n j:=by
          rw [htq]
          unfold tkR
          by_cases h : n = j + 1
          · simp only [if_pos h,if_pos h.symm]
          · simp only [if_neg h,if_neg (Ne.symm h),if_pos (show j + 1 < n by omega),hb1 n hlt]
            rw [he,show n - 1 - 1 = n - 2 by omega]
        obtain ⟨P,hP⟩ : ∃ P : St→Prop,P = fun σ=>MvA m σ∧σ.c 39 = j∧σ.s 4 = varOf 40 j∧σ.s 5 = iv (j + 1)∧(0 < j→σ.m [40,j - 1] = some (.row [40,0] 34 (hdsF (tkR n) 0 Lj)))∧LsF (tkR n) (grR n) σ.m 0 Lj:=⟨_,rfl⟩
        refine wwp_cut (fun σ=>P σ∧σ.c 28 = j∧σ.c 35 = e∧σ.s 6 = .nil) (by simp [hP,MvA,h1,m2,k1,k2,k3,h4,h5]; exact ⟨m40,hls⟩) ?_
        clear h1 m2 k1 k2 k3 h4 h5 m40 hls σ
        rintro σ ⟨hPσ,k1,k2,h6⟩
        rw [hP] at hPσ
        obtain ⟨⟨h1,m2⟩,k3,h4,h5,m40,hls⟩:=hPσ
        refine wwp_cutG (fun σ=>P σ∧σ.c 28 = j + 1∧σ.c 35 = e + (n - 1)∧σ.s 6 = .sl (tkR n j) 1 0 n none∧σ.m (tkR n j) = some (.row G 3 (ints L))) ?_ ?_
        · refine wwp_cut (fun σ=>P σ∧σ.c 28 = j∧σ.c 35 = e∧σ.s 6 = .nil∧σ.s 7 = iv 1) (by simp [hP,MvA,h1,m2,k1,k2,k3,h4,h5,h6]; exact ⟨m40,hls⟩) ?_
          clear h1 m2 k1 k2 k3 h4 h5 m40 hls h6 σ
          rintro σ ⟨hPσ,k1,k2,h6,h7⟩
          simp only [wwp_block]
          refine wwp_loop (fun σ=>∃ q : Nat,q≤n∧P σ∧σ.c 28 = j + bq q∧σ.c 35 = e + (q - bq q)∧((q = 0∧σ.s 6 = .nil) ∨ (0 < q∧σ.s 6 = .sl (tq q) 1 0 q none∧σ.m (tq q) = some (.row G 3 (ints (L.take q)))))∧σ.s 7 = iv (q + 1)) (fun σ=>cnt (n + 1) (σ.s 7)) ?_ ?_
          · exact ⟨0,by omega,hPσ,by rw [hb0 0 (by omega)]; exact k1,by rw [hb0 0 (by omega)]; exact k2,.inl ⟨rfl,h6⟩,by simpa using h7⟩
          clear hPσ k1 k2 h6 h7 σ
          rintro σ hw ⟨q,hq,hPσ,k1,k2,h6,h7⟩
          rw [hP] at hPσ
          obtain ⟨⟨h1,m2⟩,k3,h4,h5,m40,hls⟩:=hPσ
          refine wwp_seq_assoc ?_
          by_cases hqn : q < n
          · have hw2 : IntKind.i64.wrap ((q : Int) + 1 + 1) = (q : Int) + 1 + 1:=wrap_in (by omega) (by omega)
            have hmu2 : cnt (n + 1) (σ.s 7) = n - q:=by simp [h7]
            simp only [hmu2]
            clear hmu2
            have hqL : q < L.length:=by omega
            have htk2 : L.take (q + 1) = L.take q ++ [L[q]]:=List.take_succ_eq_append_getElem hqL
            have hLq : L[q] = C j q:=by
              have : ∀ (L : List Int) (h : q < L.length),L = (List.range n).map (C j)→L[q] = C j q:=by rintro _ h rfl; simp
              exact this L hqL hLj
            rw [hLq] at htk2
            have q1 : (q : Int) + 1≤n:=by omega
            have q1' : (q : Int) < n:=by omega
            refine wwp_on (fun σ=>WF σ∧P σ∧σ.c 28 = j + bq q∧σ.c 35 = e + (q - bq q)∧((q = 0∧σ.s 6 = .nil) ∨ (0 < q∧σ.s 6 = .sl (tq q) 1 0 q none∧σ.m (tq q) = some (.row G 3 (ints (L.take q)))))∧σ.s 7 = iv (q + 1)) (by simp [hP,MvA,h1,m2,k1,k2,k3,h4,h5,h7,h65,q1,q1']; exact ⟨hw,⟨m40,hls⟩,h6⟩) ?_
            clear hw h1 m2 k1 k2 k3 h4 h5 m40 hls h6 h7 σ
            rintro σ ⟨hw,hPσ,k1,k2,h6,h7⟩
            rw [hP] at hPσ
            obtain ⟨⟨h1,m2⟩,k3,h4,h5,m40,hls⟩:=hPσ
            refine wwp_body (fun σ=>P σ∧σ.c 28 = j + bq (q + 1)∧σ.c 35 = e + (q + 1 - bq (q + 1))∧σ.s 6 = .sl (tq (q + 1)) 1 0 (q + 1) none∧σ.m (tq (q + 1)) = some (.row G 3 (ints (L.take (q + 1))))∧σ.s 7 = iv (q + 1)) ?_ ?_
            · have lsK : ∀ m' : Mem,(∀ u es gi,u < e→¬ gi = G→σ.m [36,u] = some (.row gi 3 es)→m' [36,u] = some (.row gi 3 es))→LsF (tkR n) (grR n) m' 0 Lj:=fun m' H=>hls.old fun i hi es h=>by
                rw [htl] at hi
                obtain ⟨u,hu,hue⟩:=htki i hi
                simp only [Nat.zero_add,hu] at h ⊢
                exact H u es _ hue (hGi i hi) h
              by_cases hqj : q = j
              · subst hqj
                have hc0 : C q q = 0:=hC q hlt
                have e1 : bq q = 0:=hb0 q (by omega)
                have e2 : bq (q + 1) = 1:=hb1 (q + 1) (by omega)
                have e3 : tq (q + 1) = [29,q]:=by rw [htq]; simp
                rw [e1] at k1 k2
                rw [e2,e3,htk2,hc0]
                rcases h6 with ⟨h0,h6⟩ | ⟨h0,h6,m6⟩
                · have hG0 : G = [29,0]:=by rw [hG,grR,if_pos h0]
                  rw [hG0]
                  simp [hP,MvA,h1,m2,k1,k2,k3,h4,h5,h7,h6,one_made]
                  exact ⟨⟨m40,hls.old fun i hi es h=>absurd hi (by omega)⟩,h0,by simp [ints,h0]⟩
                · have e4 : tq q = [36,e + (q - 1)]:=by rw [htq]; simp only [if_neg (show ¬ q = q + 1 by omega),e1]; rfl
                  rw [e4] at h6 m6
                  have hmm : q + 1≤maxMade:=by unfold maxMade; omega
                  have hql : q≤L.length:=by omega
                  have hti : List.take q (ints (L.take q)) = ints (L.take q):=List.take_of_length_le (by simp; omega)
                  have m40:=m40 h0
                  simp [hP,MvA,h1,m2,k1,k2,k3,h4,h5,h7,h6,m6,hmm,one_made,hql,hti,m40,hG40]
                  exact ⟨lsK _ fun u es gi hue hgi h=>by simp [h,hgi],by simp [ints]⟩
              · have hcC:=h66 j q hlt hqn (fun h=>hqj h.symm)
                have hjq : ((j : Int) == (q : Int)) = false:=by simp; omega
                have hjq2 : ¬ (j : Int) = (q : Int):=by omega
                have hjq3 : ((j : Int) + 1 == (q : Int) + 1) = false:=by simp; omega
                have e0 : bq (q + 1) = bq q:=by
                  by_cases hh : j < q
                  · rw [hb1 q hh,hb1 (q + 1) (by omega)]
                  · rw [hb0 q (by omega),hb0 (q + 1) (by omega)]
                have e3 : tq (q + 1) = [36,e + (q - bq q)]:=by rw [htq]; simp only [if_neg (show ¬ q + 1 = j + 1 by omega),e0]; rfl
                have hbl : bq q≤q:=by
                  by_cases hh : j < q
                  · rw [hb1 q hh]; omega
                  · rw [hb0 q (by omega)]; omega
                have e5 : q + 1 - bq q = q - bq q + 1:=by omega
                rw [e0,e3,htk2,e5]
                obtain ⟨b,hb⟩ : ∃ b,b = q - bq q:=⟨_,rfl⟩
                rw [← hb] at k2 ⊢
                rcases h6 with ⟨h0,h6⟩ | ⟨h0,h6,m6⟩
                · have hj0 : 0 < j:=by omega
                  have hb00 : b = 0:=by omega
                  have hGe : G = [36,e]:=by rw [hG,hgrj hj0]
                  rw [hb00] at k2 ⊢
                  rw [hGe]
                  clear hb00 hb
                  simp [hP,MvA,h1,m2,k1,k2,k3,h4,h5,h7,h6,hcC,hjq,hjq2,hjq3,one_made]
                  exact ⟨⟨m40,lsK _ fun u es gi hue hgi h=>by
                    have hu : ¬ u = e:=by omega
                    simp [h,hu,k2]⟩,by simp [ints,h0]⟩
                · have hmm : q + 1≤maxMade:=by unfold maxMade; omega
                  have hql : q≤L.length:=by omega
                  have hti : List.take q (ints (L.take q)) = ints (L.take q):=List.take_of_length_le (by simp; omega)
                  obtain ⟨t6,ht6⟩ : ∃ t6,t6 = tq q:=⟨_,rfl⟩
                  rw [← ht6] at h6 m6
                  have n1:=hw.ne m6 34 (σ.c 34) []
                  simp [hP,MvA,h1,m2,k1,k2,k3,h4,h5,h7,h6,m6,hcC,hjq,hjq2,hjq3,hmm,one_made,hql,hti,hG40,n1]
                  exact ⟨⟨fun h0=>by simp [m40 h0,hG40],lsK _ fun u es gi hue hgi h=>by
                    have hu : ¬ u = e + b:=by omega
                    simp [h,hgi,hu,k2]⟩,by omega,by simp [ints]⟩
            · clear hw h1 m2 k1 k2 k3 h4 h5 m40 hls h6 h7 σ
              rintro σ ⟨hPσ,k1,k2,h6,m6,h7⟩
              rw [hP] at hPσ
              obtain ⟨⟨h1,m2⟩,k3,h4,h5,m40,hls⟩:=hPσ
              simp [hP,MvA,h1,m2,k1,k2,k3,h4,h5,h6,h7,hw2]
              exact ⟨⟨q + 1,by omega,⟨m40,hls⟩,rfl,rfl,⟨by omega,⟨rfl,rfl⟩,m6⟩,by simp⟩,by omega⟩
          · obtain rfl : q = n:=by omega
            rw [← hln,List.take_length,hln] at h6
            have q1 : ¬ (q : Int) + 1≤q:=by omega
            rcases h6 with ⟨h0,_⟩ | ⟨_,h6,m6⟩
            · omega
            rw [htqn] at h6 m6
            rw [hb1 q hlt] at k1 k2
            refine wwp_off ?_
            simp [hP,MvA,h1,m2,k1,k2,k3,h4,h5,h7,h65,q1,h6,m6]
            exact ⟨m40,hls⟩
        · clear h1 m2 k1 k2 k3 h4 h5 m40 hls h6 σ
          rintro σ ⟨hPσ,k1,k2,h6,m6⟩
          rw [hP] at hPσ
          obtain ⟨⟨h1,m2⟩,k3,h4,h5,m40,hls⟩:=hPσ
          obtain ⟨T6,hT6⟩ : ∃ T6,T6 = tkR n j:=⟨_,rfl⟩
          rw [← hT6] at h6 m6
          have hTn : ∀ k,¬ T6 = [39,k]∧¬ T6 = [40,k]:=fun k=>by
            rw [hT6]
            unfold tkR
            refine ⟨fun e=>?_,fun e=>?_⟩ <;> (split at e <;> (try split at e) <;> simp at e)
          have t39:=fun k=>(hTn k).1
          have t40:=fun k=>(hTn k).2
          have hGj : grR n j = G:=hG.symm
          have lsK : ∀ m' : Mem,(∀ u es gi,u < e→¬ gi = [40,0]→σ.m [36,u] = some (.row gi 3 es)→m' [36,u] = some (.row gi 3 es))→LsF (tkR n) (grR n) m' 0 Lj:=fun m' H=>hls.old fun i hi es h=>by
            rw [htl] at hi
            obtain ⟨u,hu,hue⟩:=htki i hi
            simp only [Nat.zero_add,hu] at h ⊢
            exact H u es _ hue (by unfold grR; intro e; split at e <;> (try split at e) <;> simp at e) h
          rcases Nat.eq_zero_or_pos j with h0 | h0
          · rw [varOf,if_pos h0] at h4
            have hLj0 : Lj = []:=List.eq_nil_of_length_eq_zero (by omega)
            simp [MvA,h1,m2,k1,k2,k3,h4,h5,h6,m6,one_made,t39,t40,varOf,h0]
            refine ⟨by simp [hLj0,hdsF,hd,hne,hln,hT6,h0],?_⟩
            refine (lsK _ fun u es gi hue hgi h=>by simp [h,hgi]).snoc fun _=>?_
            rw [htl,Nat.zero_add,← hT6,hGj]
            simp [m6,t39,t40]
          · have n0 : ¬ j = 0:=by omega
            rw [varOf,if_neg n0] at h4
            have m40:=m40 h0
            have hmm : j + 1≤maxMade:=by unfold maxMade; omega
            have hfl:=hdsF_len (tkR n) Lj 0
            rw [htl] at hfl
            have hG40' : ¬ G = [40,0]:=fun h=>hG40 h.symm
            simp [MvA,h1,m2,k1,k2,k3,h4,h5,h6,m6,m40,hmm,hfl,one_made,t39,t40,varOf]
            refine ⟨by rw [hdsF_snoc]; simp [hd,hne,htl,hfl,hln,hT6,List.take_of_length_le],?_⟩
            refine (lsK _ fun u es gi hue hgi h=>by simp [h,hgi]).snoc fun _=>?_
            rw [htl,Nat.zero_add,← hT6,hGj]
            simp [m6,t39,t40,hG40']
      · rw [← htk]
        clear h1 m2 k1 k2 k3 h4 h5 m40 hls σ
        rintro σ ⟨⟨h1,m2⟩,k1,k2,k3,h4,h5,m40,hls⟩
        have hes : e + (n - 1) = (j + 1) * (n - 1):=by rw [he,Nat.succ_mul]
        rw [hes] at k2
        simp [MvA,h1,m2,k1,k2,k3,h4,h5,hw1]
        exact ⟨⟨j + 1,by omega,rfl,rfl,rfl,rfl,by simp,fun _=>by simpa using m40,hls⟩,by omega⟩
    · obtain rfl : j = n:=by omega
      rw [show Ls.take j = Ls by rw [← hLl]; exact List.take_length] at m40 hls
      have a1 : ¬ (j : Int) + 1≤j:=by omega
      refine wwp_off ?_
      simp [MvA,h1,m2,h65,h5,a1,h4]
      exact ⟨m40,hls⟩
  · clear h1 m2 k1 k2 k3 h4 σ
    rintro σ ⟨h4,m40,hls⟩
    rcases Nat.eq_zero_or_pos n with h0 | h0
    · obtain ⟨rfl,rfl⟩:=hd0 h0
      rw [varOf,if_pos h0] at h4
      simp [h4]
      exact Out.flatNil
    · obtain ⟨rfl,rfl⟩:=hd1 h0
      rw [varOf,if_neg (by omega)] at h4
      rw [← hLs]
      simp [h4]
      refine Out.table (g:=[40,0]) (tk:=tkR n) (gr:=grR n) (by simpa using m40 h0) (by simpa [LsF] using hls) (fun k e=>?_) (tkR_inj n) (fun k e=>?_) (grR_inj n)
      · unfold tkR at e; split at e <;> (try split at e) <;> simp at e
      · unfold grR at e; split at e <;> (try split at e) <;> simp at e
end Go.Proofs.Ytpmgaaalfdjikaa
namespace Go.Proofs.Ytpmgaaalfdjikaa
open Go.RowKit
set_option linter.unusedSimpArgs false
set_option linter.unusedVariables false
def W47 : WC × List VRes:=(.seq (.reg [.stm (.eff (.box 1 (.t 0)) none),.set [(2,.c (.v (.int .i64 0))),(3,.c (.v (.int .i64 0)))] [2,3]]) (.seq (.reg [.set [(10,.ap (.load 6 true) [.t 1])] [10],.stm (.eff (.callq 11 46 [.t 10]) none),.set [(4,.ap (.ext 0) [.t 11]),(5,.ap (.ext 1) [.t 11])] [9,12,13,4,5]]) (.seq (.reg [.set [(6,.c (.v (.int .i64 0)))] [6]]) (.seq (.seq (.reg [.set [(7,.c (.v (.int .i64 0)))] [7]]) (.block 0 (.loop (.seq (.seq (.reg [.set [(17,.ap (.ibin .lss) [.t 7,.ap .llen [.t 4]])] [14,15,16,17]]) (.cond (.t 17) .skip (.exit 0))) (.seq (.block 1 (.seq (.reg [.set [(8,.ap (.ibin .add) [.t 7,.c (.v (.int .i64 1))])] [20,21,8]]) (.block 2 (.loop (.seq (.seq (.reg [.set [(25,.ap (.ibin .lss) [.t 8,.ap .llen [.t 4]])] [22,23,24,25]]) (.cond (.t 25) .skip (.exit 2))) (.seq (.block 3 (.reg [.set [(6,.ap (.ibin .add) [.t 6,.ap (.ibin .mul) [.ap (.load 1 false) [.ap (.idx 3 1) [.ap (.load 1 false) [.ap (.idx 34 1) [.t 4,.t 7]],.t 8]],.ap (.load 1 false) [.ap (.idx 3 1) [.ap (.load 1 false) [.ap (.idx 34 1) [.t 4,.t 7]],.t 8]]]])] [28,29,30,31,32,33,34,35,36,37,38,39,40,41,42,43,44,6]])) (.reg [.set [(8,.ap (.ibin .add) [.t 8,.c (.v (.int .i64 1))])] [26,27,8]]))))))) (.reg [.set [(7,.ap (.ibin .add) [.t 7,.c (.v (.int .i64 1))])] [18,19,7]])))))) (.seq (.reg [.set [(2,.t 6),(3,.t 5)] [45,46,2,3]]) .ret)))),[.t 2,.t 3])
theorem is47 : IsFn Try.prog frOf 47 Try.f47 W47:=⟨by kernel_rfl,by kernel_rfl,by kernel_rfl⟩
theorem nt47 : Try.f47.ntmps = 47:=by kernel_rfl
def S60 : List D→Option D
  | [.agg xs,.list es]=>(asMv xs).bind fun m=>(asInts es).bind fun L=>if L.length≤1000000 then some (bv (listOK m.r (-1) L)) else none
  | _=>none
theorem s60 : OkP 60 S60:=fun ds d h=>by
  unfold S60 at h
  split at h
  · rw [Option.bind_eq_some_iff] at h
    obtain ⟨m,hm,h⟩:=h
    rw [Option.bind_eq_some_iff] at h
    obtain ⟨L,hL,h⟩:=h
    split at h <;> cases h
    rw [asMv_eq hm,asInts_eq hL]
    exact c60 m L (by assumption)
  · cases h
theorem S60_at (m : Mv) (L : List Int) (h : L.length≤1000000) : S60 [.agg m.cells,.list (ints L)] = some (bv (listOK m.r (-1) L)):=by
  simp only [S60,Mv.cells,Mv.cellsW,asMv_cells,asInts_ints,Option.bind_some]
  rw [if_pos h]
theorem c43 (m : Mv) (L : List Int) (hl : L.length≤1000000) (hm : m.rows.length≤1000000) : VCq Try.prog 43 [.agg m.cells,.list (ints L)] (turnRef m L).1 (turnRef m L).2:=
  wcontract_q (Γ:=mkEnv [(49,S49),(60,S60)] [] []) (sound_mk (by simp [s49,s60]) (by simp) (by simp)) mixed is43 (by rw [nt43]; simp) (c43w S49 S60 m L hl (S49_at m hm) (S60_at m L hl))
def S43 : List D→Option (D × Mem)
  | [.agg xs,.list es]=>(asMv xs).bind fun m=>(asInts es).bind fun L=>if L.length≤1000000∧m.rows.length≤1000000 then some (turnRef m L) else none
  | _=>none
theorem s43 : OkQ 43 S43:=fun ds d mm h=>by
  unfold S43 at h
  split at h
  · rw [Option.bind_eq_some_iff] at h
    obtain ⟨m,hm,h⟩:=h
    rw [Option.bind_eq_some_iff] at h
    obtain ⟨L,hL,h⟩:=h
    split at h
    · rename_i hc
      have:=c43 m L hc.1 hc.2
      rw [Option.some.inj h] at this
      rw [asMv_eq hm,asInts_eq hL]
      exact this
    · cases h
  · cases h
theorem S43_at (m : Mv) (L : List Int) (h : L.length≤1000000) (h2 : m.rows.length≤1000000) : S43 [.agg m.cells,.list (ints L)] = some (turnRef m L):=by
  simp only [S43,Mv.cells,Mv.cellsW,asMv_cells,asInts_ints,Option.bind_some]
  rw [if_pos ⟨h,h2⟩]
def S66 : List D→Option D
  | [.agg xs,.v (.int .i64 p),.v (.int .i64 q)]=>(asMv xs).bind fun m=>if m.rows.length≤60 then some (iv (outS m.rows p q m.rows.length)) else none
  | _=>none
theorem s66 : OkP 66 S66:=fun ds d h=>by
  unfold S66 at h
  split at h
  · rw [Option.bind_eq_some_iff] at h
    obtain ⟨m,hm,h⟩:=h
    split at h <;> cases h
    rw [asMv_eq hm]
    exact c66 m _ _ (by assumption)
  · cases h
theorem S66_at (m : Mv) (p q : Int) (h : m.rows.length≤60) : S66 [.agg m.cells,iv p,iv q] = some (iv (outS m.rows p q m.rows.length)):=by
  simp only [S66,Mv.cells,Mv.cellsW,asMv_cells,Option.bind_some]
  rw [if_pos h]
theorem sound46 : Sound Try.prog (mkEnv [(49,S49),(65,S65),(66,S66)] [] []):=sound_mk (by simp [s49,s65,s66]) (by simp) (by simp)
theorem c46bad (p49 p65 p66 : FP) (m : Mv) (h49 : p49 [.agg [iv m.t,iv m.r,iv m.s,iv m.c,iv m.w,.list (rowsL m.rows)]] = some (bv false)) :
    wwp (mkEnv [(49,p49),(65,p65),(66,p66)] [] []) W46.1 (fun e s=>okExit e∧∃ d0,resV W46.2 s = some d0∧Out s d0 (.tup [.nil,iv 290]) noMem) (initV [.agg m.cells]):=by
  simp [W46,Mv.cells,Mv.cellsW,h49]
  exact Out.flatNil
theorem c46 (m : Mv) (hl : m.rows.length≤60) : VCq Try.prog 46 [.agg m.cells] (tableR m).1 (tableR m).2:=by
  have h49:=S49_at m (by omega)
  cases hf : fitB m with
  | false=>
    have e : tableR m = (.tup [.nil,iv 290],noMem):=by unfold tableR; rw [hf]; rfl
    rw [e]
    rw [hf] at h49
    exact wcontract_q sound46 mixed is46 (by rw [nt46]; simp) (c46bad S49 S65 S66 m h49)
  | true=>
    have hg:=great_bounds (fit_pairs hf)
    obtain ⟨n,hn⟩ : ∃ n : Nat,great m.rows = n:=⟨(great m.rows).toNat,by omega⟩
    rw [hf] at h49
    have h65:=S65_at m (by omega)
    rw [hn] at h65
    refine wcontract_q sound46 mixed is46 (by rw [nt46]; simp) (c46w S49 S65 S66 m n (by omega) (fun p q=>conT m ((p + 1) * 50 + (q + 1))) h49 h65 (fun p q hp hq hpq=>?_) (fun p hp=>?_) _ _ (fun h0=>?_) fun h0=>?_)
    · have:=S66_at m ((p + 1 : Nat) : Int) ((q + 1 : Nat) : Int) hl
      rw [out_cont hf (by omega) (by omega) (by omega),← conT_eq hl] at this
      exact this
    · rw [conT_eq hl,cont_diag _ (by omega) (by omega)]
    · unfold tableR
      rw [hf,hn,if_pos rfl]
      simp [h0]
    · unfold tableR
      rw [hf,hn,if_pos rfl]
      have : ¬ n = 0:=by omega
      simp [this]
      rfl
def S46 : List D→Option (D × Mem)
  | [.agg xs]=>(asMv xs).bind fun m=>if m.rows.length≤60 then some (tableR m) else none
  | _=>none
theorem s46 : OkQ 46 S46:=fun ds d mm h=>by
  unfold S46 at h
  split at h
  · rw [Option.bind_eq_some_iff] at h
    obtain ⟨m,hm,h⟩:=h
    split at h
    · rename_i hc
      have:=c46 m hc
      rw [Option.some.inj h] at this
      rw [asMv_eq hm]
      exact this
    · cases h
  · cases h
theorem S46_at (m : Mv) (h : m.rows.length≤60) : S46 [.agg m.cells] = some (tableR m):=by
  simp only [S46,Mv.cells,Mv.cellsW,asMv_cells,Option.bind_some]
  rw [if_pos h]
theorem sumTo_split (g : Nat→Int) (a : Nat) : ∀ b,sumTo g (a + b) = sumTo g a + sumTo (fun i=>g (a + i)) b
  | 0=>by simp
  | b + 1=>by
    rw [← Nat.add_assoc,sumTo_succ,sumTo_split g a b,sumTo_succ]
    omega
theorem sumTo_add (f g : Nat→Int) : ∀ k,sumTo (fun i=>f i + g i) k = sumTo f k + sumTo g k
  | 0=>rfl
  | k + 1=>by simp only [sumTo_succ,sumTo_add f g k]; omega
def triR (f : Nat→Nat→Int) (n p : Nat) : Int:=sumTo (fun i=>f p (p + 1 + i)) (n - (p + 1))
def tri (f : Nat→Nat→Int) (n : Nat) : Int:=sumTo (triR f n) n
theorem tri_succ (f : Nat→Nat→Int) (n : Nat) : tri f (n + 1) = tri f n + sumTo (fun p=>f p n) n:=by
  unfold tri
  rw [sumTo_succ]
  have e1 : triR f (n + 1) n = 0:=by unfold triR; rw [Nat.sub_self]; rfl
  rw [e1,Int.add_zero,← sumTo_add]
  refine sumTo_congr fun p hp=>?_
  unfold triR
  rw [show n + 1 - (p + 1) = n - (p + 1) + 1 by omega,sumTo_succ,show p + 1 + (n - (p + 1)) = n by omega]
theorem tri_low {f : Nat→Nat→Int} (hs : ∀ p q,f p q = f q p) : ∀ n,tri f n = sumTo (fun p=>sumTo (f p) p) n
  | 0=>rfl
  | n + 1=>by
    rw [tri_succ,tri_low hs n,sumTo_succ]
    congr 1
    exact sumTo_congr fun p _=>hs p n
theorem tri_law {f : Nat→Nat→Int} (hs : ∀ p q,f p q = f q p) (hd : ∀ p,f p p = 0) (n : Nat) : 2 * tri f n = sumTo (fun p=>sumTo (f p) n) n:=by
  have e : sumTo (fun p=>sumTo (f p) n) n = sumTo (fun p=>sumTo (f p) p + triR f n p) n:=sumTo_congr fun p hp=>by
    rw [show n = p + (1 + (n - (p + 1))) by omega,sumTo_split,sumTo_split]
    have e1 : sumTo (fun i=>f p (p + i)) 1 = 0:=by simp [sumTo,hd]
    rw [e1,← show n = p + (1 + (n - (p + 1))) by omega]
    unfold triR
    simp only [Nat.add_assoc,Int.zero_add]
  rw [e,sumTo_add,← tri_low hs]
  show 2 * tri f n = tri f n + tri f n
  omega
end Go.Proofs.Ytpmgaaalfdjikaa
namespace Go.Proofs.Ytpmgaaalfdjikaa
open Go.RowKit
set_option linter.unusedSimpArgs false
set_option linter.unusedVariables false
theorem c47w (q46 : FQ) (m : Mv) (n : Nat) (hn : n≤49) (err : Int) (C : Nat→Nat→Int) (Ls : List (List Int)) (hLs : Ls = (List.range n).map fun p=>(List.range n).map (C p))
    (hbd : ∀ p q,p < n→q < n→-1000000≤C p q∧C p q≤1000000)
    (h46a : n = 0→q46 [.agg [iv m.t,iv m.r,iv m.s,iv m.c,iv m.w,.list (rowsL m.rows)]] = some (.tup [.nil,iv err],noMem))
    (h46b : 0 < n→q46 [.agg [iv m.t,iv m.r,iv m.s,iv m.c,iv m.w,.list (rowsL m.rows)]] = some (.tup [.sl [] 1 0 n none,iv err],tableMem Ls)) :
    wwp (mkEnv [] [(46,q46)] []) W47.1 (fun e s=>okExit e∧resV W47.2 s = some (.tup [iv (tri (fun p q=>C p q * C p q) n),iv err])) (initV [.agg m.cells]):=by
  have hLl : Ls.length = n:=by rw [hLs]; simp
  simp only [W47]
  refine wwp_cut (fun σ=>MvA m σ∧σ.c 11 = 0) (by simp [MvA,Mv.cells,Mv.cellsW]) ?_
  rintro σ ⟨⟨h1,m2⟩,k1⟩
  refine wwp_cut (fun σ=>σ.s 4 = tbD 12 n∧TbM σ.m 12 n Ls∧σ.s 5 = iv err) ?_ ?_
  · rcases Nat.eq_zero_or_pos n with h0 | h0
    · simp [MvA,h1,m2,k1,h46a h0,tbD,h0]
      exact fun h=>by omega
    · have n0 : ¬ n = 0:=by omega
      simp [MvA,h1,m2,k1,h46b h0,tbD,n0]
      exact TbM.adopt (by simp [k1])
  clear h1 m2 k1 σ
  rintro σ ⟨h4,tb,h5⟩
  obtain ⟨M,hM⟩ : ∃ M,M = σ.m:=⟨_,rfl⟩
  rw [← hM] at tb
  refine wwp_cut (fun σ=>σ.m = M∧σ.s 4 = tbD 12 n∧σ.s 5 = iv err∧σ.s 6 = iv 0) (by simp [h4,h5,hM]) ?_
  clear h4 h5 hM σ
  rintro σ ⟨hM,h4,h5,h6⟩
  obtain ⟨f,hf⟩ : ∃ f : Nat→Nat→Int,f = fun p q=>C p q * C p q:=⟨_,rfl⟩
  have fbd : ∀ p q,p < n→q < n→0≤f p q∧f p q≤1000000000000:=fun p q hp hq=>by
    have:=sq_bound (hbd p q hp hq)
    rw [hf]; simp only; omega
  have ibd : ∀ p,p < n→∀ k,p + 1 + k≤n→0≤sumTo (fun i=>f p (p + 1 + i)) k∧sumTo (fun i=>f p (p + 1 + i)) k≤1000000000000 * k:=by
    intro p hp k
    induction k with
    | zero=>intro _; simp
    | succ k ih=>
      intro hk
      have h1:=ih (by omega)
      have h2:=fbd p (p + 1 + k) hp (by omega)
      rw [sumTo_succ]
      push_cast
      omega
  have obd : ∀ p,p≤n→0≤sumTo (triR f n) p∧sumTo (triR f n) p≤49000000000000 * p:=by
    intro p
    induction p with
    | zero=>intro _; simp
    | succ p ih=>
      intro hp
      have h1:=ih (by omega)
      have h2:=ibd p (by omega) (n - (p + 1)) (by omega)
      rw [sumTo_succ]
      unfold triR at h1 ⊢
      push_cast
      omega
  refine wwp_cutG (fun σ=>σ.s 5 = iv err∧σ.s 6 = iv (tri f n)) ?_ ?_
  · refine wwp_cut (fun σ=>σ.m = M∧σ.s 4 = tbD 12 n∧σ.s 5 = iv err∧σ.s 6 = iv 0∧σ.s 7 = iv 0) (by simp [hM,h4,h5,h6]) ?_
    clear hM h4 h5 h6 σ
    rintro σ ⟨hM,h4,h5,h6,h7⟩
    simp only [wwp_block]
    refine wwp_loop (fun σ=>∃ p : Nat,p≤n∧σ.m = M∧σ.s 4 = tbD 12 n∧σ.s 5 = iv err∧σ.s 6 = iv (sumTo (triR f n) p)∧σ.s 7 = iv p) (fun σ=>cnt n (σ.s 7)) ?_ ?_
    · exact ⟨0,by omega,hM,h4,h5,h6,h7⟩
    clear hM h4 h5 h6 h7 σ
    rintro σ W ⟨p,hp,hM,h4,h5,h6,h7⟩
    refine wwp_seq_assoc ?_
    by_cases hlt : p < n
    · have hmu : cnt n (σ.s 7) = n - p:=by simp [h7]
      simp only [hmu]
      clear hmu
      have n0 : ¬ n = 0:=by omega
      have etb : tbD 12 n = .sl [12,0] 1 0 n none:=if_neg n0
      obtain ⟨⟨g,m41⟩,hls⟩:=tb (by omega)
      have row : ∀ p,p < n→Ls[p]? = some ((List.range n).map (C p)):=fun p hp=>by rw [hLs]; simp [hp]
      have hdat : (hdsF (fun j=>[12,0,j + 1]) 0 Ls)[p]? = some [.sl [12,0,p + 1] 1 0 n none]:=by
        have e1:=hdsF_at (fun j=>[12,0,j + 1]) Ls 0 p (by omega)
        have e2 : Ls[p]'(by omega) = (List.range n).map (C p):=(List.getElem?_eq_some_iff.1 (row p hlt)).2
        rw [e1,e2]
        simp [hd,n0]
      have mrow : M [12,0,p + 1] = some (.row [12,0,0,p] 3 (ints ((List.range n).map (C p)))):=by
        have:=hls p _ (row p hlt) (by simp; omega)
        simpa using this
      have cell : ∀ q,q < n→(ints ((List.range n).map (C p)))[q]? = some [iv (C p q)]:=fun q hq=>by
        rw [ints_at (by simpa using hq)]; simp
      have hw1 : IntKind.i64.wrap ((p : Int) + 1) = (p : Int) + 1:=wrap_succ (show p≤1000000000 by omega)
      have hob:=obd p (by omega)
      have hos : sumTo (triR f n) (p + 1) = sumTo (triR f n) p + triR f n p:=sumTo_succ _ _
      obtain ⟨A,hA⟩ : ∃ A,A = sumTo (triR f n) p:=⟨_,rfl⟩
      rw [← hA] at hos hob h6
      refine wwp_on (fun σ=>σ.m = M∧σ.s 4 = tbD 12 n∧σ.s 5 = iv err∧σ.s 6 = iv A∧σ.s 7 = iv p) (by simp [hM,h4,h5,h6,h7,hlt]) ?_
      clear W hM h4 h5 h6 h7 σ
      rintro σ ⟨hM,h4,h5,h6,h7⟩
      refine wwp_body (fun σ=>σ.m = M∧σ.s 4 = tbD 12 n∧σ.s 5 = iv err∧σ.s 6 = iv (sumTo (triR f n) (p + 1))∧σ.s 7 = iv p) ?_ ?_
      · refine wwp_cut (fun σ=>σ.m = M∧σ.s 4 = tbD 12 n∧σ.s 5 = iv err∧σ.s 6 = iv A∧σ.s 7 = iv p∧σ.s 8 = iv (p + 1)) (by simp [hM,h4,h5,h6,h7,hw1]) ?_
        clear hM h4 h5 h6 h7 σ
        rintro σ ⟨hM,h4,h5,h6,h7,h8⟩
        simp only [wwp_block]
        refine wwp_loop (fun σ=>∃ k : Nat,p + 1 + k≤n∧σ.m = M∧σ.s 4 = tbD 12 n∧σ.s 5 = iv err∧σ.s 6 = iv (A + sumTo (fun i=>f p (p + 1 + i)) k)∧σ.s 7 = iv p∧σ.s 8 = iv ((p + 1 + k : Nat) : Int)) (fun σ=>cnt n (σ.s 8)) ?_ ?_
        · exact ⟨0,by omega,hM,h4,h5,by simpa using h6,h7,by simpa using h8⟩
        clear hM h4 h5 h6 h7 h8 σ
        rintro σ W ⟨k,hk,hM,h4,h5,h6,h7,h8⟩
        obtain ⟨q,hq⟩ : ∃ q,q = p + 1 + k:=⟨_,rfl⟩
        rw [← hq] at hk h8
        refine wwp_seq_assoc ?_
        by_cases hqt : q < n
        · have hmu : cnt n (σ.s 8) = n - q:=by simp [h8]
          simp only [hmu]
          clear hmu
          have hw2 : IntKind.i64.wrap ((q : Int) + 1) = (q : Int) + 1:=wrap_succ (show q≤1000000000 by omega)
          have cq:=cell q hqt
          have hib:=ibd p hlt k (by omega)
          have his : sumTo (fun i=>f p (p + 1 + i)) (k + 1) = sumTo (fun i=>f p (p + 1 + i)) k + f p q:=by rw [sumTo_succ,hq]
          have hfb:=fbd p q hlt hqt
          obtain ⟨S,hS⟩ : ∃ S,S = sumTo (fun i=>f p (p + 1 + i)) k:=⟨_,rfl⟩
          rw [← hS] at his hib h6
          have efq : C p q * C p q = f p q:=by rw [hf]
          have w1 : IntKind.i64.wrap (C p q * C p q) = f p q:=by rw [efq]; exact wrap_in (by omega) (by omega)
          have w2 : IntKind.i64.wrap (A + S + f p q) = A + (S + f p q):=by rw [wrap_in (by omega) (by omega)]; omega
          refine wwp_on (fun σ=>σ.m = M∧σ.s 4 = tbD 12 n∧σ.s 5 = iv err∧σ.s 6 = iv (A + S)∧σ.s 7 = iv p∧σ.s 8 = iv q) (by simp [hM,h4,h5,h6,h7,h8,hqt]) ?_
          clear W hM h4 h5 h6 h7 h8 σ
          rintro σ ⟨hM,h4,h5,h6,h7,h8⟩
          refine wwp_body (fun σ=>σ.m = M∧σ.s 4 = tbD 12 n∧σ.s 5 = iv err∧σ.s 6 = iv (A + (S + f p q))∧σ.s 7 = iv p∧σ.s 8 = iv q) ?_ ?_
          · rw [etb] at h4 ⊢
            simp [hM,h4,h5,h6,h7,h8,m41,hdat,mrow,cq,hlt,hqt,w1,w2]
          · clear hM h4 h5 h6 h7 h8 σ
            rintro σ ⟨hM,h4,h5,h6,h7,h8⟩
            rw [← his] at h6
            simp [hM,h4,h5,h6,h7,h8,hw2]
            exact ⟨⟨k + 1,by omega,rfl,by omega⟩,by omega⟩
        · have hkn : k = n - (p + 1):=by omega
          have hqn : q = n:=by omega
          rw [hqn] at h8
          refine wwp_off ?_
          have e : A + sumTo (fun i=>f p (p + 1 + i)) k = sumTo (triR f n) (p + 1):=by rw [hos,hkn]; rfl
          rw [e] at h6
          simp [hM,h4,h5,h6,h7,h8]
      · clear hM h4 h5 h6 h7 σ
        rintro σ ⟨hM,h4,h5,h6,h7⟩
        simp [hM,h4,h5,h6,h7,hw1]
        exact ⟨⟨p + 1,by omega,rfl,rfl⟩,by omega⟩
    · obtain rfl : p = n:=by omega
      refine wwp_off ?_
      simp [hM,h4,h5,h6,h7]
      rfl
  · clear hM h4 h5 h6 σ
    rintro σ ⟨h5,h6⟩
    simp [h5,h6,hf]
theorem c47 (m : Mv) (hl : m.rows.length≤60) : VCp Try.prog 47 [.agg m.cells] (.tup [iv (unbR m).1,iv (unbR m).2]):=by
  have h46:=S46_at m hl
  have snd : Sound Try.prog (mkEnv [] [(46,S46)] []):=sound_mk (by simp) (by simp [s46]) (by simp)
  cases hf : fitB m with
  | false=>
    have e : unbR m = (0,290):=by unfold unbR; rw [hf]; rfl
    have e2 : tableR m = (.tup [.nil,iv 290],noMem):=by unfold tableR; rw [hf]; rfl
    rw [e2] at h46
    rw [e]
    exact wcontract_p snd mixed is47 (by rw [nt47]; simp) (c47w S46 m 0 (by omega) 290 (fun _ _=>0) [] rfl (by intro p q h; omega) (fun _=>h46) (by omega)) rfl
  | true=>
    have hg:=great_bounds (fit_pairs hf)
    obtain ⟨n,hn⟩ : ∃ n : Nat,great m.rows = n:=⟨(great m.rows).toNat,by omega⟩
    obtain ⟨C,hC⟩ : ∃ C : Nat→Nat→Int,C = fun p q=>cont m.rows ((p + 1) * 50 + (q + 1)):=⟨_,rfl⟩
    have hT : tabL m n = (List.range n).map fun p=>(List.range n).map (C p):=by
      rw [hC]; unfold tabL; simp only [conT_eq hl]
    have hu : unbV m = tri (fun p q=>C p q * C p q) n:=by
      have e1:=unb_law hf hn
      rw [← unbV_eq hl] at e1
      -- made symmetric and empty on the diagonal outside too
      obtain ⟨f,hfd⟩ : ∃ f : Nat→Nat→Int,f = fun p q=>if p < n∧q < n then C p q * C p q else 0:=⟨_,rfl⟩
      have fs : ∀ p q,f p q = f q p:=fun p q=>by
        rw [hfd]
        simp only
        by_cases h : p < n∧q < n
        · rw [if_pos h,if_pos h.symm,hC]; simp only; rw [cont_symm hf (p:=p + 1) (q:=q + 1) (by omega) (by omega)]
        · rw [if_neg h,if_neg fun h'=>h h'.symm]
      have fd : ∀ p,f p p = 0:=fun p=>by
        rw [hfd]
        simp only
        split
        · rw [hC]; simp only; rw [cont_diag _ (by omega) (by omega)]; rfl
        · rfl
      have e2:=tri_law fs fd n
      have e3 : tri f n = tri (fun p q=>C p q * C p q) n:=by
        unfold tri triR
        refine sumTo_congr fun p hp=>sumTo_congr fun i hi=>?_
        rw [hfd]; simp only; rw [if_pos (by omega)]
      have e4 : sumTo (fun p=>sumTo (f p) n) n = ((List.range n).map fun p=>((List.range n).map fun q=>cont m.rows ((p + 1) * 50 + (q + 1)) * cont m.rows ((p + 1) * 50 + (q + 1))).sum).sum:=by
        have : sumTo (fun p=>sumTo (f p) n) n = sumTo (fun p=>sumTo (fun q=>C p q * C p q) n) n:=sumTo_congr fun p hp=>sumTo_congr fun q hq=>by rw [hfd]; simp only; rw [if_pos ⟨hp,hq⟩]
        rw [this,hC]
        rfl
      rw [e3,e4,← e1] at e2
      omega
    have e : unbR m = (tri (fun p q=>C p q * C p q) n,0):=by unfold unbR; rw [if_pos hf,hu]
    have e2 : tableR m = if n = 0 then (.tup [.nil,iv 0],noMem) else (.tup [.sl [] 1 0 n none,iv 0],tableMem (tabL m n)):=by
      unfold tableR
      rw [hf,hn,if_pos rfl]
      simp
    rw [e2] at h46
    rw [e]
    refine wcontract_p snd mixed is47 (by rw [nt47]; simp) (c47w S46 m n (by omega) 0 C _ rfl (fun p q hp hq=>by rw [hC]; exact cont_bound hl _) (fun h=>?_) fun h=>?_) rfl
    · rw [if_pos h] at h46; exact h46
    · rw [if_neg (by omega),hT] at h46; exact h46
def S47 : List D→Option D
  | [.agg xs]=>(asMv xs).bind fun m=>if m.rows.length≤60 then some (.tup [iv (unbR m).1,iv (unbR m).2]) else none
  | _=>none
theorem s47 : OkP 47 S47:=fun ds d h=>by
  unfold S47 at h
  split at h
  · rw [Option.bind_eq_some_iff] at h
    obtain ⟨m,hm,h⟩:=h
    split at h <;> cases h
    rw [asMv_eq hm]
    exact c47 m (by assumption)
  · cases h
theorem S47_at (m : Mv) (h : m.rows.length≤60) : S47 [.agg m.cells] = some (.tup [iv (unbR m).1,iv (unbR m).2]):=by
  simp only [S47,Mv.cells,Mv.cellsW,asMv_cells,Option.bind_some]
  rw [if_pos h]
end Go.Proofs.Ytpmgaaalfdjikaa
namespace Go.Proofs.Ytpmgaaalfdjikaa
open Go.RowKit
set_option linter.unusedSimpArgs false
set_option linter.unusedVariables false
def W35 : WC × List VRes:=(.seq (.reg [.stm (.eff (.box 2 (.t 0)) none),.set [(4,.c (.v (.int .i64 0))),(5,.c (.v (.int .i64 0)))] [4,5]]) (.seq (.seq (.reg [.set [(16,.ap .inot [.ap (.call 49) [.ap (.load 6 true) [.t 2]]])] [14,15,16]]) (.cond (.t 16) (.seq (.reg [.set [(4,.c (.v (.int .i64 0))),(5,.c (.v (.int .i64 290)))] [4,5]]) .ret) .skip)) (.seq (.seq (.reg [.set [(19,.ap (.ibin .gtr) [.ap .llen [.t 1],.c (.v (.int .i64 64))])] [17,18,19]]) (.cond (.t 19) (.seq (.reg [.set [(4,.c (.v (.int .i64 0))),(5,.c (.v (.int .i64 5)))] [4,5]]) .ret) .skip)) (.seq (.seq (.reg [.set [(22,.ap (.ibin .eql) [.ap .llen [.t 1],.c (.v (.int .i64 0))])] [20,21,22]]) (.cond (.t 22) (.seq (.reg [.set [(4,.c (.v (.int .i64 0))),(5,.c (.v (.int .i64 6)))] [4,5]]) .ret) .skip)) (.seq (.seq (.reg [.set [(6,.c (.v (.int .i64 0)))] [6]]) (.block 0 (.loop (.seq (.seq (.reg [.set [(26,.ap (.ibin .lss) [.t 6,.ap .llen [.t 1]])] [23,24,25,26]]) (.cond (.t 26) .skip (.exit 0))) (.seq (.block 1 (.seq (.reg [.set [(35,.ap .inot [.ap (.call 60) [.ap (.load 6 true) [.t 2],.ap (.load 1 false) [.ap (.idx 34 1) [.t 1,.t 6]]]])] [29,30,31,32,33,34,35]]) (.cond (.t 35) (.seq (.reg [.set [(4,.c (.v (.int .i64 0))),(5,.c (.v (.int .i64 291)))] [4,5]]) .ret) .skip))) (.reg [.set [(6,.ap (.ibin .add) [.t 6,.c (.v (.int .i64 1))])] [27,28,6]])))))) (.seq (.reg [.set [(7,.c (.v (.int .i64 (-1)))),(8,.c (.v (.int .i64 0)))] [7,8]]) (.seq (.seq (.reg [.set [(9,.c (.v (.int .i64 0)))] [9]]) (.block 2 (.loop (.seq (.seq (.reg [.set [(39,.ap (.ibin .lss) [.t 9,.ap .llen [.t 1]])] [36,37,38,39]]) (.cond (.t 39) .skip (.exit 2))) (.seq (.block 3 (.seq (.drw [[.op 43 (.load 6 true) [.t 2] none,.op 44 .mv [.t 1] none,.op 45 .mv [.t 9] none,.op 46 (.idx 34 1) [.t 44,.t 45] none,.op 47 (.load 1 false) [.t 46] none,.eff (.callq 48 43 [.t 43,.t 47]) none,.op 42 .mv [.t 48] none,.op 49 (.ext 0) [.t 42] none,.op 50 (.ext 1) [.t 42] none,.eff (.box 10 (.c (.agg [.v (.int .i64 0),.v (.int .i64 0),.v (.int .i64 0),.v (.int .i64 0),.v (.int .i64 0),.nil]))) none,.eff (.store 6 (.t 10) (.t 49)) none,.op 11 .mv [.t 50] none],[.op 43 (.load 6 true) [.t 2] none,.op 44 .mv [.t 1] none,.op 45 .mv [.t 9] none,.op 46 (.idx 34 1) [.t 44,.t 45] none,.op 47 (.load 1 false) [.t 46] none,.eff (.box 10 (.c (.agg [.v (.int .i64 0),.v (.int .i64 0),.v (.int .i64 0),.v (.int .i64 0),.v (.int .i64 0),.nil]))) none,.eff (.callq 48 43 [.t 43,.t 47]) none,.op 42 .mv [.t 48] none,.op 49 (.ext 0) [.t 42] none,.op 50 (.ext 1) [.t 42] none,.eff (.store 6 (.t 10) (.t 49)) none,.op 11 .mv [.t 50] none]]) (.seq (.reg [.set [(12,.ap (.ext 0) [.ap (.call 47) [.ap (.load 6 true) [.t 10]]]),(13,.ap (.ext 1) [.ap (.call 47) [.ap (.load 6 true) [.t 10]]])] [52,53,51,54,55,12,13]]) (.seq (.reg [.set [(62,.ite (.ap (.ibin .lss) [.t 7,.c (.v (.int .i64 0))]) (.c (.v (.bool true))) (.ap (.ibin .lss) [.t 12,.t 8]))] [56,57,58,59,60,61,62]]) (.cond (.t 62) (.reg [.set [(7,.t 9),(8,.t 12)] [63,64,7,8]]) .skip))))) (.reg [.set [(9,.ap (.ibin .add) [.t 9,.c (.v (.int .i64 1))])] [40,41,9]])))))) (.seq (.reg [.set [(4,.t 7),(5,.c (.v (.int .i64 0)))] [65,4,5]]) .ret))))))),[.t 4,.t 5])
theorem is35 : IsFn Try.prog frOf 35 Try.f35 W35:=⟨by kernel_rfl,by kernel_rfl,by kernel_rfl⟩
theorem nt35 : Try.f35.ntmps = 66:=by kernel_rfl
def BvA (m : Mv) (Ls : List (List Int)) (σ : St) : Prop:=σ.s 1 = .list (lists Ls)∧σ.s 2 = .ptr [3,0] 0∧σ.m [3,0] = some (.box [iv m.t,iv m.r,iv m.s,iv m.c,iv m.w,.list (rowsL m.rows)])
def firstI (k : Nat) (a : Int) : Int:=if k = 0 then -1 else a
theorem c35w (p47 p49 p60 : FP) (q43 : FQ) (m : Mv) (Ls : List (List Int)) (h64 : Ls.length≤64) (h0 : 0 < Ls.length) (V w : Nat→Int) (R : Nat→List Row) (G : Nat→Int × Int)
    (hG0 : (G 0).2 = 0) (hG : ∀ k,k < Ls.length→G (k + 1) = if k = 0 ∨ V k < (G k).2 then ((k : Int),V k) else G k) (hGn : ∀ k,0 < k→0≤(G k).1)
    (h49 : p49 [.agg [iv m.t,iv m.r,iv m.s,iv m.c,iv m.w,.list (rowsL m.rows)]] = some (bv true))
    (h60 : ∀ k (h : k < Ls.length),p60 [.agg [iv m.t,iv m.r,iv m.s,iv m.c,iv m.w,.list (rowsL m.rows)],.list (ints Ls[k])] = some (bv true))
    (h43a : ∀ k (h : k < Ls.length),R k = []→q43 [.agg [iv m.t,iv m.r,iv m.s,iv m.c,iv m.w,.list (rowsL m.rows)],.list (ints Ls[k])] = some (.tup [.agg [iv m.t,iv m.r,iv m.s,iv m.c,iv (w k),.nil],iv 0],noMem))
    (h43b : ∀ k (h : k < Ls.length),R k ≠ []→q43 [.agg [iv m.t,iv m.r,iv m.s,iv m.c,iv m.w,.list (rowsL m.rows)],.list (ints Ls[k])] = some (.tup [.agg [iv m.t,iv m.r,iv m.s,iv m.c,iv (w k),.sl [] 5 0 (R k).length none],iv 0],rowMem 53 (rowsL (R k))))
    (h47 : ∀ k,k < Ls.length→p47 [.agg [iv m.t,iv m.r,iv m.s,iv m.c,iv (w k),.list (rowsL (R k))]] = some (.tup [iv (V k),iv 0])) :
    wwp (mkEnv [(47,p47),(49,p49),(60,p60)] [(43,q43)] []) W35.1 (fun e s=>okExit e∧resV W35.2 s = some (.tup [iv (G Ls.length).1,iv 0])) (initV [.agg m.cells,.list (lists Ls)]):=by
  simp only [W35]
  have hz64 : ¬ (64 : Int) < (Ls.length : Int):=by omega
  have hz64' : ¬ 64 < Ls.length:=by omega
  have hzi : (Ls.length : Int)≤64:=by omega
  have hz0 : ¬ (Ls.length : Int) = 0:=by omega
  have hz0b : ((Ls.length : Int) == 0) = false:=beq_false_of_ne hz0
  have hLne : ¬ Ls = []:=fun h=>by rw [h] at h0; simp at h0
  refine wwp_cutW (wf_init _) (BvA m Ls) (by simp [BvA,Mv.cells,Mv.cellsW]) ?_
  rintro σ W ⟨h1,h2,m3⟩
  refine wwp_condW W (BvA m Ls) (by simp [BvA,h1,h2,m3,h49]) ?_
  clear W h1 h2 m3 σ
  rintro σ W ⟨h1,h2,m3⟩
  refine wwp_condW W (BvA m Ls) (by simp [BvA,h1,h2,m3,hzi]) ?_
  clear W h1 h2 m3 σ
  rintro σ W ⟨h1,h2,m3⟩
  refine wwp_condW W (BvA m Ls) (by simp [BvA,h1,h2,m3,hz0,hz0b,hLne]) ?_
  clear W h1 h2 m3 σ
  rintro σ W ⟨h1,h2,m3⟩
  refine wwp_cutG (BvA m Ls) ?_ ?_
  · refine wwp_cut (fun σ=>BvA m Ls σ∧σ.s 6 = iv 0) (by simp [BvA,h1,h2,m3]) ?_
    clear W h1 h2 m3 σ
    rintro σ ⟨hB,h6⟩
    simp only [wwp_block]
    refine wwp_loop (fun σ=>∃ k : Nat,k≤Ls.length∧BvA m Ls σ∧σ.s 6 = iv k) (fun σ=>cnt Ls.length (σ.s 6)) ?_ ?_
    · exact ⟨0,by omega,hB,h6⟩
    clear hB h6 σ
    rintro σ W ⟨k,hk,⟨h1,h2,m3⟩,h6⟩
    refine wwp_seq_assoc ?_
    by_cases hlt : k < Ls.length
    · have hw1:=wrap_succ (show k≤1000000000 by omega)
      have hmu : cnt Ls.length (σ.s 6) = Ls.length - k:=by simp [h6]
      simp only [hmu]
      clear hmu
      have hcl:=lists_at hlt
      have e60:=h60 k hlt
      obtain ⟨L,hL⟩ : ∃ L,L = Ls[k]:=⟨_,rfl⟩
      rw [← hL] at hcl e60
      refine wwp_on (fun σ=>BvA m Ls σ∧σ.s 6 = iv k) (by simp [BvA,h1,h2,m3,h6,hlt]) ?_
      clear W h1 h2 m3 h6 σ
      rintro σ ⟨⟨h1,h2,m3⟩,h6⟩
      refine wwp_body (fun σ=>BvA m Ls σ∧σ.s 6 = iv k) (by simp [BvA,h1,h2,m3,h6,hlt,hcl,← hL,e60]) ?_
      clear h1 h2 m3 h6 σ
      rintro σ ⟨⟨h1,h2,m3⟩,h6⟩
      simp [BvA,h1,h2,m3,h6,hw1]
      exact ⟨⟨k + 1,by omega,rfl⟩,by omega⟩
    · refine wwp_off ?_
      simp [BvA,h1,h2,m3,h6,hlt]
  clear W h1 h2 m3 σ
  rintro σ ⟨h1,h2,m3⟩
  refine wwp_cut (fun σ=>BvA m Ls σ∧σ.s 7 = iv (-1)∧σ.s 8 = iv 0) (by simp [BvA,h1,h2,m3]) ?_
  clear h1 h2 m3 σ
  rintro σ ⟨⟨h1,h2,m3⟩,h7,h8⟩
  refine wwp_cutG (fun σ=>σ.s 7 = iv (G Ls.length).1) ?_ (fun σ h7=>by simp [h7])
  refine wwp_cut (fun σ=>BvA m Ls σ∧σ.s 7 = iv (-1)∧σ.s 8 = iv 0∧σ.s 9 = iv 0) (by simp [BvA,h1,h2,m3,h7,h8]) ?_
  clear h1 h2 m3 h7 h8 σ
  rintro σ ⟨hB,h7,h8,h9⟩
  simp only [wwp_block]
  refine wwp_loop (fun σ=>∃ k : Nat,k≤Ls.length∧BvA m Ls σ∧σ.s 7 = iv (firstI k (G k).1)∧σ.s 8 = iv (G k).2∧σ.s 9 = iv k) (fun σ=>cnt Ls.length (σ.s 9)) ?_ ?_
  · exact ⟨0,by omega,hB,h7,by rw [hG0]; exact h8,h9⟩
  clear hB h7 h8 h9 σ
  rintro σ hw ⟨k,hk,⟨h1,h2,m3⟩,h7,h8,h9⟩
  refine wwp_seq_assoc ?_
  by_cases hlt : k < Ls.length
  · have hw1:=wrap_succ (show k≤1000000000 by omega)
    have hmu : cnt Ls.length (σ.s 9) = Ls.length - k:=by simp [h9]
    simp only [hmu]
    clear hmu
    have hcl:=lists_at hlt
    have e43a:=h43a k hlt
    have e43b:=h43b k hlt
    have e47:=h47 k hlt
    have eG:=hG k hlt
    obtain ⟨L,hL⟩ : ∃ L,L = Ls[k]:=⟨_,rfl⟩
    rw [← hL] at hcl e43a e43b
    obtain ⟨RK,hRK⟩ : ∃ RK,RK = R k:=⟨_,rfl⟩
    obtain ⟨wk,hwk⟩ : ∃ wk,wk = w k:=⟨_,rfl⟩
    obtain ⟨vk,hvk⟩ : ∃ vk,vk = V k:=⟨_,rfl⟩
    rw [← hRK,← hwk] at e43a e43b e47
    rw [← hvk] at e47 eG
    have htkR : (rowsL RK).take RK.length = rowsL RK:=rowsL_take RK
    refine wwp_on (fun σ=>WF σ∧BvA m Ls σ∧σ.s 7 = iv (firstI k (G k).1)∧σ.s 8 = iv (G k).2∧σ.s 9 = iv k) (by simp [BvA,h1,h2,m3,h7,h8,h9,hlt]; exact hw) ?_
    clear hw h1 h2 m3 h7 h8 h9 σ
    rintro σ ⟨hw,⟨h1,h2,m3⟩,h7,h8,h9⟩
    refine wwp_body (fun σ=>BvA m Ls σ∧σ.s 7 = iv (firstI (k + 1) (G (k + 1)).1)∧σ.s 8 = iv (G (k + 1)).2∧σ.s 9 = iv k) ?_ ?_
    · refine wwp_drwW hw ?_ (fun σ=>BvA m Ls σ∧σ.s 7 = iv (firstI k (G k).1)∧σ.s 8 = iv (G k).2∧σ.s 9 = iv k∧∃ u d,σ.s 10 = .ptr [11,u] 0∧σ.m [11,u] = some (.box [iv m.t,iv m.r,iv m.s,iv m.c,iv wk,d])∧RowsAt σ.m d RK) ?_ ?_
      · intro l hl
        simp only [List.mem_cons,List.not_mem_nil,or_false] at hl
        subst hl
        exact ahead_at 5 9 10 _ rfl (by omega) rfl rfl
      · by_cases hR0 : RK = []
        · simp [BvA,h1,h2,m3,h7,h8,h9,hlt,hcl,← hL,e43a hR0]
          exact .inl ⟨hR0,rfl⟩
        · simp [BvA,h1,h2,m3,h7,h8,h9,hlt,hcl,← hL,e43b hR0]
          exact .inr ⟨hR0,[49,σ.c 48],[49,σ.c 48,0],rfl,by simp⟩
      clear hw h1 h2 m3 h7 h8 h9 σ
      rintro σ hw ⟨⟨h1,h2,m3⟩,h7,h8,h9,u,d,h10,m11,hR⟩
      refine wwp_cut (fun σ=>BvA m Ls σ∧σ.s 7 = iv (firstI k (G k).1)∧σ.s 8 = iv (G k).2∧σ.s 9 = iv k∧σ.s 12 = iv vk) ?_ ?_
      · rcases hR with ⟨hR0,rfl⟩ | ⟨hR0,tk,g,rfl,htk⟩
        · rw [hR0] at e47
          simp at e47
          simp [BvA,h1,h2,m3,h7,h8,h9,h10,m11,e47]
        · simp [BvA,h1,h2,m3,h7,h8,h9,h10,m11,htk,htkR,e47]
      clear hw h1 h2 m3 h7 h8 h9 u d h10 m11 hR σ
      rintro σ ⟨⟨h1,h2,m3⟩,h7,h8,h9,h12⟩
      rw [eG]
      by_cases hk0 : k = 0
      · have e1 : firstI k (G k).1 = -1:=if_pos hk0
        have e2 : firstI (k + 1) (k : Int) = k:=if_neg (by omega)
        rw [e1] at h7
        rw [if_pos (.inl hk0),e2]
        simp [BvA,h1,h2,m3,h7,h8,h9,h12]
      · have e1 : firstI k (G k).1 = (G k).1:=if_neg hk0
        have hgn:=hGn k (by omega)
        have hn : ¬ (G k).1 < 0:=by omega
        rw [e1] at h7
        by_cases hv : vk < (G k).2
        · have e2 : firstI (k + 1) (k : Int) = k:=if_neg (by omega)
          rw [if_pos (.inr hv),e2]
          simp [BvA,h1,h2,m3,h7,h8,h9,h12,hn,hv]
        · have e2 : firstI (k + 1) (G k).1 = (G k).1:=if_neg (by omega)
          rw [if_neg (by intro h; rcases h with h | h; exact hk0 h; exact hv h),e2]
          simp [BvA,h1,h2,m3,h7,h8,h9,h12,hn,hv]
    · clear hw h1 h2 m3 h7 h8 h9 σ
      rintro σ ⟨⟨h1,h2,m3⟩,h7,h8,h9⟩
      simp [BvA,h1,h2,m3,h7,h8,h9,hw1]
      exact ⟨⟨k + 1,by omega,rfl,rfl,rfl⟩,by omega⟩
  · obtain rfl : k = Ls.length:=by omega
    refine wwp_off ?_
    have e1 : firstI Ls.length (G Ls.length).1 = (G Ls.length).1:=if_neg (by omega)
    rw [e1] at h7
    simp [h1,h2,m3,h7,h8,h9]
theorem c35bad (p47 p49 p60 : FP) (q43 : FQ) (m : Mv) (Ls : List (List Int)) (e : Int) (hl : Ls.length≤1000000) (he : e = if fitB m = true then (if 64 < Ls.length then 5 else if Ls.length = 0 then 6 else 291) else 290)
    (h49 : p49 [.agg [iv m.t,iv m.r,iv m.s,iv m.c,iv m.w,.list (rowsL m.rows)]] = some (bv (fitB m)))
    (h60 : ∀ k (h : k < Ls.length),p60 [.agg [iv m.t,iv m.r,iv m.s,iv m.c,iv m.w,.list (rowsL m.rows)],.list (ints Ls[k])] = some (bv (listOK m.r (-1) Ls[k])))
    (hex : 0 < Ls.length→Ls.length≤64→fitB m = true→∃ k,∃ h : k < Ls.length,listOK m.r (-1) Ls[k] = false) :
    wwp (mkEnv [(47,p47),(49,p49),(60,p60)] [(43,q43)] []) W35.1 (fun e' s=>okExit e'∧resV W35.2 s = some (.tup [iv 0,iv e])) (initV [.agg m.cells,.list (lists Ls)]):=by
  simp only [W35]
  refine wwp_cutW (wf_init _) (BvA m Ls) (by simp [BvA,Mv.cells,Mv.cellsW]) ?_
  rintro σ W ⟨h1,h2,m3⟩
  cases hf : fitB m with
  | false=>
    rw [hf] at h49 he
    have he' : e = 290:=he
    simp [h1,h2,m3,h49,he']
  | true=>
  rw [hf] at h49 he
  rw [if_pos rfl] at he
  refine wwp_condW W (BvA m Ls) (by simp [BvA,h1,h2,m3,h49]) ?_
  clear W h1 h2 m3 σ
  rintro σ W ⟨h1,h2,m3⟩
  by_cases h64 : 64 < Ls.length
  · rw [if_pos h64] at he
    have hzi : (64 : Int) < (Ls.length : Int):=by omega
    simp [h1,h2,m3,h64,hzi,he]
  rw [if_neg h64] at he
  have h64' : Ls.length≤64:=by omega
  have hzi : (Ls.length : Int)≤64:=by omega
  refine wwp_condW W (BvA m Ls) (by simp [BvA,h1,h2,m3,hzi]) ?_
  clear W h1 h2 m3 σ
  rintro σ W ⟨h1,h2,m3⟩
  by_cases h0 : Ls.length = 0
  · rw [if_pos h0] at he
    have : Ls = []:=List.eq_nil_of_length_eq_zero h0
    simp [h1,h2,m3,this,he]
  rw [if_neg h0] at he
  have hz0 : ¬ (Ls.length : Int) = 0:=by omega
  have hz0b : ((Ls.length : Int) == 0) = false:=beq_false_of_ne hz0
  have hLne : ¬ Ls = []:=fun h=>by rw [h] at h0; simp at h0
  refine wwp_condW W (BvA m Ls) (by simp [BvA,h1,h2,m3,hz0,hz0b,hLne]) ?_
  clear W h1 h2 m3 σ
  rintro σ W ⟨h1,h2,m3⟩
  refine wwp_cutG (fun _=>False) ?_ (fun _ h=>h.elim)
  refine wwp_cut (fun σ=>BvA m Ls σ∧σ.s 6 = iv 0) (by simp [BvA,h1,h2,m3]) ?_
  clear W h1 h2 m3 σ
  rintro σ ⟨hB,h6⟩
  simp only [wwp_block]
  refine wwp_loop (fun σ=>∃ k : Nat,k≤Ls.length∧BvA m Ls σ∧σ.s 6 = iv k∧∀ i (h : i < Ls.length),i < k→listOK m.r (-1) Ls[i] = true) (fun σ=>cnt Ls.length (σ.s 6)) ?_ ?_
  · exact ⟨0,by omega,hB,h6,fun i _ h=>absurd h (by omega)⟩
  clear hB h6 σ
  rintro σ W ⟨k,hk,⟨h1,h2,m3⟩,h6,hok⟩
  refine wwp_seq_assoc ?_
  by_cases hlt : k < Ls.length
  · have hw1:=wrap_succ (show k≤1000000000 by omega)
    have hmu : cnt Ls.length (σ.s 6) = Ls.length - k:=by simp [h6]
    simp only [hmu]
    clear hmu
    have hcl:=lists_at hlt
    have e60:=h60 k hlt
    obtain ⟨L,hL⟩ : ∃ L,L = Ls[k]:=⟨_,rfl⟩
    rw [← hL] at hcl e60
    refine wwp_on (fun σ=>BvA m Ls σ∧σ.s 6 = iv k) (by simp [BvA,h1,h2,m3,h6,hlt]) ?_
    clear W h1 h2 m3 h6 σ
    rintro σ ⟨⟨h1,h2,m3⟩,h6⟩
    refine wwp_body (fun σ=>BvA m Ls σ∧σ.s 6 = iv k∧listOK m.r (-1) L = true) ?_ ?_
    · cases hx : listOK m.r (-1) L with
      | false=>
        rw [hx] at e60
        simp [h1,h2,m3,h6,hlt,hcl,← hL,e60,he]
      | true=>
        rw [hx] at e60
        simp [BvA,h1,h2,m3,h6,hlt,hcl,← hL,e60]
    clear h1 h2 m3 h6 σ
    rintro σ ⟨⟨h1,h2,m3⟩,h6,hx⟩
    simp [BvA,h1,h2,m3,h6,hw1]
    refine ⟨⟨k + 1,by omega,rfl,fun i hi hik=>?_⟩,by omega⟩
    by_cases hik' : i < k
    · exact hok i hi hik'
    · obtain rfl : i = k:=by omega
      rw [← hL]; exact hx
  · obtain ⟨j,hj,hjf⟩:=hex (by omega) h64' hf
    have:=hok j hj (by omega)
    rw [hjf] at this
    cases this
theorem c35 (m : Mv) (Ls : List (List Int)) (hm : m.rows.length≤60) (hl : Ls.length≤1000000) (hL : ∀ L ∈ Ls,L.length≤1000000) : VCp Try.prog 35 [.agg m.cells,.list (lists Ls)] (.tup [iv (bestR m Ls).1,iv (bestR m Ls).2]):=by
  have snd : Sound Try.prog (mkEnv [(47,S47),(49,S49),(60,S60)] [(43,S43)] []):=sound_mk (by simp [s47,s49,s60]) (by simp [s43]) (by simp)
  have h49:=S49_at m (by omega)
  have h60 : ∀ k (h : k < Ls.length),S60 [.agg m.cells,.list (ints Ls[k])] = some (bv (listOK m.r (-1) Ls[k])):=fun k h=>S60_at m _ (hL _ (List.getElem_mem h))
  by_cases hg : fitB m = true∧Ls.length≤64∧0 < Ls.length∧∀ L ∈ Ls,listOK m.r (-1) L = true
  · obtain ⟨hf,h64,h0,hok⟩:=hg
    rw [bestR_ok hf h64 h0 hok]
    rw [hf] at h49
    obtain ⟨G,hG⟩ : ∃ G,G = bestGo (fun L=>unbV (exch m L)) Ls:=⟨_,rfl⟩
    have el : ∀ k,(exch m (Ls.getD k [])).rows.length = m.rows.length:=fun k=>exch_len m _
    have gd : ∀ k (h : k < Ls.length),Ls.getD k [] = Ls[k]:=fun k h=>by simp [List.getD,h]
    have tr : ∀ k (h : k < Ls.length),S43 [.agg m.cells,.list (ints Ls[k])] = some (turnRef m Ls[k]):=fun k h=>S43_at m _ (hL _ (List.getElem_mem h)) (by omega)
    rw [← hG]
    refine wcontract_p snd mixed is35 (by rw [nt35]; simp) (c35w S47 S49 S60 S43 m Ls h64 h0 (fun k=>unbV (exch m (Ls.getD k []))) (fun k=>(exch m (Ls.getD k [])).w) (fun k=>(exch m (Ls.getD k [])).rows) G
      (by rw [hG]; rfl) (fun k hk=>by rw [hG]; rfl) (fun k hk=>?_) h49 (fun k h=>?_) (fun k h hR=>?_) (fun k h hR=>?_) (fun k h=>?_)) rfl
    · obtain ⟨a,_,ha,_⟩:=bestGo_law (fun L=>unbV (exch m L)) Ls k hk
      rw [hG,ha]
      simp only; omega
    · have:=h60 k h
      rw [hok _ (List.getElem_mem h)] at this
      exact this
    · have e:=tr k h
      have hr : m.rows.isEmpty = true:=by
        have:=el k
        have hR' : (exch m (Ls.getD k [])).rows = []:=hR
        rw [hR'] at this
        simpa using List.eq_nil_of_length_eq_zero this.symm
      unfold turnRef at e
      rw [hf,hok _ (List.getElem_mem h),if_pos rfl,if_pos rfl,if_pos hr,← gd k h] at e
      rw [← gd k h]
      exact e
    · have e:=tr k h
      have hr : m.rows.isEmpty = false:=by
        cases hm : m.rows with
        | nil=>exfalso; apply hR; simp only [exch,hm,List.map_nil]
        | cons=>rfl
      unfold turnRef at e
      rw [hf,hok _ (List.getElem_mem h),if_pos rfl,if_pos rfl,if_neg (by rw [hr]; simp),← gd k h] at e
      simp only [el]
      rw [← gd k h]
      exact e
    · have e:=S47_at (exch m (Ls.getD k [])) (by rw [el]; exact hm)
      have e2 : unbR (exch m (Ls.getD k [])) = (unbV (exch m (Ls.getD k [])),0):=by unfold unbR; rw [if_pos (fit_exch hf)]
      rw [e2] at e
      exact e
  · have he : bestE m Ls = if fitB m = true then (if 64 < Ls.length then 5 else if Ls.length = 0 then 6 else 291) else 290:=by
      unfold bestE
      cases hf : fitB m with
      | false=>rfl
      | true=>
        rw [if_pos rfl,if_pos rfl]
        by_cases h64 : 64 < Ls.length
        · rw [if_pos h64,if_pos h64]
        · rw [if_neg h64,if_neg h64]
          by_cases h0 : Ls.length = 0
          · rw [if_pos h0,if_pos h0]
          · rw [if_neg h0,if_neg h0,if_neg]
            intro hall
            exact hg ⟨hf,by omega,by omega,fun L hL=>by simpa using List.all_eq_true.1 hall L hL⟩
    have hne : bestE m Ls ≠ 0:=by rw [he]; split <;> (try split) <;> (try split) <;> decide
    rw [bestR_e rfl hne]
    refine wcontract_p snd mixed is35 (by rw [nt35]; simp) (c35bad S47 S49 S60 S43 m Ls (bestE m Ls) hl he h49 h60 fun h0 h64 hf=>?_) rfl
    have : ¬ ∀ L ∈ Ls,listOK m.r (-1) L = true:=fun h=>hg ⟨hf,h64,h0,h⟩
    have ⟨L,hLm,hLf⟩ : ∃ L ∈ Ls,listOK m.r (-1) L = false:=by
      refine Classical.byContradiction fun hc=>this fun L hL=>?_
      cases hx : listOK m.r (-1) L with
      | true=>rfl
      | false=>exact absurd ⟨L,hL,hx⟩ hc
    obtain ⟨k,hk,rfl⟩:=List.mem_iff_getElem.1 hLm
    exact ⟨k,hk,hLf⟩
end Go.Proofs.Ytpmgaaalfdjikaa
namespace Go.Proofs.Ytpmgaaalfdjikaa
open Go.RowKit
set_option linter.unusedSimpArgs false
set_option linter.unusedVariables false
def W64 : WC × List VRes:=(.seq (.reg [.set [(4,.c (.v (.int .i64 0)))] [4]]) (.seq (.reg [.set [(4,.ap (.ibin .add) [.ap (.ibin .mul) [.c (.v (.int .i64 1000003)),.ap (.ibin .add) [.t 0,.c (.v (.int .i64 7))]],.t 1])] [5,6,7,8,9,4]]) .ret),[.t 4])
theorem is64 : IsFn Try.prog frOf 64 Try.f64 W64:=⟨by kernel_rfl,by kernel_rfl,by kernel_rfl⟩
theorem nt64 : Try.f64.ntmps = 10:=by kernel_rfl
def W73 : WC × List VRes:=(.seq (.reg [.stm (.eff (.box 4 (.c (.agg [.v (.int .i64 0),.v (.int .i64 0),.v (.int .i64 0),.v (.int .i64 0),.v (.int .i64 0)]))) none)]) (.seq (.reg [.set [(8,.ap (.build [.v (.int .i64 0),.v (.int .i64 0),.v (.int .i64 0),.v (.int .i64 0),.v (.int .i64 0)] [(2,1)]) [.ap (.call 64) [.t 0,.t 1]])] [5,6,7,8],.stm (.eff (.store 5 (.t 4) (.t 8)) none)]) .ret),[.cell 4 5 true])
theorem is73 : IsFn Try.prog frOf 73 Try.f73 W73:=⟨by kernel_rfl,by kernel_rfl,by kernel_rfl⟩
theorem nt73 : Try.f73.ntmps = 9:=by kernel_rfl
def W48 : WC × List VRes:=(.seq (.reg [.stm (.eff (.box 2 (.t 0)) none),.stm (.eff (.box 3 (.t 1)) none),.set [(4,.c (.v (.bool false)))] [4]]) (.seq (.reg [.set [(4,.ite (.ite (.ite (.ite (.ite (.ap (.ibin .eql) [.ap (.load 1 false) [.ap (.fld 0) [.t 2]],.ap (.load 1 false) [.ap (.fld 0) [.t 3]]]) (.ap (.ibin .eql) [.ap (.load 1 false) [.ap (.fld 1) [.t 2]],.ap (.load 1 false) [.ap (.fld 1) [.t 3]]]) (.c (.v (.bool false)))) (.ap (.ibin .eql) [.ap (.load 1 false) [.ap (.fld 2) [.t 2]],.ap (.load 1 false) [.ap (.fld 2) [.t 3]]]) (.c (.v (.bool false)))) (.ap (.ibin .eql) [.ap (.load 1 false) [.ap (.fld 3) [.t 2]],.ap (.load 1 false) [.ap (.fld 3) [.t 3]]]) (.c (.v (.bool false)))) (.ap (.ibin .eql) [.ap (.load 1 false) [.ap (.fld 4) [.t 2]],.ap (.load 1 false) [.ap (.fld 4) [.t 3]]]) (.c (.v (.bool false)))) (.ap (.call 67) [.ap (.load 1 false) [.ap (.fld 5) [.t 2]],.ap (.load 1 false) [.ap (.fld 5) [.t 3]]]) (.c (.v (.bool false))))] [5,6,7,8,9,10,11,12,13,14,15,16,17,18,19,20,21,22,23,24,25,26,27,28,29,30,31,32,33,34,35,36,37,38,39,40,41,42,43,44,4]]) .ret),[.t 4])
theorem is48 : IsFn Try.prog frOf 48 Try.f48 W48:=⟨by kernel_rfl,by kernel_rfl,by kernel_rfl⟩
theorem nt48 : Try.f48.ntmps = 45:=by kernel_rfl
def W67 : WC × List VRes:=(.seq (.reg [.set [(4,.c (.v (.bool false)))] [4]]) (.seq (.seq (.reg [.set [(10,.ap (.ibin .neq) [.ap .llen [.t 0],.ap .llen [.t 1]])] [6,7,8,9,10]]) (.cond (.t 10) (.seq (.reg [.set [(4,.c (.v (.bool false)))] [4]]) .ret) .skip)) (.seq (.seq (.reg [.set [(5,.c (.v (.int .i64 0)))] [5]]) (.block 0 (.loop (.seq (.seq (.reg [.set [(14,.ap (.ibin .lss) [.t 5,.ap .llen [.t 0]])] [11,12,13,14]]) (.cond (.t 14) .skip (.exit 0))) (.seq (.block 1 (.seq (.reg [.set [(25,.ap (.aeq true [3,3,3,3,3]) [.ap (.load 5 true) [.ap (.idx 53 5) [.t 0,.t 5]],.ap (.load 5 true) [.ap (.idx 53 5) [.t 1,.t 5]]])] [17,18,19,20,21,22,23,24,25]]) (.cond (.t 25) (.seq (.reg [.set [(4,.c (.v (.bool false)))] [4]]) .ret) .skip))) (.reg [.set [(5,.ap (.ibin .add) [.t 5,.c (.v (.int .i64 1))])] [15,16,5]])))))) (.seq (.reg [.set [(4,.c (.v (.bool true)))] [4]]) .ret))),[.t 4])
theorem is67 : IsFn Try.prog frOf 67 Try.f67 W67:=⟨by kernel_rfl,by kernel_rfl,by kernel_rfl⟩
theorem nt67 : Try.f67.ntmps = 26:=by kernel_rfl
def W32 : WC × List VRes:=(.seq (.reg [.stm (.eff (.box 2 (.t 0)) none),.set [(4,.c (.v (.bool false)))] [4]]) (.seq (.seq (.reg [.set [(15,.ite (.ap (.ibin .gtr) [.ap .llen [.ap (.load 1 false) [.ap (.fld 5) [.t 2]]],.c (.v (.int .i64 60))]) (.c (.v (.bool true))) (.ap (.ibin .gtr) [.ap .llen [.t 1],.c (.v (.int .i64 70))]))] [7,8,9,10,11,12,13,14,15]]) (.cond (.t 15) (.seq (.reg [.set [(4,.c (.v (.bool false)))] [4]]) .ret) .skip)) (.seq (.seq (.reg [.set [(16,.t 1),(17,.ap .llen [.t 1]),(18,.c (.v (.int .i64 0)))] [16,17,18]]) (.block 0 (.loop (.seq (.reg [.set [(19,.ap (.ibin .lss) [.t 18,.t 17])] [19]]) (.seq (.cond (.t 19) .skip (.exit 0)) (.seq (.block 1 (.seq (.reg [.set [(6,.ap (.load 1 false) [.ap (.idx 34 1) [.t 16,.t 18]])] [20,21,6]]) (.seq (.reg [.set [(24,.ap (.ibin .gtr) [.ap .llen [.t 6],.c (.v (.int .i64 50))])] [22,23,24]]) (.cond (.t 24) (.seq (.reg [.set [(4,.c (.v (.bool false)))] [4]]) .ret) .skip)))) (.reg [.set [(18,.ap (.ibin .add) [.t 18,.c (.v (.int .i64 1))])] [25,18]]))))))) (.seq (.reg [.set [(4,.c (.v (.bool true)))] [4]]) .ret))),[.t 4])
theorem is32 : IsFn Try.prog frOf 32 Try.f32 W32:=⟨by kernel_rfl,by kernel_rfl,by kernel_rfl⟩
theorem nt32 : Try.f32.ntmps = 26:=by kernel_rfl
def markI (k i : Int) : Int:=1000003 * (k + 7) + i
theorem c64 (i : Nat) (hi : i≤1000000) : VCp Try.prog 64 [iv 1,iv i] (iv (markI 1 i)):=by
  have e : IntKind.i64.wrap ((8000024 : Int) + i) = 8000024 + i:=wrap_in (by omega) (by omega)
  refine wcontract_p sound0 mixed is64 (by rw [nt64]; simp) ?_ rfl
  have e1 : IntKind.i64.wrap 8 = 8:=wrap_in (by omega) (by omega)
  have e2 : IntKind.i64.wrap (1000003 * 8) = 8000024:=by rw [wrap_in (by omega) (by omega)]; rfl
  have e3 : IntKind.i64.wrap 8000024 = 8000024:=wrap_in (by omega) (by omega)
  simp [W64,markI,e,e1,e2,e3]
def S64 : List D→Option D
  | [.v (.int .i64 1),.v (.int .i64 i)]=>if 0≤i∧i≤1000000 then some (iv (markI 1 i)) else none
  | _=>none
theorem s64 : OkP 64 S64:=fun ds d h=>by
  unfold S64 at h
  split at h
  · split at h
    · rename_i i hi
      cases h
      have:=c64 i.toNat (by omega)
      rwa [Int.toNat_of_nonneg hi.1] at this
    · cases h
  · cases h
theorem S64_at (i : Nat) (hi : i≤1000000) : S64 [iv 1,iv i] = some (iv (markI 1 i)):=by
  simp only [S64]
  rw [if_pos (by omega)]
def markRow (i : Int) : Row:=⟨0,0,markI 1 i,0,0⟩
theorem c73 (i : Nat) (hi : i≤1000000) : VCp Try.prog 73 [iv 1,iv i] (.agg (markRow i).cells):=by
  have h:=S64_at i hi
  refine wcontract_p (Γ:=mkEnv [(64,S64)] [] []) (sound_mk (by simp [s64]) (by simp) (by simp)) mixed is73 (by rw [nt73]; simp) ?_ rfl
  simp [W73,h,markRow,Row.cells]
def S73 : List D→Option D
  | [.v (.int .i64 1),.v (.int .i64 i)]=>if 0≤i∧i≤1000000 then some (.agg (markRow i).cells) else none
  | _=>none
theorem s73 : OkP 73 S73:=fun ds d h=>by
  unfold S73 at h
  split at h
  · split at h
    · rename_i i hi
      cases h
      have:=c73 i.toNat (by omega)
      rwa [Int.toNat_of_nonneg hi.1] at this
    · cases h
  · cases h
theorem S73_at (i : Nat) (hi : i≤1000000) : S73 [iv 1,iv i] = some (.agg (markRow i).cells):=by
  simp only [S73]
  rw [if_pos (by omega)]
theorem c67 (a b : List Row) (ha : a.length≤1000000) (hb : b.length≤1000000) : VCp Try.prog 67 [.list (rowsL a),.list (rowsL b)] (bv (decide (a = b))):=by
  refine wcontract_p sound0 mixed is67 (by rw [nt67]; simp) ?_ rfl
  simp only [W67]
  by_cases hlen : a.length = b.length
  · refine wwp_cutW (wf_init _) (fun σ=>σ.s 0 = .list (rowsL a)∧σ.s 1 = .list (rowsL b)) (by simp) ?_
    rintro σ W ⟨h0,h1⟩
    refine wwp_condW W (fun σ=>σ.s 0 = .list (rowsL a)∧σ.s 1 = .list (rowsL b)) (by simp [h0,h1,hlen]) ?_
    clear W h0 h1 σ
    rintro σ W ⟨h0,h1⟩
    refine wwp_cutG (fun σ=>decide (a = b) = true) ?_ (fun σ h=>by simp [h])
    refine wwp_cut (fun σ=>σ.s 0 = .list (rowsL a)∧σ.s 1 = .list (rowsL b)∧σ.s 5 = iv 0) (by simp [h0,h1]) ?_
    clear W h0 h1 σ
    rintro σ ⟨h0,h1,h5⟩
    simp only [wwp_block]
    refine wwp_loop (fun σ=>∃ k : Nat,k≤a.length∧σ.s 0 = .list (rowsL a)∧σ.s 1 = .list (rowsL b)∧σ.s 5 = iv k∧∀ i (h : i < a.length),i < k→a[i] = b[i]'(by omega)) (fun σ=>cnt a.length (σ.s 5)) ?_ ?_
    · exact ⟨0,by omega,h0,h1,h5,fun i _ h=>absurd h (by omega)⟩
    clear h0 h1 h5 σ
    rintro σ W ⟨k,hk,h0,h1,h5,hok⟩
    refine wwp_seq_assoc ?_
    by_cases hlt : k < a.length
    · have hw1:=wrap_succ (show k≤1000000000 by omega)
      have hmu : cnt a.length (σ.s 5) = a.length - k:=by simp [h5]
      simp only [hmu]
      clear hmu
      have hlb : k < b.length:=by omega
      have ca:=rowsL_at hlt
      have cb:=rowsL_at hlb
      have hne : a[k] ≠ b[k]→decide (a = b) = false:=fun h=>decide_eq_false fun e=>h (by subst e; rfl)
      obtain ⟨x,hx⟩ : ∃ x,x = a[k]:=⟨_,rfl⟩
      obtain ⟨y,hy⟩ : ∃ y,y = b[k]:=⟨_,rfl⟩
      rw [← hx] at ca
      rw [← hy] at cb
      rw [← hx,← hy] at hne
      refine wwp_on (fun σ=>σ.s 0 = .list (rowsL a)∧σ.s 1 = .list (rowsL b)∧σ.s 5 = iv k) (by simp [h0,h1,h5,hlt]) ?_
      clear W h0 h1 h5 σ
      rintro σ ⟨h0,h1,h5⟩
      refine wwp_body (fun σ=>σ.s 0 = .list (rowsL a)∧σ.s 1 = .list (rowsL b)∧σ.s 5 = iv k∧x = y) ?_ ?_
      · by_cases e : x = y
        · subst e
          simp [h0,h1,h5,hlt,hlb,ca,cb,Row.cells,← hx,← hy]
        · have hf:=hne e
          simp [h0,h1,h5,hlt,hlb,ca,cb,Row.cells,← hx,← hy,hf,row_ne,e]
      · clear h0 h1 h5 σ
        rintro σ ⟨h0,h1,h5,e⟩
        simp [h0,h1,h5,hw1]
        refine ⟨⟨k + 1,by omega,rfl,fun i hi hik=>?_⟩,by omega⟩
        by_cases hik' : i < k
        · exact hok i hi hik'
        · obtain rfl : i = k:=by omega
          rw [← hx,← hy]; exact e
    · refine wwp_off ?_
      simp [h0,h1,h5,hlt]
      exact List.ext_getElem hlen fun i h1 h2=>hok i h1 (by omega)
  · have hne : decide (a = b) = false:=decide_eq_false fun e=>hlen (by rw [e])
    have hz : ¬ (a.length : Int) = b.length:=by omega
    have hzb : ((a.length : Int) != (b.length : Int)) = true:=by rw [bne_iff_ne]; exact hz
    simp [hlen,hz,hzb,hne]
def S67 : List D→Option D
  | [.list a,.list b]=>(asRows a).bind fun a=>(asRows b).bind fun b=>if a.length≤1000000∧b.length≤1000000 then some (bv (decide (a = b))) else none
  | _=>none
theorem s67 : OkP 67 S67:=fun ds d h=>by
  unfold S67 at h
  split at h
  · rw [Option.bind_eq_some_iff] at h
    obtain ⟨a,ha,h⟩:=h
    rw [Option.bind_eq_some_iff] at h
    obtain ⟨b,hb,h⟩:=h
    split at h
    · rename_i hc
      cases h
      rw [asRows_eq ha,asRows_eq hb]
      exact c67 a b hc.1 hc.2
    · cases h
  · cases h
theorem S67_at (a b : List Row) (ha : a.length≤1000000) (hb : b.length≤1000000) : S67 [.list (rowsL a),.list (rowsL b)] = some (bv (decide (a = b))):=by
  simp only [S67,asRows_rowsL,Option.bind_some]
  rw [if_pos ⟨ha,hb⟩]
theorem c48 (a b : Mv) (ha : a.rows.length≤1000000) (hb : b.rows.length≤1000000) : VCp Try.prog 48 [.agg a.cells,.agg b.cells] (bv (a.t == b.t && a.r == b.r && a.s == b.s && a.c == b.c && a.w == b.w && decide (a.rows = b.rows))):=by
  have h:=S67_at a.rows b.rows ha hb
  refine wcontract_p (Γ:=mkEnv [(67,S67)] [] []) (sound_mk (by simp [s67]) (by simp) (by simp)) mixed is48 (by rw [nt48]; simp) ?_ rfl
  simp [W48,h,Mv.cells,Mv.cellsW]
def S48 : List D→Option D
  | [.agg a,.agg b]=>(asMv a).bind fun a=>(asMv b).bind fun b=>if a.rows.length≤1000000∧b.rows.length≤1000000 then some (bv (a.t == b.t && a.r == b.r && a.s == b.s && a.c == b.c && a.w == b.w && decide (a.rows = b.rows))) else none
  | _=>none
theorem s48 : OkP 48 S48:=fun ds d h=>by
  unfold S48 at h
  split at h
  · rw [Option.bind_eq_some_iff] at h
    obtain ⟨a,ha,h⟩:=h
    rw [Option.bind_eq_some_iff] at h
    obtain ⟨b,hb,h⟩:=h
    split at h
    · rename_i hc
      cases h
      rw [asMv_eq ha,asMv_eq hb]
      exact c48 a b hc.1 hc.2
    · cases h
  · cases h
theorem S48_self (a : Mv) (ha : a.rows.length≤1000000) : S48 [.agg a.cells,.agg a.cells] = some (bv true):=by
  simp only [S48,Mv.cells,Mv.cellsW,asMv_cells,Option.bind_some]
  rw [if_pos ⟨ha,ha⟩]
  simp
end Go.Proofs.Ytpmgaaalfdjikaa
namespace Go.Proofs.Ytpmgaaalfdjikaa
open Go.RowKit
set_option linter.unusedSimpArgs false
set_option linter.unusedVariables false
def W42 : WC × List VRes:=(.seq (.reg [.set [(2,.c .nil)] [2]]) (.seq (.reg [.set [(7,.ap (.ibin .add) [.ap .llen [.t 0],.c (.v (.int .i64 12))])] [5,6,7],.stm (.eff (.mks 8 3 1 [.v (.int .i64 0)] (.c (.v (.int .i64 0))) (.t 7)) none),.set [(3,.t 8)] [3]]) (.seq (.reg [.set [(9,.t 3),(10,.t 0)] [9,10],.stm (.eff (.app 11 3 1 (.t 9) (.t 10)) none),.set [(3,.t 11)] [3]]) (.seq (.seq (.reg [.set [(4,.c (.v (.int .i64 0)))] [4]]) (.block 0 (.loop (.seq (.seq (.reg [.set [(13,.ap (.ibin .lss) [.t 4,.c (.v (.int .i64 12))])] [12,13]]) (.cond (.t 13) .skip (.exit 0))) (.seq (.block 1 (.reg [.set [(16,.t 3),(18,.ap (.call 64) [.c (.v (.int .i64 1)),.t 4])] [16,17,18],.stm (.eff (.lit 19 3 1 1 [.v (.int .i64 0)] [(0,1)] [.t 18]) none),.stm (.eff (.app 20 3 1 (.t 16) (.t 19)) none),.set [(3,.t 20)] [3]])) (.reg [.set [(4,.ap (.ibin .add) [.t 4,.c (.v (.int .i64 1))])] [14,15,4]])))))) (.seq (.reg [.set [(2,.ap (.slc 1 false true false) [.t 3,.ap .llen [.t 0]])] [21,22,23,24,2]]) .ret)))),[.t 2])
theorem is42 : IsFn Try.prog frOf 42 Try.f42 W42:=⟨by kernel_rfl,by kernel_rfl,by kernel_rfl⟩
theorem nt42 : Try.f42.ntmps = 25:=by kernel_rfl
def W58 : WC × List VRes:=(.seq (.reg [.set [(2,.c .nil)] [2]]) (.seq (.reg [.set [(7,.ap (.ibin .add) [.ap .llen [.t 0],.c (.v (.int .i64 12))])] [5,6,7],.stm (.eff (.mks 8 53 5 [.v (.int .i64 0),.v (.int .i64 0),.v (.int .i64 0),.v (.int .i64 0),.v (.int .i64 0)] (.c (.v (.int .i64 0))) (.t 7)) none),.set [(3,.t 8)] [3]]) (.seq (.reg [.set [(9,.t 3),(10,.t 0)] [9,10],.stm (.eff (.app 11 53 5 (.t 9) (.t 10)) none),.set [(3,.t 11)] [3]]) (.seq (.seq (.reg [.set [(4,.c (.v (.int .i64 0)))] [4]]) (.block 0 (.loop (.seq (.seq (.reg [.set [(13,.ap (.ibin .lss) [.t 4,.c (.v (.int .i64 12))])] [12,13]]) (.cond (.t 13) .skip (.exit 0))) (.seq (.block 1 (.reg [.set [(16,.t 3),(18,.ap (.call 73) [.c (.v (.int .i64 1)),.t 4])] [16,17,18],.stm (.eff (.lit 19 53 5 1 [.v (.int .i64 0),.v (.int .i64 0),.v (.int .i64 0),.v (.int .i64 0),.v (.int .i64 0)] [(0,5)] [.t 18]) none),.stm (.eff (.app 20 53 5 (.t 16) (.t 19)) none),.set [(3,.t 20)] [3]])) (.reg [.set [(4,.ap (.ibin .add) [.t 4,.c (.v (.int .i64 1))])] [14,15,4]])))))) (.seq (.reg [.set [(2,.ap (.slc 5 false true false) [.t 3,.ap .llen [.t 0]])] [21,22,23,24,2]]) .ret)))),[.t 2])
theorem is58 : IsFn Try.prog frOf 58 Try.f58 W58:=⟨by kernel_rfl,by kernel_rfl,by kernel_rfl⟩
theorem nt58 : Try.f58.ntmps = 25:=by kernel_rfl
def marksI (k : Nat) : List Int:=(List.range k).map fun (i : Nat)=>markI 1 i
theorem marksI_succ (k : Nat) : marksI (k + 1) = marksI k ++ [markI 1 k]:=by simp [marksI,List.range_succ]
theorem marksI_len (k : Nat) : (marksI k).length = k:=by simp [marksI]
def marksR (k : Nat) : List Row:=(List.range k).map fun (i : Nat)=>markRow i
theorem marksR_succ (k : Nat) : marksR (k + 1) = marksR k ++ [markRow k]:=by simp [marksR,List.range_succ]
theorem marksR_len (k : Nat) : (marksR k).length = k:=by simp [marksR]
theorem ints_app (a b : List Int) : ints (a ++ b) = ints a ++ ints b:=by simp [ints]
theorem c42w (p64 : FP) (mk : Nat→Int) (mks : Nat→List Int) (hm0 : mks 0 = []) (hms : ∀ i,mks (i + 1) = mks i ++ [mk i]) (h64 : ∀ i : Nat,i < 12→p64 [iv 1,iv i] = some (iv (mk i))) (L : List Int) (hl : L.length≤100000) :
    wwp (mkEnv [(64,p64)] [] []) W42.1 (fun e s=>okExit e∧∃ d0,resV W42.2 s = some d0∧Out s d0 (.sl [] 1 0 L.length none) (rowMem 3 (ints (L ++ mks 12)))) (initV [.list (ints L)]):=by
  obtain ⟨N,hN,hNm⟩ : ∃ N : Nat,N = L.length + 12∧N≤maxMade:=⟨_,rfl,maxMade_le (by omega)⟩
  have w1 : IntKind.i64.wrap ((L.length : Int) + 12) = (N : Int):=by rw [wrap_in (by omega) (by omega)]; omega
  have mm0 : L.length≤maxMade:=maxMade_le (by omega)
  have mm1 : 1≤maxMade:=maxMade_le (by omega)
  have hml : ∀ i,(mks i).length = i:=fun i=>by
    induction i with
    | zero=>rw [hm0]; rfl
    | succ i ih=>rw [hms,List.length_append,ih]; rfl
  simp only [W42]
  refine wwp_cut (fun σ=>σ.s 0 = .list (ints L)∧∀ y,σ.c y = 0) (by simp) ?_
  rintro σ ⟨h0,hc⟩
  have k8:=hc 8
  have k11:=hc 11
  refine wwp_cut (fun σ=>σ.s 0 = .list (ints L)∧σ.s 3 = .sl [9,0] 1 0 0 none∧(∃ g,σ.m [9,0] = some (.row g 3 []))∧σ.c 11 = 0) (by simp [h0,k8,k11,w1,hNm]) ?_
  clear h0 hc k8 k11 σ
  rintro σ ⟨h0,h3,⟨g,m9⟩,k11⟩
  refine wwp_cut (fun σ=>σ.s 0 = .list (ints L)∧∃ tk g,σ.s 3 = .sl tk 1 0 L.length none∧σ.m tk = some (.row g 3 (ints L))) ?_ ?_
  · by_cases hL : L = []
    · subst hL
      simp [h0,h3,m9,k11,mm0]
    · simp [h0,h3,m9,k11,mm0,hL]
  clear h0 h3 g m9 k11 σ
  rintro σ ⟨h0,tk,g,h3,mt⟩
  refine wwp_cutG (fun σ=>σ.s 0 = .list (ints L)∧∃ tk g,σ.s 3 = .sl tk 1 0 (L.length + 12) none∧σ.m tk = some (.row g 3 (ints (L ++ mks 12)))) ?_ ?_
  · refine wwp_cut (fun σ=>σ.s 0 = .list (ints L)∧(∃ tk g,σ.s 3 = .sl tk 1 0 L.length none∧σ.m tk = some (.row g 3 (ints L)))∧σ.s 4 = iv 0) (by simp [h0,h3,mt]) ?_
    clear h0 tk g h3 mt σ
    rintro σ ⟨h0,⟨tk,g,h3,mt⟩,h4⟩
    simp only [wwp_block]
    refine wwp_loop (fun σ=>∃ k : Nat,k≤12∧σ.s 0 = .list (ints L)∧(∃ tk g,σ.s 3 = .sl tk 1 0 (L.length + k) none∧σ.m tk = some (.row g 3 (ints (L ++ mks k))))∧σ.s 4 = iv k) (fun σ=>cnt 12 (σ.s 4)) ?_ ?_
    · exact ⟨0,by omega,h0,⟨tk,g,by simpa using h3,by rw [hm0,List.append_nil]; exact mt⟩,h4⟩
    clear h0 tk g h3 mt h4 σ
    rintro σ hw ⟨k,hk,h0,⟨tk,g,h3,mt⟩,h4⟩
    refine wwp_seq_assoc ?_
    by_cases hlt : k < 12
    · have hw1:=wrap_succ (show k≤1000000000 by omega)
      have hmu : cnt 12 (σ.s 4) = 12 - k:=by simp [h4]
      simp only [hmu]
      clear hmu
      have hlz : (k : Int) < 12:=by omega
      have e64:=h64 k hlt
      refine wwp_on (fun σ=>WF σ∧σ.s 0 = .list (ints L)∧(σ.s 3 = .sl tk 1 0 (L.length + k) none∧σ.m tk = some (.row g 3 (ints (L ++ mks k))))∧σ.s 4 = iv k) (by simp [h0,h3,mt,h4,hlt,hlz]; exact hw) ?_
      clear hw h0 h3 mt h4 σ
      rintro σ ⟨hw,h0,⟨h3,mt⟩,h4⟩
      refine wwp_body (fun σ=>σ.s 0 = .list (ints L)∧(∃ tk g,σ.s 3 = .sl tk 1 0 (L.length + (k + 1)) none∧σ.m tk = some (.row g 3 (ints (L ++ mks (k + 1)))))∧σ.s 4 = iv k) ?_ ?_
      · have n1:=hw.ne mt 19 (σ.c 19) []
        have hmm : L.length + k + 1≤maxMade:=maxMade_le (by omega)
        have hmk : (mks k).length = k:=hml k
        have hle : L.length + k≤(ints (L ++ mks k)).length:=by rw [ints_len,List.length_append,hmk]; omega
        have htk : (ints (L ++ mks k)).take (L.length + k) = ints (L ++ mks k):=List.take_of_length_le (by rw [ints_len,List.length_append,hmk]; omega)
        have e1 : L ++ mks (k + 1) = (L ++ mks k) ++ [mk k]:=by rw [hms,List.append_assoc]
        rw [e1,ints_app]
        obtain ⟨X,hX⟩ : ∃ X,X = ints (L ++ mks k):=⟨_,rfl⟩
        rw [← hX] at mt hle htk ⊢
        simp [h0,h3,mt,h4,e64,n1,hmm,hle,htk,one_made]
        exact ⟨[21,σ.c 20],⟨rfl,by omega⟩,g,by simp [ints]⟩
      · clear hw h0 h3 mt h4 σ
        rintro σ ⟨h0,⟨tk,g,h3,mt⟩,h4⟩
        simp [h0,h3,mt,h4,hw1]
        exact ⟨⟨k + 1,by omega,⟨tk,⟨rfl,rfl⟩,g,mt⟩,rfl⟩,by omega⟩
    · obtain rfl : k = 12:=by omega
      refine wwp_off ?_
      simp [h0,h3,mt,h4]
  · clear h0 tk g h3 mt σ
    rintro σ ⟨h0,tk,g,h3,mt⟩
    have lz1 : (L.length : Int)≤(L.length : Int) + 12:=by omega
    simp [h0,h3,mt,hml,lz1]
    exact Out.row (t:=tk) (g:=g) (es:=ints (L ++ mks 12)) (by simp [mt]) (ints_flat _)
theorem c42 (L : List Int) (hl : L.length≤100000) : VCq Try.prog 42 [.list (ints L)] (.sl [] 1 0 L.length none) (rowMem 3 (ints (L ++ marksI 12))):=
  wcontract_q (Γ:=mkEnv [(64,S64)] [] []) (sound_mk (by simp [s64]) (by simp) (by simp)) mixed is42 (by rw [nt42]; simp) (c42w S64 (fun i=>markI 1 i) marksI rfl marksI_succ (fun i hi=>S64_at i (by omega)) L hl)
theorem c58w (p73 : FP) (mk : Nat→Row) (mks : Nat→List Row) (hm0 : mks 0 = []) (hms : ∀ i,mks (i + 1) = mks i ++ [mk i]) (h73 : ∀ i : Nat,i < 12→p73 [iv 1,iv i] = some (.agg (mk i).cells)) (L : List Row) (hl : L.length≤100000) :
    wwp (mkEnv [(73,p73)] [] []) W58.1 (fun e s=>okExit e∧∃ d0,resV W58.2 s = some d0∧Out s d0 (.sl [] 5 0 L.length none) (rowMem 53 (rowsL (L ++ mks 12)))) (initV [.list (rowsL L)]):=by
  obtain ⟨N,hN,hNm⟩ : ∃ N : Nat,N = L.length + 12∧N≤maxMade:=⟨_,rfl,maxMade_le (by omega)⟩
  have w1 : IntKind.i64.wrap ((L.length : Int) + 12) = (N : Int):=by rw [wrap_in (by omega) (by omega)]; omega
  have mm0 : L.length≤maxMade:=maxMade_le (by omega)
  have mm1 : 1≤maxMade:=maxMade_le (by omega)
  have hml : ∀ i,(mks i).length = i:=fun i=>by
    induction i with
    | zero=>rw [hm0]; rfl
    | succ i ih=>rw [hms,List.length_append,ih]; rfl
  simp only [W58]
  refine wwp_cut (fun σ=>σ.s 0 = .list (rowsL L)∧∀ y,σ.c y = 0) (by simp) ?_
  rintro σ ⟨h0,hc⟩
  have k8:=hc 8
  have k11:=hc 11
  refine wwp_cut (fun σ=>σ.s 0 = .list (rowsL L)∧σ.s 3 = .sl [9,0] 5 0 0 none∧(∃ g,σ.m [9,0] = some (.row g 53 []))∧σ.c 11 = 0) (by simp [h0,k8,k11,w1,hNm]) ?_
  clear h0 hc k8 k11 σ
  rintro σ ⟨h0,h3,⟨g,m9⟩,k11⟩
  refine wwp_cut (fun σ=>σ.s 0 = .list (rowsL L)∧∃ tk g,σ.s 3 = .sl tk 5 0 L.length none∧σ.m tk = some (.row g 53 (rowsL L))) ?_ ?_
  · by_cases hL : L = []
    · subst hL
      simp [h0,h3,m9,k11,mm0]
    · simp [h0,h3,m9,k11,mm0,hL]
  clear h0 h3 g m9 k11 σ
  rintro σ ⟨h0,tk,g,h3,mt⟩
  refine wwp_cutG (fun σ=>σ.s 0 = .list (rowsL L)∧∃ tk g,σ.s 3 = .sl tk 5 0 (L.length + 12) none∧σ.m tk = some (.row g 53 (rowsL (L ++ mks 12)))) ?_ ?_
  · refine wwp_cut (fun σ=>σ.s 0 = .list (rowsL L)∧(∃ tk g,σ.s 3 = .sl tk 5 0 L.length none∧σ.m tk = some (.row g 53 (rowsL L)))∧σ.s 4 = iv 0) (by simp [h0,h3,mt]) ?_
    clear h0 tk g h3 mt σ
    rintro σ ⟨h0,⟨tk,g,h3,mt⟩,h4⟩
    simp only [wwp_block]
    refine wwp_loop (fun σ=>∃ k : Nat,k≤12∧σ.s 0 = .list (rowsL L)∧(∃ tk g,σ.s 3 = .sl tk 5 0 (L.length + k) none∧σ.m tk = some (.row g 53 (rowsL (L ++ mks k))))∧σ.s 4 = iv k) (fun σ=>cnt 12 (σ.s 4)) ?_ ?_
    · exact ⟨0,by omega,h0,⟨tk,g,by simpa using h3,by rw [hm0,List.append_nil]; exact mt⟩,h4⟩
    clear h0 tk g h3 mt h4 σ
    rintro σ hw ⟨k,hk,h0,⟨tk,g,h3,mt⟩,h4⟩
    refine wwp_seq_assoc ?_
    by_cases hlt : k < 12
    · have hw1:=wrap_succ (show k≤1000000000 by omega)
      have hmu : cnt 12 (σ.s 4) = 12 - k:=by simp [h4]
      simp only [hmu]
      clear hmu
      have hlz : (k : Int) < 12:=by omega
      have e73:=h73 k hlt
      refine wwp_on (fun σ=>WF σ∧σ.s 0 = .list (rowsL L)∧(σ.s 3 = .sl tk 5 0 (L.length + k) none∧σ.m tk = some (.row g 53 (rowsL (L ++ mks k))))∧σ.s 4 = iv k) (by simp [h0,h3,mt,h4,hlt,hlz]; exact hw) ?_
      clear hw h0 h3 mt h4 σ
      rintro σ ⟨hw,h0,⟨h3,mt⟩,h4⟩
      refine wwp_body (fun σ=>σ.s 0 = .list (rowsL L)∧(∃ tk g,σ.s 3 = .sl tk 5 0 (L.length + (k + 1)) none∧σ.m tk = some (.row g 53 (rowsL (L ++ mks (k + 1)))))∧σ.s 4 = iv k) ?_ ?_
      · have n1:=hw.ne mt 19 (σ.c 19) []
        have hmm : L.length + k + 1≤maxMade:=maxMade_le (by omega)
        have hmk : (mks k).length = k:=hml k
        have hle : L.length + k≤(rowsL (L ++ mks k)).length:=by rw [rowsL_len,List.length_append,hmk]; omega
        have htk : (rowsL (L ++ mks k)).take (L.length + k) = rowsL (L ++ mks k):=List.take_of_length_le (by rw [rowsL_len,List.length_append,hmk]; omega)
        have e1 : L ++ mks (k + 1) = (L ++ mks k) ++ [mk k]:=by rw [hms,List.append_assoc]
        rw [e1,rowsL_append]
        obtain ⟨X,hX⟩ : ∃ X,X = rowsL (L ++ mks k):=⟨_,rfl⟩
        rw [← hX] at mt hle htk ⊢
        simp [h0,h3,mt,h4,e73,n1,hmm,hle,htk,one_made,Row.cells]
        exact ⟨[21,σ.c 20],⟨rfl,by omega⟩,g,by simp [rowsL,Row.cells]⟩
      · clear hw h0 h3 mt h4 σ
        rintro σ ⟨h0,⟨tk,g,h3,mt⟩,h4⟩
        simp [h0,h3,mt,h4,hw1]
        exact ⟨⟨k + 1,by omega,⟨tk,⟨rfl,rfl⟩,g,mt⟩,rfl⟩,by omega⟩
    · obtain rfl : k = 12:=by omega
      refine wwp_off ?_
      simp [h0,h3,mt,h4]
  · clear h0 tk g h3 mt σ
    rintro σ ⟨h0,tk,g,h3,mt⟩
    have lz1 : (L.length : Int)≤(L.length : Int) + 12:=by omega
    simp [h0,h3,mt,hml,lz1]
    exact Out.row (t:=tk) (g:=g) (es:=rowsL (L ++ mks 12)) (by simp [mt]) (rowsL_flat _)
theorem c58 (L : List Row) (hl : L.length≤100000) : VCq Try.prog 58 [.list (rowsL L)] (.sl [] 5 0 L.length none) (rowMem 53 (rowsL (L ++ marksR 12))):=
  wcontract_q (Γ:=mkEnv [(73,S73)] [] []) (sound_mk (by simp [s73]) (by simp) (by simp)) mixed is58 (by rw [nt58]; simp) (c58w S73 (fun i=>markRow i) marksR rfl marksR_succ (fun i hi=>S73_at i (by omega)) L hl)
end Go.Proofs.Ytpmgaaalfdjikaa
namespace Go.Proofs.Ytpmgaaalfdjikaa
open Go.RowKit
set_option linter.unusedSimpArgs false
set_option linter.unusedVariables false
def frB (f : Nat) : Nat:=if f = 59 then 1 else frOf f
def W33 : WC × List VRes:=(.seq (.reg [.stm (.eff (.box 1 (.t 0)) none),.stm (.eff (.box 2 (.c (.agg [.v (.int .i64 0),.v (.int .i64 0),.v (.int .i64 0),.v (.int .i64 0),.v (.int .i64 0),.nil]))) none)]) (.seq (.reg [.set [(4,.ap (.load 1 false) [.ap (.fld 5) [.t 1]])] [3,4],.stm (.eff (.callq 5 58 [.t 4]) none),.set [(6,.ap (.fld 5) [.t 1])] [6],.stm (.eff (.store 1 (.t 6) (.t 5)) none)]) (.seq (.reg [.set [(7,.ap (.load 6 true) [.t 1])] [7],.stm (.eff (.store 6 (.t 2) (.t 7)) none)]) .ret)),[.cell 2 6 true])
theorem is33 : IsFn Try.prog frOf 33 Try.f33 W33:=⟨by kernel_rfl,by kernel_rfl,by kernel_rfl⟩
theorem nt33 : Try.f33.ntmps = 8:=by kernel_rfl
def W59 : WC × List VRes:=(.seq (.reg [.set [(4,.c .nil)] [4]]) (.seq (.reg [.set [(7,.ap (.call 64) [.t 0,.t 1])] [5,6,7],.stm (.eff (.lit 8 3 1 1 [.v (.int .i64 0)] [(0,1)] [.t 7]) none),.set [(4,.t 8)] [4]]) .ret),[.t 4])
theorem is59 : IsFn Try.prog frB 59 Try.f59 W59:=⟨by kernel_rfl,by kernel_rfl,by kernel_rfl⟩
theorem nt59 : Try.f59.ntmps = 9:=by kernel_rfl
def S58 : List D→Option (D × Mem)
  | [.list es]=>(asRows es).bind fun l=>if l.length≤100000 then some (.sl [] 5 0 l.length none,rowMem 53 (rowsL (l ++ marksR 12))) else none
  | _=>none
theorem s58 : OkQ 58 S58:=fun ds d mm h=>by
  unfold S58 at h
  split at h
  · rw [Option.bind_eq_some_iff] at h
    obtain ⟨l,hl,h⟩:=h
    split at h
    · rename_i hc
      cases h
      rw [asRows_eq hl]
      exact c58 l hc
    · cases h
  · cases h
theorem S58_at (l : List Row) (h : l.length≤100000) : S58 [.list (rowsL l)] = some (.sl [] 5 0 l.length none,rowMem 53 (rowsL (l ++ marksR 12))):=by
  simp only [S58,asRows_rowsL,Option.bind_some]
  rw [if_pos h]
def S42 : List D→Option (D × Mem)
  | [.list es]=>(asInts es).bind fun l=>if l.length≤100000 then some (.sl [] 1 0 l.length none,rowMem 3 (ints (l ++ marksI 12))) else none
  | _=>none
theorem s42 : OkQ 42 S42:=fun ds d mm h=>by
  unfold S42 at h
  split at h
  · rw [Option.bind_eq_some_iff] at h
    obtain ⟨l,hl,h⟩:=h
    split at h
    · rename_i hc
      cases h
      rw [asInts_eq hl]
      exact c42 l hc
    · cases h
  · cases h
theorem S42_at (l : List Int) (h : l.length≤100000) : S42 [.list (ints l)] = some (.sl [] 1 0 l.length none,rowMem 3 (ints (l ++ marksI 12))):=by
  simp only [S42,asInts_ints,Option.bind_some]
  rw [if_pos h]
theorem c33w (q58 : FQ) (m : Mv) (rs : List Row) (h58 : q58 [.list (rowsL m.rows)] = some (.sl [] 5 0 m.rows.length none,rowMem 53 (rowsL rs))) :
    wwp (mkEnv [] [(58,q58)] []) W33.1 (fun e s=>okExit e∧∃ d0,resV W33.2 s = some d0∧Out s d0 (.agg (m.cellsW (.sl [] 5 0 m.rows.length none))) (rowMem 53 (rowsL rs))) (initV [.agg m.cells]):=by
  simp [W33,Mv.cells,Mv.cellsW,h58]
  exact Out.aggRow (t:=[6,0]) (g:=[6,0,0]) (es:=rowsL rs) (pre:=[iv m.t,iv m.r,iv m.s,iv m.c,iv m.w]) rfl (by simp) (rowsL_flat _)
theorem c33 (m : Mv) (hl : m.rows.length≤100000) : VCq Try.prog 33 [.agg m.cells] (.agg (m.cellsW (.sl [] 5 0 m.rows.length none))) (rowMem 53 (rowsL (m.rows ++ marksR 12))):=
  wcontract_q (Γ:=mkEnv [] [(58,S58)] []) (sound_mk (by simp) (by simp [s58]) (by simp)) mixed is33 (by rw [nt33]; simp) (c33w S58 m _ (S58_at m.rows hl))
theorem c59w (p64 : FP) (i v : Int) (h64 : p64 [iv 1,iv i] = some (iv v)) :
    wwp (mkEnv [(64,p64)] [] []) W59.1 (fun e s=>okExit e∧∃ d0,resV W59.2 s = some d0∧Out s d0 (.sl [] 1 0 1 none) (rowMem 3 (ints [v]))) (initV [iv 1,iv i]):=by
  simp [W59,h64]
  exact Out.row (t:=[9,0]) (g:=[9,0]) (es:=ints [v]) (by simp [ints]) (ints_flat _)
theorem c59 (i : Nat) (hi : i≤1000000) : VCq Try.prog 59 [iv 1,iv i] (.sl [] 1 0 1 none) (rowMem 3 (ints [markI 1 i])):=
  wcontract_q (Γ:=mkEnv [(64,S64)] [] []) (sound_mk (by simp [s64]) (by simp) (by simp)) mixed is59 (by rw [nt59]; simp) (c59w S64 i _ (S64_at i hi))
end Go.Proofs.Ytpmgaaalfdjikaa
namespace Go.Proofs.Ytpmgaaalfdjikaa
open Go.RowKit
set_option linter.unusedSimpArgs false
set_option linter.unusedVariables false
def fewB (m : Mv) (Ls : List (List Int)) : Bool:=decide (m.rows.length≤60) && decide (Ls.length≤70) && Ls.all fun L=>decide (L.length≤50)
def FvA (m : Mv) (Ls : List (List Int)) (σ : St) : Prop:=σ.s 1 = .list (lists Ls)∧σ.s 2 = .ptr [3,0] 0∧σ.m [3,0] = some (.box [iv m.t,iv m.r,iv m.s,iv m.c,iv m.w,.list (rowsL m.rows)])
theorem c32 (m : Mv) (Ls : List (List Int)) : VCp Try.prog 32 [.agg m.cells,.list (lists Ls)] (bv (fewB m Ls)):=by
  refine wcontract_p sound0 mixed is32 (by rw [nt32]; simp) ?_ rfl
  simp only [W32]
  refine wwp_cutW (wf_init _) (FvA m Ls) (by simp [FvA,Mv.cells,Mv.cellsW]) ?_
  rintro σ W ⟨h1,h2,m3⟩
  by_cases hb : m.rows.length≤60∧Ls.length≤70
  · have hB : (decide ((60 : Int) < (m.rows.length : Int)) || decide ((70 : Int) < (Ls.length : Int))) = false:=by
      simp only [Bool.or_eq_false_iff,decide_eq_false_iff_not]; omega
    have i1 : (m.rows.length : Int)≤60:=by omega
    have i2 : (Ls.length : Int)≤70:=by omega
    refine wwp_condW W (FvA m Ls) (by simp [FvA,h1,h2,m3,hB,i1,i2]) ?_
    clear W h1 h2 m3 σ
    rintro σ W ⟨h1,h2,m3⟩
    refine wwp_cutG (fun σ=>fewB m Ls = true) ?_ (fun σ h=>by simp [h])
    refine wwp_cut (fun σ=>σ.s 16 = .list (lists Ls)∧σ.s 17 = iv Ls.length∧σ.s 18 = iv 0) (by simp [h1,h2,m3]) ?_
    clear W h1 h2 m3 σ
    rintro σ ⟨h16,h17,h18⟩
    simp only [wwp_block]
    refine wwp_loop (fun σ=>∃ k : Nat,k≤Ls.length∧σ.s 16 = .list (lists Ls)∧σ.s 17 = iv Ls.length∧σ.s 18 = iv k∧∀ i (h : i < Ls.length),i < k→Ls[i].length≤50) (fun σ=>cnt Ls.length (σ.s 18)) ?_ ?_
    · exact ⟨0,by omega,h16,h17,h18,fun i _ h=>absurd h (by omega)⟩
    clear h16 h17 h18 σ
    rintro σ W ⟨k,hk,h16,h17,h18,hok⟩
    by_cases hlt : k < Ls.length
    · have hw1:=wrap_succ (show k≤1000000000 by omega)
      have hmu : cnt Ls.length (σ.s 18) = Ls.length - k:=by simp [h18]
      simp only [hmu]
      clear hmu
      have hcl:=lists_at hlt
      obtain ⟨L,hL⟩ : ∃ L,L = Ls[k]:=⟨_,rfl⟩
      rw [← hL] at hcl
      refine wwp_on (fun σ=>σ.s 16 = .list (lists Ls)∧σ.s 17 = iv Ls.length∧σ.s 18 = iv k) (by simp [h16,h17,h18,hlt]) ?_
      clear W h16 h17 h18 σ
      rintro σ ⟨h16,h17,h18⟩
      refine wwp_body (fun σ=>σ.s 16 = .list (lists Ls)∧σ.s 17 = iv Ls.length∧σ.s 18 = iv k∧L.length≤50) ?_ ?_
      · by_cases h50 : L.length≤50
        · have i3 : ¬ (50 : Int) < (L.length : Int):=by omega
          have i4 : (L.length : Int)≤50:=by omega
          simp [h16,h17,h18,hlt,hcl,← hL,i3,i4,h50]
        · have hf : fewB m Ls = false:=by
            unfold fewB
            have : Ls.all (fun L=>decide (L.length≤50)) = false:=by
              rw [List.all_eq_false]
              exact ⟨L,by rw [hL]; exact List.getElem_mem hlt,by simpa using h50⟩
            rw [this,Bool.and_false]
          have i3 : (50 : Int) < (L.length : Int):=by omega
          simp [h16,h17,h18,hlt,hcl,← hL,i3,h50,hf]
      · clear h16 h17 h18 σ
        rintro σ ⟨h16,h17,h18,h50⟩
        simp [h16,h17,h18,hw1]
        refine ⟨⟨k + 1,by omega,rfl,fun i hi hik=>?_⟩,by omega⟩
        by_cases hik' : i < k
        · exact hok i hi hik'
        · obtain rfl : i = k:=by omega
          rw [← hL]; exact h50
    · refine wwp_off ?_
      have hf : fewB m Ls = true:=by
        unfold fewB
        rw [decide_eq_true hb.1,decide_eq_true hb.2,Bool.true_and,Bool.true_and,List.all_eq_true]
        intro L hL
        obtain ⟨i,hi,rfl⟩:=List.mem_iff_getElem.1 hL
        exact decide_eq_true (hok i hi (by omega))
      simp [h16,h17,h18,hlt,hf]
  · have hB : (decide ((60 : Int) < (m.rows.length : Int)) || decide ((70 : Int) < (Ls.length : Int))) = true:=by
      simp only [Bool.or_eq_true,decide_eq_true_eq]; omega
    have hf : fewB m Ls = false:=by
      unfold fewB
      have : (decide (m.rows.length≤60) && decide (Ls.length≤70)) = false:=by
        simp only [Bool.and_eq_false_iff,decide_eq_false_iff_not]; omega
      rw [this,Bool.false_and]
    simp [h1,h2,m3,hB,hf]
end Go.Proofs.Ytpmgaaalfdjikaa
namespace Go.Proofs.Ytpmgaaalfdjikaa
open Go.RowKit
set_option linter.unusedSimpArgs false
set_option linter.unusedVariables false
def W34 : WC × List VRes:=(.seq (.reg [.set [(2,.c .nil)] [2]]) (.seq (.reg [.set [(9,.ap (.ibin .add) [.ap .llen [.t 0],.c (.v (.int .i64 12))])] [7,8,9],.stm (.eff (.mks 10 34 1 [.nil] (.c (.v (.int .i64 0))) (.t 9)) none),.set [(3,.t 10)] [3]]) (.seq (.seq (.reg [.set [(4,.c (.v (.int .i64 0)))] [4]]) (.block 0 (.loop (.seq (.seq (.reg [.set [(14,.ap (.ibin .lss) [.t 4,.ap .llen [.t 0]])] [11,12,13,14]]) (.cond (.t 14) .skip (.exit 0))) (.seq (.block 1 (.seq (.reg [.set [(20,.ap (.load 1 false) [.ap (.idx 34 1) [.t 0,.t 4]])] [17,18,19,20],.stm (.eff (.callq 21 42 [.t 20]) none),.set [(5,.t 21)] [5]]) (.reg [.set [(22,.t 3),(23,.t 5)] [22,23],.stm (.eff (.lit 24 34 1 1 [.nil] [(0,1)] [.t 23]) none),.stm (.eff (.app 25 34 1 (.t 22) (.t 24)) none),.set [(3,.t 25)] [3]]))) (.reg [.set [(4,.ap (.ibin .add) [.t 4,.c (.v (.int .i64 1))])] [15,16,4]])))))) (.seq (.seq (.reg [.set [(6,.c (.v (.int .i64 0)))] [6]]) (.block 2 (.loop (.seq (.seq (.reg [.set [(27,.ap (.ibin .lss) [.t 6,.c (.v (.int .i64 12))])] [26,27]]) (.cond (.t 27) .skip (.exit 2))) (.seq (.block 3 (.reg [.set [(30,.t 3),(31,.t 6)] [30,31],.stm (.eff (.callq 32 59 [.c (.v (.int .i64 1)),.t 31]) none),.stm (.eff (.lit 33 34 1 1 [.nil] [(0,1)] [.t 32]) none),.stm (.eff (.app 34 34 1 (.t 30) (.t 33)) none),.set [(3,.t 34)] [3]])) (.reg [.set [(6,.ap (.ibin .add) [.t 6,.c (.v (.int .i64 1))])] [28,29,6]])))))) (.seq (.reg [.set [(2,.ap (.slc 1 false true false) [.t 3,.ap .llen [.t 0]])] [35,36,37,38,2]]) .ret)))),[.t 2])
theorem is34 : IsFn Try.prog frB 34 Try.f34 W34:=⟨by kernel_rfl,by kernel_rfl,by kernel_rfl⟩
theorem nt34 : Try.f34.ntmps = 39:=by kernel_rfl
def hdsL (tk : Nat→Tok) : Nat→List (List Int × Nat)→List (List D)
  | _,[]=>[]
  | j,p :: r=>[.sl (tk j) 1 0 p.2 none] :: hdsL tk (j + 1) r
theorem hdsL_len (tk : Nat→Tok) : ∀ (Fs : List (List Int × Nat)) (j : Nat),(hdsL tk j Fs).length = Fs.length
  | [],_=>rfl
  | _ :: Fs,j=>by simp [hdsL,hdsL_len tk Fs (j + 1)]
theorem hdsL_snoc (tk : Nat→Tok) (p : List Int × Nat) : ∀ (Fs : List (List Int × Nat)) (j : Nat),hdsL tk j (Fs ++ [p]) = hdsL tk j Fs ++ [[.sl (tk (j + Fs.length)) 1 0 p.2 none]]
  | [],j=>by simp [hdsL]
  | _ :: Fs,j=>by
    simp only [List.cons_append,hdsL,hdsL_snoc tk p Fs (j + 1),List.length_cons]
    rw [show j + 1 + Fs.length = j + (Fs.length + 1) by omega]
theorem hdsL_size (tk : Nat→Tok) : ∀ (Fs : List (List Int × Nat)) (j : Nat),∀ c ∈ hdsL tk j Fs,c.length = 1
  | [],_,c,h=>by simp [hdsL] at h
  | p :: Fs,j,c,h=>by
    simp only [hdsL,List.mem_cons] at h
    rcases h with rfl | h
    · rfl
    · exact hdsL_size tk Fs (j + 1) c h
@[simp] theorem hdsL_fa (tk : Nat→Tok) (j : Nat) (Fs : List (List Int × Nat)) : (∀ c,c ∈ hdsL tk j Fs→c.length = 1) = True:=by
  simp only [eq_iff_iff,iff_true]; exact hdsL_size tk Fs j
@[simp] theorem hdsL_ex (tk : Nat→Tok) (j : Nat) (Fs : List (List Int × Nat)) : (∃ c,c ∈ hdsL tk j Fs∧¬ c.length = 1) = False:=by
  simp only [eq_iff_iff,iff_false]; rintro ⟨c,h1,h2⟩; exact h2 (hdsL_size tk Fs j c h1)
theorem hdsL_at (tk : Nat→Tok) : ∀ (Fs : List (List Int × Nat)) (j k : Nat) (h : k < Fs.length),(hdsL tk j Fs)[k]? = some [.sl (tk (j + k)) 1 0 Fs[k].2 none]
  | p :: Fs,j,0,_=>by simp [hdsL]
  | p :: Fs,j,k + 1,h=>by
    have:=hdsL_at tk Fs (j + 1) k (by simpa using h)
    simp only [hdsL,List.getElem?_cons_succ,List.getElem_cons_succ]
    rw [this,show j + 1 + k = j + (k + 1) by omega]
theorem hdsL_ren (tk : Nat→Tok) (f : Tok→Tok) : ∀ (Fs : List (List Int × Nat)) (j : Nat),(hdsL tk j Fs).map (List.map (D.renC f)) = hdsL (fun j=>f (tk j)) j Fs
  | [],_=>rfl
  | p :: Fs,j=>by simp only [hdsL,List.map_cons,List.map_nil,D.renC,hdsL_ren tk f Fs (j + 1)]
def LsL (tk gr : Nat→Tok) (m : Mem) (j : Nat) (Fs : List (List Int × Nat)) : Prop:=∀ i p,Fs[i]? = some p→m (tk (j + i)) = some (.row (gr (j + i)) 3 (ints p.1))
theorem LsL.old {tk gr : Nat→Tok} {m m' : Mem} {Fs : List (List Int × Nat)} {j : Nat} (h : LsL tk gr m j Fs) (hm : ∀ i,i < Fs.length→∀ es,m (tk (j + i)) = some (.row (gr (j + i)) 3 es)→m' (tk (j + i)) = some (.row (gr (j + i)) 3 es)) : LsL tk gr m' j Fs:=
  fun i p hi=>hm i (List.getElem?_eq_some_iff.1 hi).1 _ (h i p hi)
theorem LsL.snoc {tk gr : Nat→Tok} {m : Mem} {Fs : List (List Int × Nat)} {j : Nat} (h : LsL tk gr m j Fs) {p : List Int × Nat} (hL : m (tk (j + Fs.length)) = some (.row (gr (j + Fs.length)) 3 (ints p.1))) : LsL tk gr m j (Fs ++ [p]):=fun i p' hi=>by
  by_cases hlt : i < Fs.length
  · rw [List.getElem?_append_left hlt] at hi; exact h i p' hi
  · have : i = Fs.length:=by
      have:=(List.getElem?_eq_some_iff.1 hi).1
      simp at this; omega
    subst this
    simp at hi
    subst hi
    exact hL
def lentMem (Fs : List (List Int × Nat)) : Mem:=fun t=>match t with
  | []=>some (.row [0] 34 (hdsL (fun j=>[j + 1]) 0 Fs))
  | [0]=>none
  | [k + 1]=>(Fs[k]?).map fun p=>.row [0,k] 3 (ints p.1)
  | _=>none
theorem lentMem_LsL (Fs : List (List Int × Nat)) : LsL (fun j=>[j + 1]) (fun j=>[0,j]) (lentMem Fs) 0 Fs:=fun i p hi=>by
  simp only [Nat.zero_add,lentMem,hi,Option.map_some]
theorem Out.lent {σ : St} {t g : Tok} {tk gr : Nat→Tok} {n : Nat} {Fs : List (List Int × Nat)} (h : σ.m t = some (.row g 34 (hdsL tk 0 Fs))) (hl : LsL tk gr σ.m 0 Fs) (ht : ∀ k,tk k ≠ t) (hi : ∀ j k,tk j = tk k→j = k) (hg : ∀ k,gr k ≠ g) (hgi : ∀ j k,gr j = gr k→j = k) :
    Out σ (.sl t 1 0 n none) (.sl [] 1 0 n none) (lentMem Fs):=by
  refine ⟨tableRen t g tk gr,rfl,rfl,fun s o ho=>?_,fun s s' o o' h1 h2 he=>?_⟩
  · unfold lentMem at ho
    split at ho
    · cases ho
      refine ⟨fun c hc d hd'=>?_,?_⟩
      · have : ∀ (Fs : List (List Int × Nat)) (j : Nat) (tk : Nat→Tok),∀ c ∈ hdsL tk j Fs,∀ d ∈ c,d.noFC = true:=by
          intro Fs
          induction Fs with
          | nil=>intro j tk c hc; simp [hdsL] at hc
          | cons L Fs ih=>
            intro j tk c hc d hd'
            simp only [hdsL,List.mem_cons] at hc
            rcases hc with rfl | hc
            · simp only [List.mem_singleton] at hd'
              subst hd'
              rfl
            · exact ih _ _ c hc d hd'
        exact this Fs 0 _ c hc d hd'
      · simp only [HO.ren,hdsL_ren,tableRen,h]
    · cases ho
    · rename_i k
      rw [Option.map_eq_some_iff] at ho
      obtain ⟨p,hp,rfl⟩:=ho
      refine ⟨fun c hc d hd'=>?_,?_⟩
      · obtain ⟨z,_,rfl⟩:=List.mem_map.1 hc
        simp only [List.mem_singleton] at hd'
        subst hd'
        rfl
      · have:=hl k p hp
        simp only [Nat.zero_add] at this
        simp only [HO.ren,ints_ren,tableRen,this]
    · cases ho
  · have dom : ∀ s o,lentMem Fs s = some o→(s = []∧(o.ren (tableRen t g tk gr)).grp = some g) ∨ ∃ k,s = [k + 1]∧(o.ren (tableRen t g tk gr)).grp = some (gr k):=fun s o ho=>by
      unfold lentMem at ho
      split at ho
      · cases ho
        exact .inl ⟨rfl,rfl⟩
      · cases ho
      · rename_i k
        rw [Option.map_eq_some_iff] at ho
        obtain ⟨p,hp,rfl⟩:=ho
        exact .inr ⟨k,rfl,rfl⟩
      · cases ho
    rcases dom s o h1 with ⟨rfl,g1⟩ | ⟨j,rfl,g1⟩ <;> rcases dom s' o' h2 with ⟨rfl,g2⟩ | ⟨k,rfl,g2⟩ <;> rw [g1,g2] at he
    · rcases he with he | ⟨_,he⟩
      · exact absurd he.symm (ht k)
      · exact absurd (Option.some.inj he).symm (hg k)
    · rcases he with he | ⟨_,he⟩
      · exact absurd he (ht j)
      · exact absurd (Option.some.inj he) (hg j)
    · rcases he with he | ⟨_,he⟩
      · rw [hi j k he]
      · rw [hgi j k (Option.some.inj he)]
def lT (n k : Nat) : Tok:=if k < n then [22,k] else [33,k - n]
def lG (n k : Nat) : Tok:=if k < n then [22,k,0] else [33,k - n,0]
theorem lT_lt {n k : Nat} (h : k < n) : lT n k = [22,k]:=if_pos h
theorem lG_lt {n k : Nat} (h : k < n) : lG n k = [22,k,0]:=if_pos h
theorem lT_ge {n k : Nat} (h : n≤k) : lT n k = [33,k - n]:=if_neg (by omega)
theorem lG_ge {n k : Nat} (h : n≤k) : lG n k = [33,k - n,0]:=if_neg (by omega)
theorem lT_inj (n j k : Nat) (h : lT n j = lT n k) : j = k:=by
  unfold lT at h
  split at h <;> split at h <;> simp at h <;> omega
theorem lG_inj (n j k : Nat) (h : lG n j = lG n k) : j = k:=by
  unfold lG at h
  split at h <;> split at h <;> simp at h <;> omega
def lentF (M : List Int) (Ls : List (List Int)) : List (List Int × Nat):=Ls.map fun L=>(L ++ M,L.length)
def lentE (mk : Nat→Int) (i : Nat) : List (List Int × Nat):=(List.range i).map fun i=>([mk i],1)
theorem lentE_succ (mk : Nat→Int) (i : Nat) : lentE mk (i + 1) = lentE mk i ++ [([mk i],1)]:=by simp [lentE,List.range_succ]
theorem lentE_len (mk : Nat→Int) (i : Nat) : (lentE mk i).length = i:=by simp [lentE]
theorem lentF_len (M : List Int) (Ls : List (List Int)) : (lentF M Ls).length = Ls.length:=by simp [lentF]
def oK (t : Tok) : Prop:=∃ a u,t = [a,u]∧(a = 11 ∨ a = 26 ∨ a = 35)
theorem oK.ne {t : Tok} (h : oK t) {b k : Nat} (hb : b ≠ 11∧b ≠ 26∧b ≠ 35) : ¬ t = [b,k]:=fun e=>by
  obtain ⟨a,u,rfl,h⟩:=h
  simp at e
  omega
theorem c34w (q42 q59 : FQ) (mk : Nat→Int) (M : List Int) (Ls : List (List Int)) (hl : Ls.length≤1000) (h42 : ∀ k (h : k < Ls.length),q42 [.list (ints Ls[k])] = some (.sl [] 1 0 Ls[k].length none,rowMem 3 (ints (Ls[k] ++ M))))
    (h59 : ∀ i : Nat,i < 12→q59 [iv 1,iv i] = some (.sl [] 1 0 1 none,rowMem 3 (ints [mk i]))) :
    wwp (mkEnv [] [(42,q42),(59,q59)] []) W34.1 (fun e s=>okExit e∧∃ d0,resV W34.2 s = some d0∧Out s d0 (.sl [] 1 0 Ls.length none) (lentMem (lentF M Ls ++ lentE mk 12))) (initV [.list (lists Ls)]):=by
  obtain ⟨n,hn⟩ : ∃ n,n = Ls.length:=⟨_,rfl⟩
  rw [← hn] at hl
  obtain ⟨N,hN,hNm⟩ : ∃ N : Nat,N = n + 12∧N≤maxMade:=⟨_,rfl,maxMade_le (by omega)⟩
  have w1 : IntKind.i64.wrap ((n : Int) + 12) = (N : Int):=by rw [wrap_in (by omega) (by omega)]; omega
  simp only [W34]
  refine wwp_cut (fun σ=>σ.s 0 = .list (lists Ls)∧∀ y,σ.c y = 0) (by simp) ?_
  rintro σ ⟨h0,hc⟩
  have k10:=hc 10
  have k21:=hc 21
  have k32:=hc 32
  refine wwp_cut (fun σ=>σ.s 0 = .list (lists Ls)∧σ.s 3 = .sl [11,0] 1 0 0 none∧σ.m [11,0] = some (.row [11,0] 34 [])∧σ.c 21 = 0∧σ.c 32 = 0) (by simp [h0,k10,k21,k32,w1,hNm,← hn]) ?_
  clear h0 hc k10 k21 k32 σ
  rintro σ ⟨h0,h3,m11,k21,k32⟩
  refine wwp_cutG (fun σ=>σ.s 0 = .list (lists Ls)∧(∃ ot,oK ot∧σ.s 3 = .sl ot 1 0 n none∧σ.m ot = some (.row [11,0] 34 (hdsL (lT n) 0 (lentF M Ls))))∧LsL (lT n) (lG n) σ.m 0 (lentF M Ls)∧σ.c 32 = 0) ?_ ?_
  · refine wwp_cut (fun σ=>σ.s 0 = .list (lists Ls)∧σ.s 3 = .sl [11,0] 1 0 0 none∧σ.m [11,0] = some (.row [11,0] 34 [])∧σ.c 21 = 0∧σ.c 32 = 0∧σ.s 4 = iv 0) (by simp [h0,h3,m11,k21,k32]) ?_
    clear h0 h3 m11 k21 k32 σ
    rintro σ ⟨h0,h3,m11,k21,k32,h4⟩
    simp only [wwp_block]
    refine wwp_loop (fun σ=>∃ k : Nat,k≤n∧σ.s 0 = .list (lists Ls)∧(∃ ot,oK ot∧σ.s 3 = .sl ot 1 0 k none∧σ.m ot = some (.row [11,0] 34 (hdsL (lT n) 0 (lentF M (Ls.take k)))))∧LsL (lT n) (lG n) σ.m 0 (lentF M (Ls.take k))∧σ.c 32 = 0∧σ.c 21 = k∧σ.s 4 = iv k) (fun σ=>cnt n (σ.s 4)) ?_ ?_
    · exact ⟨0,by omega,h0,⟨[11,0],⟨11,0,rfl,.inl rfl⟩,h3,by simpa [lentF,hdsL] using m11⟩,fun i p h=>by simp [lentF] at h,k32,k21,h4⟩
    clear h0 h3 m11 k21 k32 h4 σ
    rintro σ hw ⟨k,hk,h0,⟨ot,hot,h3,mt⟩,hls,k32,k21,h4⟩
    refine wwp_seq_assoc ?_
    by_cases hlt : k < n
    · have hlL : k < Ls.length:=by omega
      have hw1:=wrap_succ (show k≤1000000000 by omega)
      have hmu : cnt n (σ.s 4) = n - k:=by simp [h4]
      simp only [hmu]
      clear hmu
      have hcl:=lists_at hlL
      have e42:=h42 k hlL
      have htk : lentF M (Ls.take (k + 1)) = lentF M (Ls.take k) ++ [(Ls[k] ++ M,Ls[k].length)]:=by unfold lentF; rw [List.take_succ_eq_append_getElem hlL,List.map_append]; rfl
      obtain ⟨L,hL⟩ : ∃ L,L = Ls[k]:=⟨_,rfl⟩
      rw [← hL] at hcl e42 htk
      have hAl : (lentF M (Ls.take k)).length = k:=by rw [lentF_len,List.length_take]; omega
      obtain ⟨A,hA⟩ : ∃ A,A = lentF M (Ls.take k):=⟨_,rfl⟩
      rw [← hA] at hAl htk mt hls
      have hlz : (k : Int) < n:=by omega
      refine wwp_on (fun σ=>WF σ∧σ.s 0 = .list (lists Ls)∧(σ.s 3 = .sl ot 1 0 k none∧σ.m ot = some (.row [11,0] 34 (hdsL (lT n) 0 A)))∧LsL (lT n) (lG n) σ.m 0 A∧σ.c 32 = 0∧σ.c 21 = k∧σ.s 4 = iv k) (by simp [h0,h3,mt,k32,k21,h4,← hn,hlt,hlz]; exact ⟨hw,hls⟩) ?_
      clear hw h0 h3 mt hls k32 k21 h4 σ
      rintro σ ⟨hw,h0,⟨h3,mt⟩,hls,k32,k21,h4⟩
      refine wwp_body (fun σ=>σ.s 0 = .list (lists Ls)∧(∃ ot,oK ot∧σ.s 3 = .sl ot 1 0 (k + 1) none∧σ.m ot = some (.row [11,0] 34 (hdsL (lT n) 0 (lentF M (Ls.take (k + 1))))))∧LsL (lT n) (lG n) σ.m 0 (lentF M (Ls.take (k + 1)))∧σ.c 32 = 0∧σ.c 21 = k + 1∧σ.s 4 = iv k) ?_ ?_
      · have hmm : k + 1≤maxMade:=maxMade_le (by omega)
        have hfl:=hdsL_len (lT n) A 0
        rw [hAl] at hfl
        obtain ⟨a,v,rfl,ha⟩:=hot
        have n22 : ¬ a = 22:=by omega
        have n25 : ¬ a = 25:=by omega
        have tk : (hdsL (lT n) 0 A).take k = hdsL (lT n) 0 A:=List.take_of_length_le (by omega)
        have hcl' : (lists Ls)[k]? = some [D.list (ints L)]:=hcl
        rw [htk,hdsL_snoc,hAl,Nat.zero_add,lT_lt hlt]
        have oa:=fun i (hi : i < A.length) es (h : σ.m (lT n (0 + i)) = some (.row (lG n (0 + i)) 3 es))=>h
        have lsK : ∀ m' : Mem,(∀ u es,u < k→σ.m [22,u] = some (.row [22,u,0] 3 es)→m' [22,u] = some (.row [22,u,0] 3 es))→LsL (lT n) (lG n) m' 0 A:=fun m' H=>hls.old fun i hi es h=>by
          rw [hAl] at hi
          rw [Nat.zero_add,lT_lt (by omega),lG_lt (by omega)] at h ⊢
          exact H i es hi h
        obtain ⟨X,hX⟩ : ∃ X,X = hdsL (lT n) 0 A:=⟨_,rfl⟩
        have hXf : (∃ c,c ∈ X∧¬ c.length = 1) = False:=by rw [hX]; exact hdsL_ex _ _ _
        rw [← hX] at mt hfl tk ⊢
        simp [h0,h3,mt,k32,k21,h4,hlL,← hn,hlt,hcl,← hL,e42,hmm,hfl,tk,one_made,n22,n25]
        refine ⟨⟨[26,σ.c 25],⟨⟨26,σ.c 25,rfl,.inr (.inl rfl)⟩,by simp⟩⟩,(lsK _ fun u es hu h=>by
          have : ¬ u = k:=by omega
          simp [h,this,k21]).snoc ?_⟩
        rw [hAl,Nat.zero_add,lT_lt hlt,lG_lt hlt]
        simp [k21]
      · clear hw h0 h3 mt hls k32 k21 h4 σ
        rintro σ ⟨h0,⟨ot,hot,h3,mt⟩,hls,k32,k21,h4⟩
        simp [h0,h3,k32,k21,h4,hw1]
        exact ⟨⟨k + 1,by omega,⟨ot,hot,⟨rfl,rfl⟩,mt⟩,hls,rfl,rfl⟩,by omega⟩
    · obtain rfl : k = n:=by omega
      rw [show Ls.take k = Ls by rw [hn]; exact List.take_length] at mt hls
      refine wwp_off ?_
      simp [h0,h3,k32,h4,← hn]
      exact ⟨⟨ot,hot,rfl,mt⟩,hls⟩
  clear h0 h3 m11 k21 k32 σ
  rintro σ ⟨h0,⟨ot,hot,h3,mt⟩,hls,k32⟩
  refine wwp_cutG (fun σ=>σ.s 0 = .list (lists Ls)∧(∃ ot,oK ot∧σ.s 3 = .sl ot 1 0 (n + 12) none∧σ.m ot = some (.row [11,0] 34 (hdsL (lT n) 0 (lentF M Ls ++ lentE mk 12))))∧LsL (lT n) (lG n) σ.m 0 (lentF M Ls ++ lentE mk 12)) ?_ ?_
  · refine wwp_cut (fun σ=>σ.s 0 = .list (lists Ls)∧(σ.s 3 = .sl ot 1 0 n none∧σ.m ot = some (.row [11,0] 34 (hdsL (lT n) 0 (lentF M Ls))))∧LsL (lT n) (lG n) σ.m 0 (lentF M Ls)∧σ.c 32 = 0∧σ.s 6 = iv 0) (by simp [h0,h3,mt,k32]; exact hls) ?_
    clear h0 h3 mt hls k32 σ
    rintro σ ⟨h0,⟨h3,mt⟩,hls,k32,h6⟩
    simp only [wwp_block]
    refine wwp_loop (fun σ=>∃ k : Nat,k≤12∧σ.s 0 = .list (lists Ls)∧(∃ ot,oK ot∧σ.s 3 = .sl ot 1 0 (n + k) none∧σ.m ot = some (.row [11,0] 34 (hdsL (lT n) 0 (lentF M Ls ++ lentE mk k))))∧LsL (lT n) (lG n) σ.m 0 (lentF M Ls ++ lentE mk k)∧σ.c 32 = k∧σ.s 6 = iv k) (fun σ=>cnt 12 (σ.s 6)) ?_ ?_
    · exact ⟨0,by omega,h0,⟨ot,hot,h3,by simpa [lentE] using mt⟩,by simpa [lentE] using hls,k32,h6⟩
    clear h0 h3 mt hls k32 h6 hot ot σ
    rintro σ hw ⟨k,hk,h0,⟨ot,hot,h3,mt⟩,hls,k32,h6⟩
    refine wwp_seq_assoc ?_
    by_cases hlt : k < 12
    · have hw1:=wrap_succ (show k≤1000000000 by omega)
      have hmu : cnt 12 (σ.s 6) = 12 - k:=by simp [h6]
      simp only [hmu]
      clear hmu
      have e59:=h59 k hlt
      have htk : lentF M Ls ++ lentE mk (k + 1) = (lentF M Ls ++ lentE mk k) ++ [([mk k],1)]:=by rw [lentE_succ,List.append_assoc]
      have hAl : (lentF M Ls ++ lentE mk k).length = n + k:=by rw [List.length_append,lentF_len,lentE_len]; omega
      obtain ⟨A,hA⟩ : ∃ A,A = lentF M Ls ++ lentE mk k:=⟨_,rfl⟩
      rw [← hA] at hAl htk mt hls
      have hlz : (k : Int) < 12:=by omega
      refine wwp_on (fun σ=>WF σ∧σ.s 0 = .list (lists Ls)∧(σ.s 3 = .sl ot 1 0 (n + k) none∧σ.m ot = some (.row [11,0] 34 (hdsL (lT n) 0 A)))∧LsL (lT n) (lG n) σ.m 0 A∧σ.c 32 = k∧σ.s 6 = iv k) (by simp [h0,h3,mt,k32,h6,hlt,hlz]; exact ⟨hw,hls⟩) ?_
      clear hw h0 h3 mt hls k32 h6 σ
      rintro σ ⟨hw,h0,⟨h3,mt⟩,hls,k32,h6⟩
      refine wwp_body (fun σ=>σ.s 0 = .list (lists Ls)∧(∃ ot,oK ot∧σ.s 3 = .sl ot 1 0 (n + (k + 1)) none∧σ.m ot = some (.row [11,0] 34 (hdsL (lT n) 0 (lentF M Ls ++ lentE mk (k + 1)))))∧LsL (lT n) (lG n) σ.m 0 (lentF M Ls ++ lentE mk (k + 1))∧σ.c 32 = k + 1∧σ.s 6 = iv k) ?_ ?_
      · have hmm : n + k + 1≤maxMade:=maxMade_le (by omega)
        have hfl:=hdsL_len (lT n) A 0
        rw [hAl] at hfl
        obtain ⟨a,v,rfl,ha⟩:=hot
        have n33 : ¬ a = 33:=by omega
        have n34 : ¬ a = 34:=by omega
        have tk : (hdsL (lT n) 0 A).take (n + k) = hdsL (lT n) 0 A:=List.take_of_length_le (by omega)
        have eT : lT n (n + k) = [33,k]:=by rw [lT_ge (by omega)]; congr 2; omega
        have eG : lG n (n + k) = [33,k,0]:=by rw [lG_ge (by omega)]; congr 2; omega
        rw [htk,hdsL_snoc,hAl,Nat.zero_add,eT]
        have lsK : ∀ m' : Mem,(∀ u es,σ.m [22,u] = some (.row [22,u,0] 3 es)→m' [22,u] = some (.row [22,u,0] 3 es))→(∀ u es,u < k→σ.m [33,u] = some (.row [33,u,0] 3 es)→m' [33,u] = some (.row [33,u,0] 3 es))→LsL (lT n) (lG n) m' 0 A:=fun m' H1 H2=>hls.old fun i hi es h=>by
          rw [hAl] at hi
          rw [Nat.zero_add] at h ⊢
          by_cases hin : i < n
          · rw [lT_lt hin,lG_lt hin] at h ⊢
            exact H1 i es h
          · rw [lT_ge (by omega),lG_ge (by omega)] at h ⊢
            exact H2 (i - n) es (by omega) h
        obtain ⟨X,hX⟩ : ∃ X,X = hdsL (lT n) 0 A:=⟨_,rfl⟩
        rw [← hX] at mt hfl tk ⊢
        simp [h0,h3,mt,k32,h6,hlt,hlz,e59,hmm,hfl,tk,one_made,n33,n34]
        refine ⟨⟨[35,σ.c 34],⟨⟨35,σ.c 34,rfl,.inr (.inr rfl)⟩,⟨rfl,by omega⟩,by simp⟩⟩,(lsK _ (fun u es h=>by simp [h]) fun u es hu h=>by
          have : ¬ u = k:=by omega
          simp [h,this,k32]).snoc ?_⟩
        rw [hAl,Nat.zero_add,eT,eG]
        simp [k32]
      · clear hw h0 h3 mt hls k32 h6 hot ot σ
        rintro σ ⟨h0,⟨ot,hot,h3,mt⟩,hls,k32,h6⟩
        simp [h0,h3,k32,h6,hw1]
        exact ⟨⟨k + 1,by omega,⟨ot,hot,⟨rfl,rfl⟩,mt⟩,hls,rfl,by simp⟩,by omega⟩
    · obtain rfl : k = 12:=by omega
      refine wwp_off ?_
      simp [h0,h3,h6]
      exact ⟨⟨ot,hot,rfl,mt⟩,hls⟩
  · clear h0 h3 mt hls k32 hot ot σ
    rintro σ ⟨h0,⟨ot,hot,h3,mt⟩,hls⟩
    have lz1 : (n : Int)≤(n : Int) + 12:=by omega
    simp [h0,h3,lz1,← hn]
    refine Out.lent (g:=[11,0]) (tk:=lT n) (gr:=lG n) (by simpa using mt) (by simpa [LsL] using hls) (fun k e=>?_) (lT_inj n) (fun k e=>?_) (lG_inj n)
    · unfold lT at e; split at e
      · exact hot.ne (by omega) e.symm
      · exact hot.ne (by omega) e.symm
    · unfold lG at e; split at e <;> simp at e
def S59 : List D→Option (D × Mem)
  | [.v (.int .i64 1),.v (.int .i64 i)]=>if 0≤i∧i≤1000000 then some (.sl [] 1 0 1 none,rowMem 3 (ints [markI 1 i])) else none
  | _=>none
theorem s59 : OkQ 59 S59:=fun ds d mm h=>by
  unfold S59 at h
  split at h
  · split at h
    · rename_i i hc
      cases h
      obtain ⟨k,rfl⟩ : ∃ k : Nat,i = k:=⟨i.toNat,by omega⟩
      exact c59 k (by omega)
    · cases h
  · cases h
theorem S59_at (i : Nat) (h : i≤1000000) : S59 [iv 1,iv i] = some (.sl [] 1 0 1 none,rowMem 3 (ints [markI 1 i])):=by
  simp only [S59]
  rw [if_pos ⟨by omega,by omega⟩]
def lentL (Ls : List (List Int)) : List (List Int × Nat):=lentF (marksI 12) Ls ++ lentE (fun i=>markI 1 i) 12
theorem c34 (Ls : List (List Int)) (hl : Ls.length≤1000) (hL : ∀ L ∈ Ls,L.length≤100000) : VCq Try.prog 34 [.list (lists Ls)] (.sl [] 1 0 Ls.length none) (lentMem (lentL Ls)):=
  wcontract_q (Γ:=mkEnv [] [(42,S42),(59,S59)] []) (sound_mk (by simp) (by simp [s42,s59]) (by simp)) mixed is34 (by rw [nt34]; simp) (c34w S42 S59 (fun i=>markI 1 i) (marksI 12) Ls hl (fun k h=>S42_at _ (hL _ (List.getElem_mem h))) (fun i hi=>S59_at i (by omega)))
end Go.Proofs.Ytpmgaaalfdjikaa
namespace Go.Proofs.Ytpmgaaalfdjikaa
open Go.RowKit
set_option linter.unusedSimpArgs false
set_option linter.unusedVariables false
def W50 : WC × List VRes:=(.seq (.reg [.set [(4,.c (.v (.bool false)))] [4]]) (.seq (.seq (.reg [.set [(11,.ap (.ibin .neq) [.ap .llen [.t 0],.ap .llen [.t 1]])] [7,8,9,10,11]]) (.cond (.t 11) (.seq (.reg [.set [(4,.c (.v (.bool false)))] [4]]) .ret) .skip)) (.seq (.reg [.set [(5,.ap (.slc 1 false true false) [.t 0,.ap (.ibin .add) [.ap .llen [.t 1],.c (.v (.int .i64 12))]])] [12,13,14,15,16,5]]) (.seq (.seq (.reg [.set [(6,.c (.v (.int .i64 0)))] [6]]) (.block 0 (.loop (.seq (.seq (.reg [.set [(20,.ap (.ibin .lss) [.t 6,.ap .llen [.t 5]])] [17,18,19,20]]) (.cond (.t 20) .skip (.exit 0))) (.seq (.block 1 (.seq (.reg [.set [(57,.ite (.ite (.ap (.ibin .lss) [.t 6,.ap .llen [.t 1]]) (.ap .inot [.ap (.ibin .eql) [.ap (.load 1 false) [.ap (.idx 3 1) [.t 5,.t 6]],.ap (.load 1 false) [.ap (.idx 3 1) [.t 1,.t 6]]]]) (.c (.v (.bool false)))) (.c (.v (.bool true))) (.ite (.ap (.ibin .geq) [.t 6,.ap .llen [.t 1]]) (.ap .inot [.ap (.ibin .eql) [.ap (.load 1 false) [.ap (.idx 3 1) [.t 5,.t 6]],.ap (.call 64) [.c (.v (.int .i64 1)),.ap (.ibin .sub) [.t 6,.ap .llen [.t 1]]]]]) (.c (.v (.bool false)))))] [23,24,25,26,27,28,29,30,31,32,33,34,35,36,37,38,39,40,41,42,43,44,45,46,47,48,49,50,51,52,53,54,55,56,57]]) (.cond (.t 57) (.seq (.reg [.set [(4,.c (.v (.bool false)))] [4]]) .ret) .skip))) (.reg [.set [(6,.ap (.ibin .add) [.t 6,.c (.v (.int .i64 1))])] [21,22,6]])))))) (.seq (.reg [.set [(4,.c (.v (.bool true)))] [4]]) .ret)))),[.t 4])
theorem is50 : IsFn Try.prog frOf 50 Try.f50 W50:=⟨by kernel_rfl,by kernel_rfl,by kernel_rfl⟩
theorem nt50 : Try.f50.ntmps = 58:=by kernel_rfl
def W61 : WC × List VRes:=(.seq (.reg [.set [(4,.c (.v (.bool false)))] [4]]) (.seq (.seq (.reg [.set [(11,.ap (.ibin .neq) [.ap .llen [.t 0],.ap .llen [.t 1]])] [7,8,9,10,11]]) (.cond (.t 11) (.seq (.reg [.set [(4,.c (.v (.bool false)))] [4]]) .ret) .skip)) (.seq (.reg [.set [(5,.ap (.slc 5 false true false) [.t 0,.ap (.ibin .add) [.ap .llen [.t 1],.c (.v (.int .i64 12))]])] [12,13,14,15,16,5]]) (.seq (.seq (.reg [.set [(6,.c (.v (.int .i64 0)))] [6]]) (.block 0 (.loop (.seq (.seq (.reg [.set [(20,.ap (.ibin .lss) [.t 6,.ap .llen [.t 5]])] [17,18,19,20]]) (.cond (.t 20) .skip (.exit 0))) (.seq (.block 1 (.seq (.reg [.set [(57,.ite (.ite (.ap (.ibin .lss) [.t 6,.ap .llen [.t 1]]) (.ap .inot [.ap (.aeq false [3,3,3,3,3]) [.ap (.load 5 true) [.ap (.idx 53 5) [.t 5,.t 6]],.ap (.load 5 true) [.ap (.idx 53 5) [.t 1,.t 6]]]]) (.c (.v (.bool false)))) (.c (.v (.bool true))) (.ite (.ap (.ibin .geq) [.t 6,.ap .llen [.t 1]]) (.ap .inot [.ap (.aeq false [3,3,3,3,3]) [.ap (.load 5 true) [.ap (.idx 53 5) [.t 5,.t 6]],.ap (.call 73) [.c (.v (.int .i64 1)),.ap (.ibin .sub) [.t 6,.ap .llen [.t 1]]]]]) (.c (.v (.bool false)))))] [23,24,25,26,27,28,29,30,31,32,33,34,35,36,37,38,39,40,41,42,43,44,45,46,47,48,49,50,51,52,53,54,55,56,57]]) (.cond (.t 57) (.seq (.reg [.set [(4,.c (.v (.bool false)))] [4]]) .ret) .skip))) (.reg [.set [(6,.ap (.ibin .add) [.t 6,.c (.v (.int .i64 1))])] [21,22,6]])))))) (.seq (.reg [.set [(4,.c (.v (.bool true)))] [4]]) .ret)))),[.t 4])
theorem is61 : IsFn Try.prog frOf 61 Try.f61 W61:=⟨by kernel_rfl,by kernel_rfl,by kernel_rfl⟩
theorem nt61 : Try.f61.ntmps = 58:=by kernel_rfl
abbrev FM:=Mem→List D→Option (D × Mem)
theorem D.renC_renC (f g : Tok→Tok) (d : D) : (d.renC f).renC g = d.renC fun t=>g (f t):=by cases d <;> rfl
theorem D.renA_renA (f g : Tok→Tok) (d : D) : (d.renA f).renA g = d.renA fun t=>g (f t):=by
  cases d
  case agg xs=>simp only [D.renA,List.map_map]; congr 2; funext d; exact D.renC_renC f g d
  case clo h xs=>simp only [D.renA,List.map_map]; congr 2; funext d; exact D.renC_renC f g d
  all_goals rfl
theorem HO.ren_ren (f g : Tok→Tok) (o : HO) : (o.ren f).ren g = o.ren fun t=>g (f t):=by
  cases o with
  | box xs=>simp only [HO.ren,List.map_map]; congr 2; funext d; exact D.renC_renC f g d
  | row u e es=>
    simp only [HO.ren,List.map_map]
    congr 2
    funext c
    simp only [Function.comp_def,List.map_map]
    congr 1
    funext d
    exact D.renC_renC f g d
  | map es=>
    simp only [HO.ren,List.map_map]
    congr 2
    funext p
    simp only [Function.comp_def,D.renA_renA]
  | iter t n seen=>rfl
theorem upM_up (m : Mem) (t : Tok) : upM m (0 :: t) = (m t).map (HO.ren up):=rfl
theorem upM_dom {m : Mem} {t : Tok} {o : HO} (h : upM m t = some o) : ∃ r q,t = 0 :: r∧m r = some q∧o = q.ren up:=by
  match t,h with
  | [],h=>cases h
  | 0 :: r,h=>obtain ⟨q,hq,rfl⟩:=Option.map_eq_some_iff.1 h; exact ⟨r,q,rfl,hq,rfl⟩
  | (_ + 1) :: _,h=>cases h
theorem adoptM_keep {σ : St} (W : WF σ) {t : Tok} {o : HO} (h : σ.m t = some o) (x : Nat) (d : D) : (σ.adoptM x d (upM σ.m)).m t = some (o.ren fun t=>t):=by
  have e1 : ((upM σ.m (0 :: t)).map (HO.ren (dnTok x (σ.c x)))) = some (o.ren fun t=>t):=by
    rw [upM_up,h,Option.map_some,Option.map_some,HO.ren_ren]
    rfl
  have e2 : keepOld (σ.m t) ((upM σ.m (0 :: t)).map (HO.ren (dnTok x (σ.c x)))) = some (o.ren fun t=>t):=by rw [e1,h]; rfl
  match t,h,e2 with
  | [],_,e2=>exact e2
  | [_],_,e2=>exact e2
  | a :: b :: r,h,e2=>
    show (if a = x + 1∧b = σ.c x then _ else _) = _
    by_cases hab : a = x + 1∧b = σ.c x
    · obtain ⟨rfl,rfl⟩:=hab
      rw [W x (σ.c x) r (Nat.le_refl _)] at h
      cases h
    · rw [if_neg hab]; exact e2
theorem keepM_adoptM {σ : St} (W : WF σ) {m : Mem} (h : ∀ t o,upM m t = some o→σ.m t = some o) (x : Nat) (d : D) : ∀ t o,upM m t = some o→(σ.adoptM x d (upM σ.m)).m t = some o:=fun t o ho=>by
  have:=adoptM_keep W (h t o ho) x d
  obtain ⟨r,q,rfl,hq,rfl⟩:=upM_dom ho
  rw [this,HO.ren_ren]
def KpR (m : Mem) (t : Tok) (L : List Row) (σ : St) : Prop:=σ.s 0 = .sl (0 :: t) 5 0 L.length none∧σ.s 1 = .list (rowsL L)∧σ.m = upM m
theorem c61w (p73 : FP) (mk : Nat→Row) (m : Mem) (t g : Tok) (L E : List Row) (hm : m t = some (.row g 53 (rowsL (L ++ E)))) (hE : E.length = 12) (hEk : ∀ i (h : i < E.length),E[i] = mk i)
    (h73 : ∀ i : Nat,i < 12→p73 [iv 1,iv i] = some (.agg (mk i).cells)) (hl : L.length≤100000) :
    wwp (mkEnv [(73,p73)] [] []) W61.1 (fun e s=>okExit e∧resV W61.2 s = some (bv true)∧s.m = upM m) (initM m [.sl t 5 0 L.length none,.list (rowsL L)]):=by
  obtain ⟨n,hn⟩ : ∃ n,n = L.length:=⟨_,rfl⟩
  have hmu : upM m (0 :: t) = some (.row (0 :: g) 53 (rowsL (L ++ E))):=by rw [upM_up,hm]; simp
  have hlen : (rowsL (L ++ E)).length = n + 12:=by simp [hE,hn]
  have hat : ∀ i (h : i < (L ++ E).length),(rowsL (L ++ E))[i]? = some (L ++ E)[i].cells:=fun i h=>rowsL_at h
  obtain ⟨X,hX⟩ : ∃ X,X = rowsL (L ++ E):=⟨_,rfl⟩
  have hXs : X.all (fun c=>c.length == 5) = true:=by rw [hX]; exact rowsL_size _
  rw [← hX] at hmu hlen hat
  have w1 : IntKind.i64.wrap ((n : Int) + 12) = (n : Int) + 12:=wrap_in (by omega) (by omega)
  simp only [W61]
  refine wwp_cut (KpR m t L) (by simp [KpR]; rfl) ?_
  rintro σ ⟨h0,h1,hM⟩
  have hmt : σ.m (0 :: t) = some (.row (0 :: g) 53 X):=by rw [hM]; exact hmu
  rw [← hn] at h0
  refine wwp_cutG (KpR m t L) (by simp [KpR,h0,h1,hM,← hn]) ?_
  clear h0 h1 hM hmt σ
  rintro σ ⟨h0,h1,hM⟩
  have hmt : σ.m (0 :: t) = some (.row (0 :: g) 53 X):=by rw [hM]; exact hmu
  rw [← hn] at h0
  have z1 : ((n : Int) + 12).toNat = n + 12:=by omega
  have z2 : (0 : Int)≤(n : Int) + 12:=by omega
  have z3 : ¬ (n : Int) + 12≤n:=by omega
  refine wwp_cut (fun σ=>KpR m t L σ∧σ.s 5 = .sl (0 :: t) 5 0 (n + 12) none) (by simp [KpR,h0,h1,hmt,← hn,w1,z1,z2,z3,roomV,hlen]; exact hM) ?_
  clear h0 h1 hM hmt σ
  rintro σ ⟨hK,h5⟩
  refine wwp_cutG (fun σ=>σ.m = upM m) ?_ (fun σ h=>by simp [h])
  refine wwp_cut (fun σ=>KpR m t L σ∧σ.s 5 = .sl (0 :: t) 5 0 (n + 12) none∧σ.s 6 = iv 0) (by obtain ⟨h0,h1,hM⟩:=hK; simp [KpR,h0,h1,hM,h5]) ?_
  clear hK h5 σ
  rintro σ ⟨hK,h5,h6⟩
  simp only [wwp_block]
  refine wwp_loop (fun σ=>∃ k : Nat,k≤n + 12∧KpR m t L σ∧σ.s 5 = .sl (0 :: t) 5 0 (n + 12) none∧σ.s 6 = iv k) (fun σ=>cnt (n + 12) (σ.s 6)) ?_ ?_
  · exact ⟨0,by omega,hK,h5,h6⟩
  clear hK h5 h6 σ
  rintro σ hw ⟨k,hk,⟨h0,h1,hM⟩,h5,h6⟩
  have hmt : σ.m (0 :: t) = some (.row (0 :: g) 53 X):=by rw [hM]; exact hmu
  rw [← hn] at h0
  refine wwp_seq_assoc ?_
  by_cases hlt : k < n + 12
  · have hw1:=wrap_succ (show k≤1000000000 by omega)
    have hmuc : cnt (n + 12) (σ.s 6) = n + 12 - k:=by simp [h6]
    simp only [hmuc]
    clear hmuc
    have hlz : (k : Int) < (n : Int) + 12:=by omega
    refine wwp_on (fun σ=>KpR m t L σ∧σ.s 5 = .sl (0 :: t) 5 0 (n + 12) none∧σ.s 6 = iv k) (by simp [KpR,h0,h1,hM,h5,h6,← hn,hlt,hlz]) ?_
    clear hw h0 h1 hM hmt h5 h6 σ
    rintro σ ⟨⟨h0,h1,hM⟩,h5,h6⟩
    have hmt : σ.m (0 :: t) = some (.row (0 :: g) 53 X):=by rw [hM]; exact hmu
    rw [← hn] at h0
    have hk2 : k < (L ++ E).length:=by rw [List.length_append]; omega
    have hxk:=hat k hk2
    have hkX : k < X.length:=by omega
    refine wwp_body (fun σ=>KpR m t L σ∧σ.s 5 = .sl (0 :: t) 5 0 (n + 12) none∧σ.s 6 = iv k) ?_ ?_
    · by_cases hkn : k < n
      · have hkL : k < L.length:=by omega
        rw [List.getElem_append_left hkL] at hxk
        have hyk:=rowsL_at hkL
        obtain ⟨x,hx⟩ : ∃ x,x = L[k]:=⟨_,rfl⟩
        rw [← hx] at hxk hyk
        have a1 : (k : Int) < n:=by omega
        have a2 : ¬ (n : Int)≤k:=by omega
        simp [KpR,h0,h1,hmt,h5,h6,← hn,hkn,hkL,hlt,hxk,hyk,a1,a2,Row.cells,← hx]
        exact hM
      · obtain ⟨i,hi⟩ : ∃ i,k = n + i:=⟨k - n,by omega⟩
        rw [List.getElem_append_right (by omega)] at hxk
        have hxk' : X[k]? = some (mk i).cells:=by
          rw [hxk,hEk,show k - L.length = i by omega]
        have e73:=h73 i (by omega)
        have a1 : ¬ (k : Int) < n:=by omega
        have a2 : (n : Int)≤(k : Int):=by omega
        have a3 : IntKind.i64.wrap ((k : Int) - n) = i:=by rw [wrap_in (by omega) (by omega)]; omega
        have a4 : n≤k:=by omega
        clear hxk
        obtain ⟨x,hx⟩ : ∃ x,x = mk i:=⟨_,rfl⟩
        rw [← hx] at hxk' e73
        simp [KpR,h0,h1,hmt,h5,h6,← hn,hlt,hxk',hkn,a1,a2,a3,a4,e73,Row.cells]
        exact hM
    · clear h0 h1 hM hmt h5 h6 σ
      rintro σ ⟨⟨h0,h1,hM⟩,h5,h6⟩
      simp [KpR,h0,h1,hM,h5,h6,hw1]
      exact ⟨⟨k + 1,by omega,rfl⟩,by omega⟩
  · refine wwp_off ?_
    have hlz : ¬ (k : Int) < (n : Int) + 12:=by omega
    simp [h0,h1,hM,h5,h6,hlt,hlz]
def KpI (m : Mem) (t : Tok) (L : List Int) (σ : St) : Prop:=σ.s 0 = .sl (0 :: t) 1 0 L.length none∧σ.s 1 = .list (ints L)∧σ.m = upM m
theorem c50w (p64 : FP) (mk : Nat→Int) (m : Mem) (t g : Tok) (L E : List Int) (hm : m t = some (.row g 3 (ints (L ++ E)))) (hE : E.length = 12) (hEk : ∀ i (h : i < E.length),E[i] = mk i)
    (h64 : ∀ i : Nat,i < 12→p64 [iv 1,iv i] = some (iv (mk i))) (hl : L.length≤100000) :
    wwp (mkEnv [(64,p64)] [] []) W50.1 (fun e s=>okExit e∧resV W50.2 s = some (bv true)∧s.m = upM m) (initM m [.sl t 1 0 L.length none,.list (ints L)]):=by
  obtain ⟨n,hn⟩ : ∃ n,n = L.length:=⟨_,rfl⟩
  have hmu : upM m (0 :: t) = some (.row (0 :: g) 3 (ints (L ++ E))):=by rw [upM_up,hm]; simp
  have hlen : (ints (L ++ E)).length = n + 12:=by simp [hE,hn]
  have hat : ∀ i (h : i < (L ++ E).length),(ints (L ++ E))[i]? = some [iv (L ++ E)[i]]:=fun i h=>ints_at h
  obtain ⟨X,hX⟩ : ∃ X,X = ints (L ++ E):=⟨_,rfl⟩
  have hXs : X.all (fun c=>c.length == 1) = true:=by rw [hX]; exact ints_size _
  rw [← hX] at hmu hlen hat
  have w1 : IntKind.i64.wrap ((n : Int) + 12) = (n : Int) + 12:=wrap_in (by omega) (by omega)
  simp only [W50]
  refine wwp_cut (KpI m t L) (by simp [KpI]; rfl) ?_
  rintro σ ⟨h0,h1,hM⟩
  have hmt : σ.m (0 :: t) = some (.row (0 :: g) 3 X):=by rw [hM]; exact hmu
  rw [← hn] at h0
  refine wwp_cutG (KpI m t L) (by simp [KpI,h0,h1,hM,← hn]) ?_
  clear h0 h1 hM hmt σ
  rintro σ ⟨h0,h1,hM⟩
  have hmt : σ.m (0 :: t) = some (.row (0 :: g) 3 X):=by rw [hM]; exact hmu
  rw [← hn] at h0
  have z1 : ((n : Int) + 12).toNat = n + 12:=by omega
  have z2 : (0 : Int)≤(n : Int) + 12:=by omega
  have z3 : ¬ (n : Int) + 12≤n:=by omega
  refine wwp_cut (fun σ=>KpI m t L σ∧σ.s 5 = .sl (0 :: t) 1 0 (n + 12) none) (by simp [KpI,h0,h1,hmt,← hn,w1,z1,z2,z3,roomV,hlen]; exact hM) ?_
  clear h0 h1 hM hmt σ
  rintro σ ⟨hK,h5⟩
  refine wwp_cutG (fun σ=>σ.m = upM m) ?_ (fun σ h=>by simp [h])
  refine wwp_cut (fun σ=>KpI m t L σ∧σ.s 5 = .sl (0 :: t) 1 0 (n + 12) none∧σ.s 6 = iv 0) (by obtain ⟨h0,h1,hM⟩:=hK; simp [KpI,h0,h1,hM,h5]) ?_
  clear hK h5 σ
  rintro σ ⟨hK,h5,h6⟩
  simp only [wwp_block]
  refine wwp_loop (fun σ=>∃ k : Nat,k≤n + 12∧KpI m t L σ∧σ.s 5 = .sl (0 :: t) 1 0 (n + 12) none∧σ.s 6 = iv k) (fun σ=>cnt (n + 12) (σ.s 6)) ?_ ?_
  · exact ⟨0,by omega,hK,h5,h6⟩
  clear hK h5 h6 σ
  rintro σ hw ⟨k,hk,⟨h0,h1,hM⟩,h5,h6⟩
  have hmt : σ.m (0 :: t) = some (.row (0 :: g) 3 X):=by rw [hM]; exact hmu
  rw [← hn] at h0
  refine wwp_seq_assoc ?_
  by_cases hlt : k < n + 12
  · have hw1:=wrap_succ (show k≤1000000000 by omega)
    have hmuc : cnt (n + 12) (σ.s 6) = n + 12 - k:=by simp [h6]
    simp only [hmuc]
    clear hmuc
    have hlz : (k : Int) < (n : Int) + 12:=by omega
    refine wwp_on (fun σ=>KpI m t L σ∧σ.s 5 = .sl (0 :: t) 1 0 (n + 12) none∧σ.s 6 = iv k) (by simp [KpI,h0,h1,hM,h5,h6,← hn,hlt,hlz]) ?_
    clear hw h0 h1 hM hmt h5 h6 σ
    rintro σ ⟨⟨h0,h1,hM⟩,h5,h6⟩
    have hmt : σ.m (0 :: t) = some (.row (0 :: g) 3 X):=by rw [hM]; exact hmu
    rw [← hn] at h0
    have hk2 : k < (L ++ E).length:=by rw [List.length_append]; omega
    have hxk:=hat k hk2
    have hkX : k < X.length:=by omega
    refine wwp_body (fun σ=>KpI m t L σ∧σ.s 5 = .sl (0 :: t) 1 0 (n + 12) none∧σ.s 6 = iv k) ?_ ?_
    · by_cases hkn : k < n
      · have hkL : k < L.length:=by omega
        rw [List.getElem_append_left hkL] at hxk
        have hyk:=ints_at hkL
        obtain ⟨x,hx⟩ : ∃ x,x = L[k]:=⟨_,rfl⟩
        rw [← hx] at hxk hyk
        have a1 : (k : Int) < n:=by omega
        have a2 : ¬ (n : Int)≤k:=by omega
        simp [KpI,h0,h1,hmt,h5,h6,← hn,hkn,hkL,hlt,hxk,hyk,a1,a2,← hx]
        exact hM
      · obtain ⟨i,hi⟩ : ∃ i,k = n + i:=⟨k - n,by omega⟩
        rw [List.getElem_append_right (by omega)] at hxk
        have hxk' : X[k]? = some [iv (mk i)]:=by
          rw [hxk,hEk,show k - L.length = i by omega]
        have e64:=h64 i (by omega)
        have a1 : ¬ (k : Int) < n:=by omega
        have a2 : (n : Int)≤(k : Int):=by omega
        have a3 : IntKind.i64.wrap ((k : Int) - n) = i:=by rw [wrap_in (by omega) (by omega)]; omega
        have a4 : n≤k:=by omega
        clear hxk
        obtain ⟨x,hx⟩ : ∃ x,x = mk i:=⟨_,rfl⟩
        rw [← hx] at hxk' e64
        simp [KpI,h0,h1,hmt,h5,h6,← hn,hlt,hxk',hkn,a1,a2,a3,a4,e64]
        exact hM
    · clear h0 h1 hM hmt h5 h6 σ
      rintro σ ⟨⟨h0,h1,hM⟩,h5,h6⟩
      simp [KpI,h0,h1,hM,h5,h6,hw1]
      exact ⟨⟨k + 1,by omega,rfl⟩,by omega⟩
  · refine wwp_off ?_
    have hlz : ¬ (k : Int) < (n : Int) + 12:=by omega
    simp [h0,h1,hM,h5,h6,hlt,hlz]
theorem c61 (m : Mem) (t g : Tok) (L : List Row) (hm : m t = some (.row g 53 (rowsL (L ++ marksR 12)))) (hl : L.length≤100000) : VCm Try.prog 61 m [.sl t 5 0 L.length none,.list (rowsL L)] (bv true) (upM m):=
  wcontract_m (Γ:=mkEnv [(73,S73)] [] []) (sound_mk (by simp [s73]) (by simp) (by simp)) mixed is61 (by rw [nt61]; simp)
    (wwp_mono _ (c61w S73 (fun i=>markRow i) m t g L (marksR 12) hm (marksR_len 12) (fun i h=>by simp [marksR]) (fun i hi=>S73_at i (by omega)) hl) fun e s h=>⟨h.1,h.2.1,fun t o ho=>by rw [h.2.2]; exact ho⟩)
theorem c50 (m : Mem) (t g : Tok) (L : List Int) (hm : m t = some (.row g 3 (ints (L ++ marksI 12)))) (hl : L.length≤100000) : VCm Try.prog 50 m [.sl t 1 0 L.length none,.list (ints L)] (bv true) (upM m):=
  wcontract_m (Γ:=mkEnv [(64,S64)] [] []) (sound_mk (by simp [s64]) (by simp) (by simp)) mixed is50 (by rw [nt50]; simp)
    (wwp_mono _ (c50w S64 (fun i=>markI 1 i) m t g L (marksI 12) hm (marksI_len 12) (fun i h=>by simp [marksI]) (fun i hi=>S64_at i (by omega)) hl) fun e s h=>⟨h.1,h.2.1,fun t o ho=>by rw [h.2.2]; exact ho⟩)
open Classical in
noncomputable def S61 : FM:=fun m ds=>match ds with
  | [.sl t 5 0 n none,.list es]=>if ∃ g l,m t = some (.row g 53 (rowsL (l ++ marksR 12)))∧es = rowsL l∧n = l.length∧l.length≤100000 then some (bv true,upM m) else none
  | _=>none
theorem s61 : OkM 61 S61:=fun m ds d m' h=>by
  unfold S61 at h
  split at h
  · split at h
    · rename_i hc
      cases h
      obtain ⟨g,l,h1,rfl,rfl,h4⟩:=hc
      exact c61 m _ g l h1 h4
    · cases h
  · cases h
theorem S61_at {m : Mem} {t g : Tok} {L : List Row} (h : m t = some (.row g 53 (rowsL (L ++ marksR 12)))) (hl : L.length≤100000) : S61 m [.sl t 5 0 L.length none,.list (rowsL L)] = some (bv true,upM m):=by
  simp only [S61]
  exact if_pos ⟨g,L,h,rfl,rfl,hl⟩
open Classical in
noncomputable def S50 : FM:=fun m ds=>match ds with
  | [.sl t 1 0 n none,.list es]=>if ∃ g l,m t = some (.row g 3 (ints (l ++ marksI 12)))∧es = ints l∧n = l.length∧l.length≤100000 then some (bv true,upM m) else none
  | _=>none
theorem s50 : OkM 50 S50:=fun m ds d m' h=>by
  unfold S50 at h
  split at h
  · split at h
    · rename_i hc
      cases h
      obtain ⟨g,l,h1,rfl,rfl,h4⟩:=hc
      exact c50 m _ g l h1 h4
    · cases h
  · cases h
theorem S50_at {m : Mem} {t g : Tok} {L : List Int} (h : m t = some (.row g 3 (ints (L ++ marksI 12)))) (hl : L.length≤100000) : S50 m [.sl t 1 0 L.length none,.list (ints L)] = some (bv true,upM m):=by
  simp only [S50]
  exact if_pos ⟨g,L,h,rfl,rfl,hl⟩
end Go.Proofs.Ytpmgaaalfdjikaa
namespace Go.Proofs.Ytpmgaaalfdjikaa
open Go.RowKit
set_option linter.unusedSimpArgs false
set_option linter.unusedVariables false
def W36 : WC × List VRes:=(.seq (.reg [.stm (.eff (.box 2 (.t 0)) none),.stm (.eff (.box 3 (.t 1)) none),.set [(4,.c (.v (.bool false)))] [4]]) (.seq (.reg [.stm (.op 5 (.load 6 true) [.t 2] none),.stm (.op 6 (.load 6 true) [.t 3] none),.stm (.op 7 (.call 48) [.t 5,.t 6] none),.stm (.op 8 .mv [.t 7] none),.stm (.op 9 (.fld 5) [.t 2] (some (8,true))),.stm (.op 10 (.load 1 false) [.t 9] (some (8,true))),.stm (.op 11 (.fld 5) [.t 3] (some (8,true))),.stm (.op 12 (.load 1 false) [.t 11] (some (8,true))),.stm (.eff (.callm 13 61 [.t 10,.t 12]) (some (8,true))),.set [(4,.ite (.t 8) (.t 13) (.c (.v (.bool false))))] [14,4]]) .ret),[.t 4])
theorem is36 : IsFn Try.prog frOf 36 Try.f36 W36:=⟨by kernel_rfl,by kernel_rfl,by kernel_rfl⟩
theorem nt36 : Try.f36.ntmps = 15:=by kernel_rfl
def W37 : WC × List VRes:=(.seq (.reg [.set [(4,.c (.v (.bool false)))] [4]]) (.seq (.seq (.reg [.set [(11,.ap (.ibin .neq) [.ap .llen [.t 0],.ap .llen [.t 1]])] [7,8,9,10,11]]) (.cond (.t 11) (.seq (.reg [.set [(4,.c (.v (.bool false)))] [4]]) .ret) .skip)) (.seq (.reg [.set [(5,.ap (.slc 1 false true false) [.t 0,.ap (.ibin .add) [.ap .llen [.t 1],.c (.v (.int .i64 12))]])] [12,13,14,15,16,5]]) (.seq (.seq (.reg [.set [(6,.c (.v (.int .i64 0)))] [6]]) (.block 0 (.loop (.seq (.seq (.reg [.set [(20,.ap (.ibin .lss) [.t 6,.ap .llen [.t 5]])] [17,18,19,20]]) (.cond (.t 20) .skip (.exit 0))) (.seq (.block 1 (.seq (.reg [.stm (.op 23 .mv [.t 6] none),.stm (.op 24 .mv [.t 1] none),.stm (.op 25 .llen [.t 24] none),.stm (.op 26 (.ibin .lss) [.t 23,.t 25] none),.stm (.op 27 .mv [.t 26] none),.stm (.op 28 .mv [.t 5] (some (27,true))),.stm (.op 29 .mv [.t 6] (some (27,true))),.stm (.op 30 (.idx 34 1) [.t 28,.t 29] (some (27,true))),.stm (.op 31 (.load 1 false) [.t 30] (some (27,true))),.stm (.op 32 .mv [.t 1] (some (27,true))),.stm (.op 33 .mv [.t 6] (some (27,true))),.stm (.op 34 (.idx 34 1) [.t 32,.t 33] (some (27,true))),.stm (.op 35 (.load 1 false) [.t 34] (some (27,true))),.stm (.eff (.callm 36 50 [.t 31,.t 35]) (some (27,true))),.stm (.op 37 .inot [.t 36] (some (27,true))),.stm (.op 38 .pick [.t 27,.t 37,.c (.v (.bool false))] none),.stm (.op 39 .mv [.t 38] none),.stm (.op 40 .mv [.t 6] (some (39,false))),.stm (.op 41 .mv [.t 1] (some (39,false))),.stm (.op 42 .llen [.t 41] (some (39,false))),.stm (.op 43 (.ibin .geq) [.t 40,.t 42] (some (39,false))),.stm (.op 44 .mv [.t 43] (some (39,false))),.stm (.op 45 .mv [.t 5] (some (44,true))),.stm (.op 46 .mv [.t 6] (some (44,true))),.stm (.op 47 (.idx 34 1) [.t 45,.t 46] (some (44,true))),.stm (.op 48 (.load 1 false) [.t 47] (some (44,true))),.stm (.op 49 .mv [.t 6] (some (44,true))),.stm (.op 50 .mv [.t 1] (some (44,true))),.stm (.op 51 .llen [.t 50] (some (44,true))),.stm (.op 52 (.ibin .sub) [.t 49,.t 51] (some (44,true))),.stm (.eff (.callq 53 59 [.c (.v (.int .i64 1)),.t 52]) (some (44,true))),.stm (.op 54 (.call 38) [.t 48,.t 53] (some (44,true))),.stm (.op 55 .inot [.t 54] (some (44,true))),.stm (.op 56 .pick [.t 44,.t 55,.c (.v (.bool false))] (some (39,false))),.stm (.op 57 .pick [.t 39,.c (.v (.bool true)),.t 56] none)]) (.cond (.t 57) (.seq (.reg [.set [(4,.c (.v (.bool false)))] [4]]) .ret) .skip))) (.reg [.set [(6,.ap (.ibin .add) [.t 6,.c (.v (.int .i64 1))])] [21,22,6]])))))) (.seq (.reg [.set [(4,.c (.v (.bool true)))] [4]]) .ret)))),[.t 4])
theorem is37 : IsFn Try.prog frB 37 Try.f37 W37:=⟨by kernel_rfl,by kernel_rfl,by kernel_rfl⟩
theorem nt37 : Try.f37.ntmps = 58:=by kernel_rfl
theorem WF.of {σ σ' : St} (W : WF σ) (hm : σ'.m = σ.m) (hc : σ'.c = σ.c) : WF σ':=fun x k r hk=>by rw [hm]; exact W x k r (by rw [← hc]; exact hk)
theorem wwp_cutN {Γ : Env} (k : Nat) {cs : List CStm} {b : WC} {Q : VE→St→Prop} {s : St} (W : WF s) (I : St→Prop) (h1 : runK (cruns Γ (cs.take k) s) I) (h2 : ∀ s',WF s'→I s'→wwp Γ (.seq (.reg (cs.drop k)) b) Q s') : wwp Γ (.seq (.reg cs) b) Q s:=by
  obtain ⟨s',e,hi⟩:=h1
  obtain ⟨s2,e2,h⟩:=h2 s' (cruns_wf W e) hi
  refine ⟨s2,?_,h⟩
  conv=>lhs; rw [← List.take_append_drop k cs,cruns_append,e,Option.bind_some]
  exact e2
theorem wwp_cutN1 {Γ : Env} (k : Nat) {cs : List CStm} {Q : VE→St→Prop} {s : St} (W : WF s) (I : St→Prop) (h1 : runK (cruns Γ (cs.take k) s) I) (h2 : ∀ s',WF s'→I s'→wwp Γ (.reg (cs.drop k)) Q s') : wwp Γ (.reg cs) Q s:=by
  obtain ⟨s',e,hi⟩:=h1
  obtain ⟨s2,e2,h⟩:=h2 s' (cruns_wf W e) hi
  refine ⟨s2,?_,h⟩
  conv=>lhs; rw [← List.take_append_drop k cs,cruns_append,e,Option.bind_some]
  exact e2
def Up (m M : Mem) : Prop:=∀ t o,upM m t = some o→M t = some o
theorem Up.adopt {m : Mem} {σ : St} (W : WF σ) (h : Up m σ.m) (x : Nat) (d : D) (m' : Mem) : Up m (σ.adopt x d m').m:=fun t o ho=>adopt_old W (h t o ho) x d m'
theorem Up.adoptM {m : Mem} {σ : St} (W : WF σ) (h : Up m σ.m) (x : Nat) (d : D) : Up m (σ.adoptM x d (upM σ.m)).m:=keepM_adoptM W h x d
theorem set_m_of {σ : St} {M : Mem} {i : Nat} {d : D} (h : σ.m = M) : (σ.set i d).m = M:=h
theorem set_c_of {σ : St} {c : Nat→Nat} {i : Nat} {d : D} (h : σ.c = c) : (σ.set i d).c = c:=h
@[simp] theorem adopt_m0 {σ : St} (x : Nat) (d : D) (m' : Mem) (t : Tok) : (σ.adopt x d m').m (0 :: t) = σ.m (0 :: t):=by
  cases t with
  | nil=>rfl
  | cons b r=>simp [adopt_m]
theorem c36w (p48 : FP) (m61 : FM) (m : Mem) (t g : Tok) (a : Mv) (E : List Row) (hm : m t = some (.row g 53 (rowsL (a.rows ++ E))))
    (h48 : p48 [.agg [iv a.t,iv a.r,iv a.s,iv a.c,iv a.w,.list (rowsL a.rows)],.agg [iv a.t,iv a.r,iv a.s,iv a.c,iv a.w,.list (rowsL a.rows)]] = some (bv true))
    (h61 : ∀ M : Mem,M (0 :: t) = some (.row (0 :: g) 53 (rowsL (a.rows ++ E)))→m61 M [.sl (0 :: t) 5 0 a.rows.length none,.list (rowsL a.rows)] = some (bv true,upM M)) :
    wwp (mkEnv [(48,p48)] [] [(61,m61)]) W36.1 (fun e s=>okExit e∧resV W36.2 s = some (bv true)∧Up m s.m) (initM m [.agg (a.cellsW (.sl t 5 0 a.rows.length none)),.agg a.cells]):=by
  have hmu : upM m (0 :: t) = some (.row (0 :: g) 53 (rowsL (a.rows ++ E))):=by rw [upM_up,hm]; simp
  have W0 : WF (initM m [.agg (a.cellsW (.sl t 5 0 a.rows.length none)),.agg a.cells]):=fun x k r hk=>rfl
  have htk : (rowsL (a.rows ++ E)).take a.rows.length = rowsL a.rows:=by rw [rowsL_append]; exact List.take_left' (by simp)
  simp only [W36]
  refine wwp_cutW W0 (fun σ=>Up m σ.m∧σ.s 2 = .ptr [3,0] 0∧σ.s 3 = .ptr [4,0] 0∧σ.m [3,0] = some (.box [iv a.t,iv a.r,iv a.s,iv a.c,iv a.w,.sl (0 :: t) 5 0 a.rows.length none])∧σ.m [4,0] = some (.box [iv a.t,iv a.r,iv a.s,iv a.c,iv a.w,.list (rowsL a.rows)])) ?_ ?_
  · simp [Mv.cells,Mv.cellsW]
    intro t o h
    obtain ⟨r,q,rfl,hq,rfl⟩:=upM_dom h
    simp [hq]
  rintro σ W ⟨hU,h2,h3,m3,m4⟩
  have hmt:=hU _ _ hmu
  have e61:=h61 σ.m hmt
  simp [h2,h3,m3,m4,hmt,htk,h48,e61]
  exact Up.adoptM (σ:=((((((((σ.set 5 _).set 6 _).set 7 _).set 8 _).set 9 _).set 10 _).set 11 _).set 12 _)) (W.of rfl rfl) hU 13 (bv true)
theorem c37w (p38 : FP) (q59 : FQ) (m50 : FM) (mk : Nat→Int) (Mk : List Int) (m : Mem) (t g : Tok) (tk gr : Nat→Tok) (Ls : List (List Int)) (hl : Ls.length≤1000)
    (hm : m t = some (.row g 34 (hdsL tk 0 (lentF Mk Ls ++ lentE mk 12)))) (hls : LsL tk gr m 0 (lentF Mk Ls ++ lentE mk 12))
    (h50 : ∀ (M : Mem) (T G : Tok) (L : List Int),L ∈ Ls→M T = some (.row G 3 (ints (L ++ Mk)))→m50 M [.sl T 1 0 L.length none,.list (ints L)] = some (bv true,upM M))
    (h59 : ∀ i : Nat,i < 12→q59 [iv 1,iv i] = some (.sl [] 1 0 1 none,rowMem 3 (ints [mk i])))
    (h38 : ∀ i : Nat,i < 12→p38 [.list (ints [mk i]),.list (ints [mk i])] = some (bv true)) :
    wwp (mkEnv [(38,p38)] [(59,q59)] [(50,m50)]) W37.1 (fun e s=>okExit e∧resV W37.2 s = some (bv true)∧Up m s.m) (initM m [.sl t 1 0 Ls.length none,.list (lists Ls)]):=by
  obtain ⟨n,hn⟩ : ∃ n,n = Ls.length:=⟨_,rfl⟩
  have W0 : WF (initM m [.sl t 1 0 Ls.length none,.list (lists Ls)]):=fun x k r hk=>rfl
  have hAl : (lentF Mk Ls ++ lentE mk 12).length = n + 12:=by rw [List.length_append,lentF_len,lentE_len,hn]
  have hA1 : ∀ k (h : k < Ls.length) (h' : k < (lentF Mk Ls ++ lentE mk 12).length),(lentF Mk Ls ++ lentE mk 12)[k] = (Ls[k] ++ Mk,Ls[k].length):=fun k h h'=>by
    rw [List.getElem_append_left (by rw [lentF_len]; exact h)]; simp [lentF]
  have hA2 : ∀ i,i < 12→∀ (h' : n + i < (lentF Mk Ls ++ lentE mk 12).length),(lentF Mk Ls ++ lentE mk 12)[n + i] = ([mk i],1):=fun i h h'=>by
    rw [List.getElem_append_right (by rw [lentF_len]; omega)]
    have : n + i - (lentF Mk Ls).length = i:=by rw [lentF_len]; omega
    simp only [this]
    simp [lentE]
  obtain ⟨A,hA⟩ : ∃ A,A = lentF Mk Ls ++ lentE mk 12:=⟨_,rfl⟩
  simp only [← hA] at hm hls hAl hA1 hA2
  obtain ⟨X,hX⟩ : ∃ X,X = hdsL (fun j=>0 :: tk j) 0 A:=⟨_,rfl⟩
  have hmu : upM m (0 :: t) = some (.row (0 :: g) 34 X):=by rw [upM_up,hm,hX,Option.map_some]; simp only [HO.ren,hdsL_ren]; rfl
  have hXl : X.length = n + 12:=by rw [hX,hdsL_len,hAl]
  have hXf : (∃ c,c ∈ X∧¬ c.length = 1) = False:=by rw [hX]; exact hdsL_ex _ _ _
  have hXa : ∀ k (h : k < A.length),X[k]? = some [.sl (0 :: tk k) 1 0 A[k].2 none]:=fun k h=>by
    rw [hX,hdsL_at _ _ _ k h,Nat.zero_add]
  have hin : ∀ k (h : k < A.length),upM m (0 :: tk k) = some (.row (0 :: gr k) 3 (ints A[k].1)):=fun k h=>by
    have:=hls k A[k] (by simp [h])
    rw [Nat.zero_add] at this
    rw [upM_up,this]; simp
  clear hX hm hls
  have w1 : IntKind.i64.wrap ((n : Int) + 12) = (n : Int) + 12:=wrap_in (by omega) (by omega)
  have z1 : ((n : Int) + 12).toNat = n + 12:=by omega
  have z2 : (0 : Int)≤(n : Int) + 12:=by omega
  have z3 : ¬ (n : Int) + 12≤n:=by omega
  simp only [W37]
  refine wwp_cutW W0 (fun σ=>Up m σ.m∧σ.s 0 = .sl (0 :: t) 1 0 n none∧σ.s 1 = .list (lists Ls)) (by simp [← hn]; exact fun t o h=>h) ?_
  rintro σ W ⟨hU,h0,h1⟩
  refine wwp_condW W (fun σ=>Up m σ.m∧σ.s 0 = .sl (0 :: t) 1 0 n none∧σ.s 1 = .list (lists Ls)) (by simp [hU,h0,h1,← hn]) ?_
  clear W hU h0 h1 σ
  rintro σ W ⟨hU,h0,h1⟩
  have hmt:=hU _ _ hmu
  refine wwp_cutW W (fun σ=>Up m σ.m∧σ.s 5 = .sl (0 :: t) 1 0 (n + 12) none∧σ.s 1 = .list (lists Ls)) (by simp [hU,h0,h1,hmt,← hn,w1,z1,z2,z3,roomV,hXl]) ?_
  clear W hU h0 h1 hmt σ
  rintro σ W ⟨hU,h5,h1⟩
  refine wwp_cutG (fun σ=>Up m σ.m) ?_ (fun σ h=>by simp [h])
  refine wwp_cut (fun σ=>Up m σ.m∧σ.s 5 = .sl (0 :: t) 1 0 (n + 12) none∧σ.s 1 = .list (lists Ls)∧σ.s 6 = iv 0) (by simp [hU,h5,h1]) ?_
  clear W hU h5 h1 σ
  rintro σ ⟨hU,h5,h1,h6⟩
  simp only [wwp_block]
  refine wwp_loop (fun σ=>∃ k : Nat,k≤n + 12∧Up m σ.m∧σ.s 5 = .sl (0 :: t) 1 0 (n + 12) none∧σ.s 1 = .list (lists Ls)∧σ.s 6 = iv k) (fun σ=>cnt (n + 12) (σ.s 6)) ?_ ?_
  · exact ⟨0,by omega,hU,h5,h1,h6⟩
  clear hU h5 h1 h6 σ
  rintro σ W ⟨k,hk,hU,h5,h1,h6⟩
  refine wwp_seq_assoc ?_
  by_cases hlt : k < n + 12
  · have hw1:=wrap_succ (show k≤1000000000 by omega)
    have hmuc : cnt (n + 12) (σ.s 6) = n + 12 - k:=by simp [h6]
    simp only [hmuc]
    clear hmuc
    have hlz : (k : Int) < (n : Int) + 12:=by omega
    refine wwp_on (fun σ=>WF σ∧Up m σ.m∧σ.s 5 = .sl (0 :: t) 1 0 (n + 12) none∧σ.s 1 = .list (lists Ls)∧σ.s 6 = iv k) (by simp [hU,h5,h1,h6,← hn,hlt,hlz]; exact W.of rfl rfl) ?_
    clear W hU h5 h1 h6 σ
    rintro σ ⟨W,hU,h5,h1,h6⟩
    have hmt:=hU _ _ hmu
    have hxk:=hXa k (by omega)
    have hik:=hU _ _ (hin k (by omega))
    refine wwp_body (fun σ=>Up m σ.m∧σ.s 5 = .sl (0 :: t) 1 0 (n + 12) none∧σ.s 1 = .list (lists Ls)∧σ.s 6 = iv k) ?_ ?_
    · by_cases hkn : k < n
      · have hkL : k < Ls.length:=by omega
        have hmem : Ls[k] ∈ Ls:=List.getElem_mem hkL
        have e50:=h50 σ.m (0 :: tk k) (0 :: gr k) Ls[k] hmem (by rw [hik,hA1 k hkL (by omega)])
        rw [hA1 k hkL (by omega)] at hxk
        have hyk:=lists_at hkL
        obtain ⟨L,hL⟩ : ∃ L,L = Ls[k]:=⟨_,rfl⟩
        rw [← hL] at hxk hyk e50
        have a1 : (k : Int) < n:=by omega
        have a2 : ¬ (n : Int)≤k:=by omega
        clear hik
        refine wwp_cutN 13 W (fun σ=>Up m σ.m∧σ.s 5 = .sl (0 :: t) 1 0 (n + 12) none∧σ.s 1 = .list (lists Ls)∧σ.s 6 = iv k∧σ.s 27 = bv true∧σ.s 31 = .sl (0 :: tk k) 1 0 L.length none∧σ.s 35 = .list (ints L)) (by simp [hU,hmt,h5,h1,h6,← hn,hkn,hkL,hlt,hxk,hyk,a1,a2,← hL]) ?_
        clear W hU h5 h1 h6 hmt e50 σ
        rintro σ W ⟨hU,h5,h1,h6,h27,h31,h35⟩
        have hik:=hU _ _ (hin k (by omega))
        have e50:=h50 σ.m (0 :: tk k) (0 :: gr k) L (hL ▸ hmem) (by rw [hik,hA1 k hkL (by omega),hL])
        simp only [List.drop_succ_cons,List.drop_zero]
        refine wwp_cutN 1 W (fun σ=>Up m σ.m∧σ.s 5 = .sl (0 :: t) 1 0 (n + 12) none∧σ.s 1 = .list (lists Ls)∧σ.s 6 = iv k∧σ.s 27 = bv true∧σ.s 36 = bv true) (by simp [h5,h1,h6,h27,h31,h35,e50]; exact Up.adoptM W hU 36 (bv true)) ?_
        clear W hU h5 h1 h6 h27 h31 h35 hik e50 σ
        rintro σ W ⟨hU,h5,h1,h6,h27,h36⟩
        simp only [List.drop_succ_cons,List.drop_zero]
        refine wwp_cutN 10 W (fun σ=>Up m σ.m∧σ.s 5 = .sl (0 :: t) 1 0 (n + 12) none∧σ.s 1 = .list (lists Ls)∧σ.s 6 = iv k∧σ.s 39 = bv false∧σ.s 44 = bv false) (by simp [hU,h5,h1,h6,← hn,a2,h27,h36]) ?_
        clear W hU h5 h1 h6 h27 h36 σ
        rintro σ W ⟨hU,h5,h1,h6,h39,h44⟩
        simp only [List.drop_succ_cons,List.drop_zero]
        simp [hU,h5,h1,h6,h39,h44]
      · obtain ⟨i,hi⟩ : ∃ i,k = n + i:=⟨k - n,by omega⟩
        have e59:=h59 i (by omega)
        have e38:=h38 i (by omega)
        subst hi
        rw [hA2 i (by omega) (by omega)] at hxk hik
        obtain ⟨k,hk'⟩ : ∃ k,k = n + i:=⟨_,rfl⟩
        rw [← hk'] at hxk hik h6 hkn hlt
        have a1 : ¬ (k : Int) < n:=by omega
        have a2 : (n : Int)≤(k : Int):=by omega
        have a3 : IntKind.i64.wrap ((k : Int) - n) = i:=by rw [wrap_in (by omega) (by omega)]; omega
        have a4 : n≤k:=by omega
        have c1 : (ints [mk i]).length = 1:=by simp
        have c2 : (ints [mk i]).take 1 = ints [mk i]:=List.take_of_length_le (by simp)
        refine wwp_cutN 14 W (fun σ=>Up m σ.m∧σ.s 5 = .sl (0 :: t) 1 0 (n + 12) none∧σ.s 1 = .list (lists Ls)∧σ.s 6 = iv k∧σ.s 27 = bv false) (by simp [hU,h5,h1,h6,← hn,hkn,a1]) ?_
        clear W hU h5 h1 h6 hmt hik σ
        rintro σ W ⟨hU,h5,h1,h6,h27⟩
        simp only [List.drop_succ_cons,List.drop_zero]
        refine wwp_cutN 8 W (fun σ=>Up m σ.m∧σ.s 5 = .sl (0 :: t) 1 0 (n + 12) none∧σ.s 1 = .list (lists Ls)∧σ.s 6 = iv k∧σ.s 39 = bv false∧σ.s 44 = bv true) (by simp [hU,h5,h1,h6,← hn,a2,a4,h27]) ?_
        clear W hU h5 h1 h6 h27 σ
        rintro σ W ⟨hU,h5,h1,h6,h39,h44⟩
        have hmt:=hU _ _ hmu
        simp only [List.drop_succ_cons,List.drop_zero]
        refine wwp_cutN 8 W (fun σ=>Up m σ.m∧σ.s 5 = .sl (0 :: t) 1 0 (n + 12) none∧σ.s 1 = .list (lists Ls)∧σ.s 6 = iv k∧σ.s 39 = bv false∧σ.s 44 = bv true∧σ.s 48 = .sl (0 :: tk k) 1 0 1 none∧σ.s 52 = iv i) (by simp [hU,hmt,h5,h1,h6,← hn,hlt,hxk,a3,h39,h44]) ?_
        clear W hU h5 h1 h6 hmt h39 h44 σ
        rintro σ W ⟨hU,h5,h1,h6,h39,h44,h48,h52⟩
        have hik:=hU _ _ (hin k (by omega))
        simp only [List.drop_succ_cons,List.drop_zero]
        refine wwp_cutN 1 W (fun σ=>Up m σ.m∧σ.s 5 = .sl (0 :: t) 1 0 (n + 12) none∧σ.s 1 = .list (lists Ls)∧σ.s 6 = iv k∧σ.s 39 = bv false∧σ.s 44 = bv true∧σ.s 48 = .sl (0 :: tk k) 1 0 1 none∧∃ u G,σ.s 53 = .sl u 1 0 1 none∧σ.m u = some (.row G 3 (ints [mk i]))) (by simp [h5,h1,h6,h39,h44,h48,h52,e59]; exact Up.adopt W hU 53 _ _) ?_
        clear W hU h5 h1 h6 h39 h44 h48 h52 hik σ
        rintro σ W ⟨hU,h5,h1,h6,h39,h44,h48,u,G,h53,mu⟩
        have hik:=hU _ _ (hin k (by omega))
        have hAk : A[k]'(by omega) = ([mk i],1):=by
          have : ∀ k (h : k < A.length),k = n + i→A[k] = ([mk i],1):=by rintro k h rfl; exact hA2 i (by omega) h
          exact this k (by omega) hk'
        rw [hAk] at hik
        simp only [List.drop_succ_cons,List.drop_zero]
        simp [hU,hik,mu,h5,h1,h6,h39,h44,h48,h53,e38,c1,c2]
        omega
    · clear W hU h5 h1 h6 hmt hik σ
      rintro σ ⟨hU,h5,h1,h6⟩
      simp [hU,h5,h1,h6,hw1]
      exact ⟨⟨k + 1,by omega,rfl⟩,by omega⟩
  · refine wwp_off ?_
    have hlz : ¬ (k : Int) < (n : Int) + 12:=by omega
    simp [hU,h5,h1,h6,hlt,hlz]
theorem c36 (m : Mem) (t g : Tok) (a : Mv) (hm : m t = some (.row g 53 (rowsL (a.rows ++ marksR 12)))) (hl : a.rows.length≤100000) : VCm Try.prog 36 m [.agg (a.cellsW (.sl t 5 0 a.rows.length none)),.agg a.cells] (bv true) (upM m):=
  wcontract_m (Γ:=mkEnv [(48,S48)] [] [(61,S61)]) (sound_mk (by simp [s48]) (by simp) (by simp [s61])) mixed is36 (by rw [nt36]; simp)
    (c36w S48 S61 m t g a (marksR 12) hm (by have:=S48_self a (by omega); simpa [Mv.cells,Mv.cellsW] using this) (fun M h=>S61_at h hl))
theorem c37 (m : Mem) (t g : Tok) (tk gr : Nat→Tok) (Ls : List (List Int)) (hl : Ls.length≤1000) (hL : ∀ L ∈ Ls,L.length≤100000) (hm : m t = some (.row g 34 (hdsL tk 0 (lentL Ls)))) (hls : LsL tk gr m 0 (lentL Ls)) :
    VCm Try.prog 37 m [.sl t 1 0 Ls.length none,.list (lists Ls)] (bv true) (upM m):=
  wcontract_m (Γ:=mkEnv [(38,S38)] [(59,S59)] [(50,S50)]) (sound_mk (by simp [s38]) (by simp [s59]) (by simp [s50])) mixed is37 (by rw [nt37]; simp)
    (c37w S38 S59 S50 (fun i=>markI 1 i) (marksI 12) m t g tk gr Ls hl hm hls (fun M T G L hmem h=>S50_at h (hL L hmem)) (fun i hi=>S59_at i (by omega)) (fun i hi=>by rw [S38_at _ _ (by simp) (by simp)]; simp))
open Classical in
noncomputable def S36 : FM:=fun m ds=>match ds with
  | [.agg [.v (.int .i64 a),.v (.int .i64 b),.v (.int .i64 c),.v (.int .i64 d),.v (.int .i64 e),.sl t 5 0 n none],.agg xs]=>
    if ∃ g l,m t = some (.row g 53 (rowsL (l ++ marksR 12)))∧xs = (⟨a,b,c,d,e,l⟩ : Mv).cells∧n = l.length∧l.length≤100000 then some (bv true,upM m) else none
  | _=>none
theorem s36 : OkM 36 S36:=fun m ds d m' h=>by
  unfold S36 at h
  split at h
  · split at h
    · rename_i hc
      cases h
      obtain ⟨g,l,h1,rfl,rfl,h4⟩:=hc
      exact c36 m _ g ⟨_,_,_,_,_,l⟩ h1 h4
    · cases h
  · cases h
theorem S36_at {m : Mem} {t g : Tok} {a : Mv} (h : m t = some (.row g 53 (rowsL (a.rows ++ marksR 12)))) (hl : a.rows.length≤100000) : S36 m [.agg (a.cellsW (.sl t 5 0 a.rows.length none)),.agg a.cells] = some (bv true,upM m):=by
  simp only [S36,Mv.cellsW]
  exact if_pos ⟨g,a.rows,h,rfl,rfl,hl⟩
open Classical in
noncomputable def S37 : FM:=fun m ds=>match ds with
  | [.sl t 1 0 n none,.list es]=>if ∃ g tk gr Ls,m t = some (.row g 34 (hdsL tk 0 (lentL Ls)))∧LsL tk gr m 0 (lentL Ls)∧es = lists Ls∧n = Ls.length∧Ls.length≤1000∧∀ L ∈ Ls,L.length≤100000 then some (bv true,upM m) else none
  | _=>none
theorem s37 : OkM 37 S37:=fun m ds d m' h=>by
  unfold S37 at h
  split at h
  · split at h
    · rename_i hc
      cases h
      obtain ⟨g,tk,gr,Ls,h1,h2,rfl,rfl,h5,h6⟩:=hc
      exact c37 m _ g tk gr Ls h5 h6 h1 h2
    · cases h
  · cases h
theorem S37_at {m : Mem} {t g : Tok} {tk gr : Nat→Tok} {Ls : List (List Int)} (hm : m t = some (.row g 34 (hdsL tk 0 (lentL Ls)))) (hls : LsL tk gr m 0 (lentL Ls)) (hl : Ls.length≤1000) (hL : ∀ L ∈ Ls,L.length≤100000) :
    S37 m [.sl t 1 0 Ls.length none,.list (lists Ls)] = some (bv true,upM m):=by
  simp only [S37]
  exact if_pos ⟨g,tk,gr,Ls,hm,hls,rfl,rfl,hl,hL⟩
end Go.Proofs.Ytpmgaaalfdjikaa
namespace Go.Proofs.Ytpmgaaalfdjikaa
open Go.RowKit
set_option linter.unusedSimpArgs false
set_option linter.unusedVariables false
def W11 : WC × List VRes:=(.seq (.reg [.stm (.eff (.box 2 (.t 0)) none),.set [(4,.c (.v (.bool false)))] [4]]) (.seq (.seq (.reg [.set [(14,.ap .inot [.ap (.call 32) [.ap (.load 6 true) [.t 2],.t 1]])] [11,12,13,14]]) (.cond (.t 14) (.seq (.reg [.set [(4,.c (.v (.bool true)))] [4]]) .ret) .skip)) (.seq (.reg [.set [(15,.ap (.load 6 true) [.t 2])] [15],.stm (.eff (.callq 16 33 [.t 15]) none),.set [(17,.t 1)] [17],.stm (.eff (.callq 18 34 [.t 17]) none),.stm (.eff (.box 5 (.c (.agg [.v (.int .i64 0),.v (.int .i64 0),.v (.int .i64 0),.v (.int .i64 0),.v (.int .i64 0),.nil]))) none),.stm (.eff (.store 6 (.t 5) (.t 16)) none),.set [(6,.t 18)] [6]]) (.seq (.reg [.set [(7,.ap (.ext 0) [.ap (.call 15) [.ap (.load 6 true) [.t 5],.t 6]]),(8,.ap (.ext 1) [.ap (.call 15) [.ap (.load 6 true) [.t 5],.t 6]])] [20,21,22,19,23,24,7,8]]) (.seq (.reg [.set [(9,.ap (.ext 0) [.ap (.call 35) [.ap (.load 6 true) [.t 2],.t 1]]),(10,.ap (.ext 1) [.ap (.call 35) [.ap (.load 6 true) [.t 2],.t 1]])] [26,27,28,25,29,30,9,10]]) (.seq (.reg [.stm (.op 31 .mv [.t 7] none),.stm (.op 32 .mv [.t 9] none),.stm (.op 33 (.ibin .eql) [.t 31,.t 32] none),.stm (.op 34 .mv [.t 33] none),.stm (.op 35 .mv [.t 8] (some (34,true))),.stm (.op 36 .mv [.t 10] (some (34,true))),.stm (.op 37 (.ibin .eql) [.t 35,.t 36] (some (34,true))),.stm (.op 38 .pick [.t 34,.t 37,.c (.v (.bool false))] none),.stm (.op 39 .mv [.t 38] none),.stm (.op 40 (.load 6 true) [.t 5] (some (39,true))),.stm (.op 41 (.load 6 true) [.t 2] (some (39,true))),.stm (.eff (.callm 42 36 [.t 40,.t 41]) (some (39,true))),.stm (.op 43 .pick [.t 39,.t 42,.c (.v (.bool false))] none),.stm (.op 44 .mv [.t 43] none),.stm (.op 45 .mv [.t 6] (some (44,true))),.stm (.op 46 .mv [.t 1] (some (44,true))),.stm (.eff (.callm 47 37 [.t 45,.t 46]) (some (44,true))),.set [(4,.ite (.t 44) (.t 47) (.c (.v (.bool false))))] [48,4]]) .ret))))),[.t 4])
theorem is11 : IsFn Try.prog frOf 11 Try.f11 W11:=⟨by kernel_rfl,by kernel_rfl,by kernel_rfl⟩
theorem nt11 : Try.f11.ntmps = 49:=by kernel_rfl
theorem view_lent {tk gr : Nat→Tok} {m : Mem} {n : Nat} : ∀ {Fs : List (List Int × Nat)} {j : Nat},LsL tk gr m j Fs→(∀ p ∈ Fs,p.2≤p.1.length)→viewRows (viewC m (n + 1)) (hdsL tk j Fs) = some (lists (Fs.map fun p=>p.1.take p.2))
  | [],j,_,_=>rfl
  | p :: Fs,j,h,hp=>by
    have ih:=view_lent (n:=n) (Fs:=Fs) (j:=j + 1) (fun i p' hi=>by
      have:=h (i + 1) p' (by simpa using hi)
      rwa [show j + (i + 1) = j + 1 + i by omega] at this) (fun q hq=>hp q (List.mem_cons_of_mem _ hq))
    have h1:=h 0 p rfl
    rw [Nat.add_zero] at h1
    have h2:=hp p List.mem_cons_self
    have h3 : (ints p.1).take p.2 = ints (p.1.take p.2):=by simp [ints,List.map_take]
    rw [hdsL,viewRows_cons (viewC m (n + 1)) _ _ (fun _=>rfl),ih]
    have h0 : viewRow (viewC m (n + 1)) [.sl (tk j) 1 0 p.2 none] = some [.list (ints (p.1.take p.2))]:=by
      rw [viewRow_cons (viewC m (n + 1)) _ _ (fun _=>rfl)]
      simp [h1,h2,h3]
    rw [h0]
    rfl
theorem hdsL_take (tk : Nat→Tok) : ∀ (Fs Gs : List (List Int × Nat)) (j : Nat),(hdsL tk j (Fs ++ Gs)).take Fs.length = hdsL tk j Fs
  | [],_,_=>by simp [hdsL]
  | p :: Fs,Gs,j=>by simp [hdsL,hdsL_take tk Fs Gs (j + 1)]
theorem LsL.front {tk gr : Nat→Tok} {m : Mem} {j : Nat} {Fs Gs : List (List Int × Nat)} (h : LsL tk gr m j (Fs ++ Gs)) : LsL tk gr m j Fs:=fun i p hi=>h i p (by
  rw [List.getElem?_append_left (List.getElem?_eq_some_iff.1 hi).1]; exact hi)
theorem lentF_view (M : List Int) (Ls : List (List Int)) : (lentF M Ls).map (fun p=>p.1.take p.2) = Ls:=by
  simp only [lentF,List.map_map]
  conv=>rhs; rw [← List.map_id Ls]
  exact List.map_congr_left fun L _=>by simp
def tkB (j : Nat) : Tok:=[19,0,j + 1]
def grB (j : Nat) : Tok:=[19,0,0,j]
structure BsA (m : Mv) (Ls : List (List Int)) (E : List Row) (M : List Int) (G : List (List Int × Nat)) (σ : St) : Prop where
  s1 : σ.s 1 = .list (lists Ls)
  s2 : σ.s 2 = .ptr [3,0] 0
  m3 : σ.m [3,0] = some (.box [iv m.t,iv m.r,iv m.s,iv m.c,iv m.w,.list (rowsL m.rows)])
  s5 : σ.s 5 = .ptr [6,0] 0
  m6 : σ.m [6,0] = some (.box [iv m.t,iv m.r,iv m.s,iv m.c,iv m.w,.sl [17,0] 5 0 m.rows.length none])
  s6 : σ.s 6 = .sl [19,0] 1 0 Ls.length none
  m17 : σ.m [17,0] = some (.row [17,0,0] 53 (rowsL (m.rows ++ E)))
  m19 : σ.m [19,0] = some (.row [19,0,0] 34 (hdsL tkB 0 (lentF M Ls ++ G)))
  ls : LsL tkB grB σ.m 0 (lentF M Ls ++ G)
theorem c11w (p32 p15 p35 : FP) (q33 q34 : FQ) (m36 m37 : FM) (m : Mv) (Ls : List (List Int)) (E : List Row) (M : List Int) (G : List (List Int × Nat)) (a e : Int)
    (h32 : p32 [.agg [iv m.t,iv m.r,iv m.s,iv m.c,iv m.w,.list (rowsL m.rows)],.list (lists Ls)] = some (bv true))
    (h33 : q33 [.agg [iv m.t,iv m.r,iv m.s,iv m.c,iv m.w,.list (rowsL m.rows)]] = some (.agg [iv m.t,iv m.r,iv m.s,iv m.c,iv m.w,.sl [] 5 0 m.rows.length none],rowMem 53 (rowsL (m.rows ++ E))))
    (h34 : q34 [.list (lists Ls)] = some (.sl [] 1 0 Ls.length none,lentMem (lentF M Ls ++ G)))
    (h15 : p15 [.agg [iv m.t,iv m.r,iv m.s,iv m.c,iv m.w,.list (rowsL m.rows)],.list (lists Ls)] = some (.tup [iv a,iv e]))
    (h35 : p35 [.agg [iv m.t,iv m.r,iv m.s,iv m.c,iv m.w,.list (rowsL m.rows)],.list (lists Ls)] = some (.tup [iv a,iv e]))
    (h36 : ∀ Mm : Mem,Mm [17,0] = some (.row [17,0,0] 53 (rowsL (m.rows ++ E)))→m36 Mm [.agg [iv m.t,iv m.r,iv m.s,iv m.c,iv m.w,.sl [17,0] 5 0 m.rows.length none],.agg [iv m.t,iv m.r,iv m.s,iv m.c,iv m.w,.list (rowsL m.rows)]] = some (bv true,upM Mm))
    (h37 : ∀ Mm : Mem,Mm [19,0] = some (.row [19,0,0] 34 (hdsL tkB 0 (lentF M Ls ++ G)))→LsL tkB grB Mm 0 (lentF M Ls ++ G)→m37 Mm [.sl [19,0] 1 0 Ls.length none,.list (lists Ls)] = some (bv true,upM Mm)) :
    wwp (mkEnv [(32,p32),(15,p15),(35,p35)] [(33,q33),(34,q34)] [(36,m36),(37,m37)]) W11.1 (fun e s=>okExit e∧resV W11.2 s = some (bv true)) (initV [.agg m.cells,.list (lists Ls)]):=by
  have htk : (rowsL (m.rows ++ E)).take m.rows.length = rowsL m.rows:=by rw [rowsL_append]; exact List.take_left' (by simp)
  have hll : (lentF M Ls).length = Ls.length:=lentF_len M Ls
  have hht : (hdsL tkB 0 (lentF M Ls ++ G)).take Ls.length = hdsL tkB 0 (lentF M Ls):=by rw [← hll]; exact hdsL_take _ _ _ _
  have hhl : Ls.length≤(hdsL tkB 0 (lentF M Ls ++ G)).length:=by rw [hdsL_len,List.length_append,hll]; omega
  simp only [W11]
  refine wwp_cutW (wf_init _) (fun σ=>σ.s 1 = .list (lists Ls)∧σ.s 2 = .ptr [3,0] 0∧σ.m [3,0] = some (.box [iv m.t,iv m.r,iv m.s,iv m.c,iv m.w,.list (rowsL m.rows)])∧σ.c 5 = 0∧σ.c 16 = 0∧σ.c 18 = 0) (by simp [Mv.cells,Mv.cellsW]) ?_
  rintro σ W ⟨h1,h2,m3,k5,k16,k18⟩
  refine wwp_condW W (fun σ=>σ.s 1 = .list (lists Ls)∧σ.s 2 = .ptr [3,0] 0∧σ.m [3,0] = some (.box [iv m.t,iv m.r,iv m.s,iv m.c,iv m.w,.list (rowsL m.rows)])∧σ.c 5 = 0∧σ.c 16 = 0∧σ.c 18 = 0) (by simp [h1,h2,m3,k5,k16,k18,h32]) ?_
  clear W h1 h2 m3 k5 k16 k18 σ
  rintro σ W ⟨h1,h2,m3,k5,k16,k18⟩
  refine wwp_cutW W (BsA m Ls E M G) ?_ ?_
  · simp [h1,h2,m3,k5,k16,k18,h33,h34,putAt]
    refine ⟨by simp [h1],by simp [h2],by simp [m3],by simp [k5],by simp [k5],by simp [k18],by simp [k16],?_,?_⟩
    · simp [lentMem,hdsL_ren,k18]; rfl
    · intro i p hi
      have:=lentMem_LsL (lentF M Ls ++ G) i p hi
      simp only [Nat.zero_add] at this ⊢
      simp [tkB,grB,this,k18]
  clear W h1 h2 m3 k5 k16 k18 σ
  intro σ W B
  have hview : viewRows (viewC σ.m 5) (hdsL tkB 0 (lentF M Ls)) = some (lists Ls):=by
    rw [view_lent (n:=4) (LsL.front B.ls) (fun p hp=>by
      obtain ⟨L,_,rfl⟩:=List.mem_map.1 hp
      simp),lentF_view]
  refine wwp_cutW W (fun σ=>BsA m Ls E M G σ∧σ.s 7 = iv a∧σ.s 8 = iv e) ?_ ?_
  · simp [B.s5,B.m6,B.s6,B.m17,B.m19,htk,hht,hhl,hview,h15]
    exact ⟨by simp [B.s1],by simp [B.s2],by simp [B.m3],by simp [B.s5],by simp [B.m6],by simp [B.s6],by simp [B.m17],by simp [B.m19],by simpa using B.ls⟩
  clear W B hview σ
  rintro σ W ⟨B,h7,h8⟩
  refine wwp_cutW W (fun σ=>BsA m Ls E M G σ∧σ.s 7 = iv a∧σ.s 8 = iv e∧σ.s 9 = iv a∧σ.s 10 = iv e) ?_ ?_
  · simp [B.s1,B.s2,B.m3,h35,h7,h8]
    exact ⟨by simp [B.s1],by simp [B.s2],by simp [B.m3],by simp [B.s5],by simp [B.m6],by simp [B.s6],by simp [B.m17],by simp [B.m19],by simpa using B.ls⟩
  clear W B h7 h8 σ
  rintro σ W ⟨B,h7,h8,h9,h10⟩
  refine wwp_cutN 11 W (fun σ=>BsA m Ls E M G σ∧σ.s 39 = bv true∧σ.s 40 = .agg [iv m.t,iv m.r,iv m.s,iv m.c,iv m.w,.sl [17,0] 5 0 m.rows.length none]∧σ.s 41 = .agg [iv m.t,iv m.r,iv m.s,iv m.c,iv m.w,.list (rowsL m.rows)]) ?_ ?_
  · simp [B.s1,B.s2,B.m3,B.s5,B.m6,h7,h8,h9,h10]
    exact ⟨by simp [B.s1],by simp [B.s2],by simp [B.m3],by simp [B.s5],by simp [B.m6],by simp [B.s6],by simp [B.m17],by simp [B.m19],by simpa using B.ls⟩
  clear W B h7 h8 h9 h10 σ
  rintro σ W ⟨B,h39,h40,h41⟩
  simp only [List.drop_succ_cons,List.drop_zero]
  have e36:=h36 σ.m B.m17
  refine wwp_cutN 1 W (fun σ=>σ.s 1 = .list (lists Ls)∧σ.s 6 = .sl [19,0] 1 0 Ls.length none∧σ.m [19,0] = some (.row [19,0,0] 34 (hdsL tkB 0 (lentF M Ls ++ G)))∧LsL tkB grB σ.m 0 (lentF M Ls ++ G)∧σ.s 39 = bv true∧σ.s 42 = bv true) ?_ ?_
  · simp [B.s1,B.s6,h39,h40,h41,e36]
    refine ⟨by rw [adoptM_keep W B.m19]; simp only [HO.ren,hdsL_ren],fun i p hi=>by rw [adoptM_keep W (B.ls i p hi)]; simp⟩
  clear W B h39 h40 h41 e36 σ
  rintro σ W ⟨h1,h6,m19,hls,h39,h42⟩
  simp only [List.drop_succ_cons,List.drop_zero]
  have e37:=h37 σ.m m19 hls
  simp [h1,h6,h39,h42,e37]
end Go.Proofs.Ytpmgaaalfdjikaa
namespace Go.Proofs.Ytpmgaaalfdjikaa
open Go.RowKit Go.ChangeShapes Go.WideShapes Go.ChangeAt
set_option linter.unusedSimpArgs false
set_option linter.unusedVariables false
set_option linter.constructorNameAsVariable false
def S32 : List D→Option D
  | [.agg xs,.list es]=>(asMv xs).bind fun m=>(asLists es).map fun Ls=>bv (fewB m Ls)
  | _=>none
theorem s32 : OkP 32 S32:=fun ds d h=>by
  unfold S32 at h
  split at h
  · rw [Option.bind_eq_some_iff] at h
    obtain ⟨m,hm,h⟩:=h
    obtain ⟨Ls,hL,rfl⟩:=Option.map_eq_some_iff.1 h
    rw [asMv_eq hm,asLists_eq hL]
    exact c32 m Ls
  · cases h
theorem S32_at (m : Mv) (Ls : List (List Int)) : S32 [.agg m.cells,.list (lists Ls)] = some (bv (fewB m Ls)):=by
  simp only [S32,asMv_of,Option.bind_some,asLists_lists,Option.map_some]
def S33 : List D→Option (D × Mem)
  | [.agg xs]=>(asMv xs).bind fun m=>if m.rows.length≤100000 then some (.agg (m.cellsW (.sl [] 5 0 m.rows.length none)),rowMem 53 (rowsL (m.rows ++ marksR 12))) else none
  | _=>none
theorem s33 : OkQ 33 S33:=fun ds d mm h=>by
  unfold S33 at h
  split at h
  · rw [Option.bind_eq_some_iff] at h
    obtain ⟨m,hm,h⟩:=h
    split at h
    · rename_i hc
      cases h
      rw [asMv_eq hm]
      exact c33 m hc
    · cases h
  · cases h
theorem S33_at (m : Mv) (h : m.rows.length≤100000) : S33 [.agg m.cells] = some (.agg (m.cellsW (.sl [] 5 0 m.rows.length none)),rowMem 53 (rowsL (m.rows ++ marksR 12))):=by
  simp only [S33,asMv_of,Option.bind_some]
  rw [if_pos h]
def S34 : List D→Option (D × Mem)
  | [.list es]=>(asLists es).bind fun Ls=>if Ls.length≤1000∧Ls.all (fun L=>decide (L.length≤100000)) = true then some (.sl [] 1 0 Ls.length none,lentMem (lentL Ls)) else none
  | _=>none
theorem s34 : OkQ 34 S34:=fun ds d mm h=>by
  unfold S34 at h
  split at h
  · rw [Option.bind_eq_some_iff] at h
    obtain ⟨Ls,hL,h⟩:=h
    split at h
    · rename_i hc
      cases h
      rw [asLists_eq hL]
      exact c34 Ls hc.1 fun L hL=>by simpa using List.all_eq_true.1 hc.2 L hL
    · cases h
  · cases h
theorem S34_at (Ls : List (List Int)) (hl : Ls.length≤1000) (hL : ∀ L ∈ Ls,L.length≤100000) : S34 [.list (lists Ls)] = some (.sl [] 1 0 Ls.length none,lentMem (lentL Ls)):=by
  simp only [S34,asLists_lists,Option.bind_some]
  rw [if_pos ⟨hl,List.all_eq_true.2 fun L h=>decide_eq_true (hL L h)⟩]
def S35 : List D→Option D
  | [.agg xs,.list es]=>(asMv xs).bind fun m=>(asLists es).bind fun Ls=>if m.rows.length≤60∧Ls.length≤1000000∧Ls.all (fun L=>decide (L.length≤1000000)) = true then some (.tup [iv (bestR m Ls).1,iv (bestR m Ls).2]) else none
  | _=>none
theorem s35 : OkP 35 S35:=fun ds d h=>by
  unfold S35 at h
  split at h
  · rw [Option.bind_eq_some_iff] at h
    obtain ⟨m,hm,h⟩:=h
    rw [Option.bind_eq_some_iff] at h
    obtain ⟨Ls,hL,h⟩:=h
    split at h <;> cases h
    rename_i hc
    rw [asMv_eq hm,asLists_eq hL]
    exact c35 m Ls hc.1 hc.2.1 fun L hL=>by simpa using List.all_eq_true.1 hc.2.2 L hL
  · cases h
theorem S35_at (m : Mv) (Ls : List (List Int)) (hm : m.rows.length≤60) (hl : Ls.length≤1000000) (hL : ∀ L ∈ Ls,L.length≤1000000) : S35 [.agg m.cells,.list (lists Ls)] = some (.tup [iv (bestR m Ls).1,iv (bestR m Ls).2]):=by
  simp only [S35,Mv.cells,Mv.cellsW,asMv_cells,asLists_lists,Option.bind_some]
  rw [if_pos ⟨hm,hl,List.all_eq_true.2 fun L h=>decide_eq_true (hL L h)⟩]
theorem few_iff {m : Mv} {Ls : List (List Int)} : fewB m Ls = true ↔ m.rows.length≤60∧Ls.length≤70∧∀ L ∈ Ls,L.length≤50:=by
  simp [fewB,and_assoc]
theorem c11 (m : Mv) (Ls : List (List Int)) : VCp Try.prog 11 [.agg m.cells,.list (lists Ls)] (bv true):=by
  refine wcontract_p (Γ:=mkEnv [(32,S32),(15,S15),(35,S35)] [(33,S33),(34,S34)] [(36,S36),(37,S37)]) (sound_mk (by simp [s32,s15,s35]) (by simp [s33,s34]) (by simp [s36,s37])) mixed is11 (by rw [nt11]; simp) ?_ rfl
  have h32:=S32_at m Ls
  cases hf : fewB m Ls with
  | false=>
    rw [hf] at h32
    simp only [Mv.cells,Mv.cellsW] at h32
    simp [W11,Mv.cells,Mv.cellsW,h32]
  | true=>
    rw [hf] at h32
    obtain ⟨f1,f2,f3⟩:=few_iff.1 hf
    exact c11w S32 S15 S35 S33 S34 S36 S37 m Ls (marksR 12) (marksI 12) (lentE (fun i=>markI 1 i) 12) _ _ h32 (S33_at m (by omega)) (S34_at Ls (by omega) fun L h=>by have:=f3 L h; omega)
      (S15_at m Ls (by omega) fun L h=>by have:=f3 L h; omega) (S35_at m Ls f1 (by omega) fun L h=>by have:=f3 L h; omega)
      (fun Mm h=>S36_at (a:=m) h (by omega)) (fun Mm h hls=>S37_at h hls (by omega) fun L h=>by have:=f3 L h; omega)
def S11 : List D→Option D
  | [.agg xs,.list es]=>(asMv xs).bind fun m=>(asLists es).map fun Ls=>bv true
  | _=>none
theorem s11 : OkP 11 S11:=fun ds d h=>by
  unfold S11 at h
  split at h
  · rw [Option.bind_eq_some_iff] at h
    obtain ⟨m,hm,h⟩:=h
    obtain ⟨Ls,hL,rfl⟩:=Option.map_eq_some_iff.1 h
    rw [asMv_eq hm,asLists_eq hL]
    exact c11 m Ls
  · cases h
theorem S11_at (m : Mv) (Ls : List (List Int)) : S11 [.agg m.cells,.list (lists Ls)] = some (bv true):=by
  simp only [S11,asMv_of,Option.bind_some,asLists_lists,Option.map_some]
def i64ok (z : Int) : Prop:=-9223372036854775808≤z∧z≤9223372036854775807
def Mv.i64 (m : Mv) : Prop:=i64ok m.t∧i64ok m.r∧i64ok m.s∧i64ok m.c∧i64ok m.w∧∀ x ∈ m.rows,i64ok x.r∧i64ok x.t∧i64ok x.ns∧i64ok x.ew∧i64ok x.s
end Go.Proofs.Ytpmgaaalfdjikaa
namespace Go.Proofs.Ytpmgaaalfdjikaa
open Go.RowKit
set_option linter.unusedSimpArgs false
set_option linter.unusedVariables false
theorem c64g (k i : Nat) (hk : k≤1000000) (hi : i≤1000000) : VCp Try.prog 64 [iv k,iv i] (iv (markI k i)):=by
  have e1 : IntKind.i64.wrap ((k : Int) + 7) = k + 7:=wrap_in (by omega) (by omega)
  have e2 : IntKind.i64.wrap (1000003 * ((k : Int) + 7)) = 1000003 * ((k : Int) + 7):=wrap_in (by omega) (by omega)
  have e : IntKind.i64.wrap (1000003 * ((k : Int) + 7) + i) = 1000003 * ((k : Int) + 7) + i:=wrap_in (by omega) (by omega)
  refine wcontract_p sound0 mixed is64 (by rw [nt64]; simp) ?_ rfl
  simp [W64,markI,e1,e2,e]
def S64g : List D→Option D
  | [.v (.int .i64 k),.v (.int .i64 i)]=>if 0≤k∧k≤1000000∧0≤i∧i≤1000000 then some (iv (markI k i)) else none
  | _=>none
theorem s64g : OkP 64 S64g:=fun ds d h=>by
  unfold S64g at h
  split at h
  · split at h
    · rename_i k i hc
      cases h
      obtain ⟨a,rfl⟩ : ∃ a : Nat,k = a:=⟨k.toNat,by omega⟩
      obtain ⟨b,rfl⟩ : ∃ b : Nat,i = b:=⟨i.toNat,by omega⟩
      exact c64g a b (by omega) (by omega)
    · cases h
  · cases h
theorem S64g_at (k i : Nat) (hk : k≤1000000) (hi : i≤1000000) : S64g [iv k,iv i] = some (iv (markI k i)):=by
  simp only [S64g]
  rw [if_pos (by omega)]
def markRw (k i : Int) : Row:=⟨0,0,markI k i,0,0⟩
end Go.Proofs.Ytpmgaaalfdjikaa
