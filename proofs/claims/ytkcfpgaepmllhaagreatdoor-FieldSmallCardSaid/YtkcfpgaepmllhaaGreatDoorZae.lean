/- Part of the proof: symbolic execution of the program, its soundness, and the closing lemmas. No condition. -/
import Derived.Test.YtkcfpgaepmllhaaGreatDoorZac
set_option linter.unusedVariables false
set_option linter.unusedSimpArgs false
set_option linter.constructorNameAsVariable false
namespace Go.Proofs.YtkcfpgaepmllhaaGreatDoor
open Go.RowKit
def Sy.like (Y Y' : Sy) : Prop:=Y'.d = Y.d∧Y'.pd = Y.pd
theorem Sy.like.rfl' {Y : Sy} : Y.like Y:=⟨rfl,rfl⟩
theorem Sy.like.trans {Y Y' Z : Sy} (h : Y.like Y') (k : Y'.like Z) : Y.like Z:=⟨k.1.trans h.1,k.2.trans h.2⟩
theorem symStore_like {n : Nat} {g : Bool} {va vv : SV} {Y Y' : Sy} {O : List X} (h : symStore n g va vv Y = some (Y',O)) : Y.like Y':=by
  unfold symStore at h
  split at h
  · split at h
    · rw [Option.bind_eq_some_iff] at h
      obtain ⟨p,_,h⟩:=h
      split at h <;> cases h; exact ⟨rfl,rfl⟩
    · cases h
  · split at h
    · rw [Option.bind_eq_some_iff] at h
      obtain ⟨p,_,h⟩:=h
      split at h <;> cases h; exact ⟨rfl,rfl⟩
    · cases h
  · split at h
    · rw [Option.bind_eq_some_iff] at h
      obtain ⟨p,_,h⟩:=h
      rw [Option.bind_eq_some_iff] at h
      obtain ⟨p,_,h⟩:=h
      split at h <;> cases h; exact ⟨rfl,rfl⟩
    · cases h
  · split at h
    · split at h
      · obtain ⟨p,_,h2⟩:=Option.map_eq_some_iff.1 h; cases h2; exact ⟨rfl,rfl⟩
      · cases h
    · cases h
  · cases h
theorem symApp_like {x t size nm : Nat} {va vb : SV} {Y Y' : Sy} {O : List X} (h : symApp x t size va vb Y nm = some (Y',O)) : Y.like Y':=by
  unfold symApp at h
  rw [Option.bind_eq_some_iff] at h
  obtain ⟨p,_,h⟩:=h
  split at h
  · cases h; exact ⟨rfl,rfl⟩
  · split at h
    · split at h <;> cases h; exact ⟨rfl,rfl⟩
    · cases h
  · cases h
theorem symEff_like {e : Eff} {Y Y' : Sy} {O : List X} (h : symEff e Y = some (Y',O)) : Y.like Y':=by
  cases e with
  | box n g x a=>simp only [symEff] at h; obtain ⟨p,_,h2⟩:=Option.map_eq_some_iff.1 h; cases h2; exact ⟨rfl,rfl⟩
  | store n g a v=>exact symStore_like (show symStore _ _ _ _ _ = _ from h)
  | app x t size a b=>exact (show Y.like (Y.nw x) from ⟨rfl,rfl⟩).trans (symApp_like (show symApp _ _ _ _ _ _ _ = _ from h))
  | mks x t size zero a b=>
    simp only [symEff] at h
    split at h
    · cases h; exact ⟨rfl,rfl⟩
    · cases h
  | lit x t size len zero places args=>simp only [symEff] at h; obtain ⟨p,_,h2⟩:=Option.map_eq_some_iff.1 h; cases h2; exact ⟨rfl,rfl⟩
  | mkm x=>cases h; exact ⟨rfl,rfl⟩
  | mkml x e sz=>simp only [symEff] at h; split at h <;> cases h; exact ⟨rfl,rfl⟩
  | clr s z a=>
    simp only [symEff] at h
    split at h
    · split at h
      · split at h <;> cases h
        exact ⟨rfl,rfl⟩
      · cases h
    · cases h
  | ecall x k f args=>
    simp only [symEff] at h
    split at h
    · split at h
      · split at h
        · obtain ⟨p,_,h2⟩:=Option.map_eq_some_iff.1 h; cases h2; exact ⟨rfl,rfl⟩
        · cases h
      · cases h
    · cases h
  | copy x a b=>
    simp only [symEff] at h
    split at h
    · split at h
      · split at h <;> cases h
        cases x <;> exact ⟨rfl,rfl⟩
      · cases h
    · cases h
  | mupd ks a k v=>
    simp only [symEff] at h
    split at h
    · split at h
      · rw [Option.bind_eq_some_iff] at h
        obtain ⟨p,_,h⟩:=h
        obtain ⟨p,_,h2⟩:=Option.map_eq_some_iff.1 h; cases h2; exact ⟨rfl,rfl⟩
      · cases h
    · cases h
theorem symStm_like {st : VStm} {Y Y' : Sy} {O : List X} (h : symStm st Y = some (Y',O)) : Y.like Y':=by
  unfold symStm at h
  split at h
  · obtain ⟨p,_,h2⟩:=Option.map_eq_some_iff.1 h; cases h2; exact ⟨rfl,rfl⟩
  · split at h
    · split at h
      · obtain ⟨p,_,h2⟩:=Option.map_eq_some_iff.1 h; cases h2; exact ⟨rfl,rfl⟩
      · cases h; exact ⟨rfl,rfl⟩
    · obtain ⟨p,_,h2⟩:=Option.map_eq_some_iff.1 h; cases h2; exact ⟨rfl,rfl⟩
    · cases h
  · exact symEff_like h
  · split at h
    · split at h
      · exact symEff_like h
      · split at h <;> cases h <;> exact ⟨rfl,rfl⟩
    · cases h
  · cases h
theorem symRuns0_like : ∀ {sts : List VStm} {Y Y' : Sy} {O : List X},symRuns0 sts Y = some (Y',O)→Y.like Y'
  | [],Y,Y',O,h=>by cases h; exact .rfl'
  | st :: r,Y,Y',O,h=>by
    simp only [symRuns0,Option.bind_eq_some_iff,Option.map_eq_some_iff] at h
    obtain ⟨⟨Y1,O1⟩,h1,⟨Y2,O2⟩,h2,h3⟩:=h
    cases h3
    exact (symStm_like h1).trans (symRuns0_like h2)
theorem symRuns_like {sts : List VStm} {Y Y' : Sy} {O : List X} (h : symRuns sts Y = some (Y',O)) : Y.like Y':=by
  unfold symRuns at h
  split at h
  · simp only [Option.bind_eq_some_iff,Option.map_eq_some_iff] at h
    obtain ⟨⟨Y1,O1⟩,h1,⟨Y2,O2⟩,h2,⟨Y3,O3⟩,h3,h4⟩:=h
    cases h4
    refine (symRuns0_like h1).trans (Sy.like.trans ?_ (symRuns0_like h3))
    unfold symApm at h2
    split at h2
    · rw [Option.bind_eq_some_iff] at h2
      obtain ⟨⟨Y4,O4⟩,g1,h2⟩:=h2
      rw [Option.bind_eq_some_iff] at h2
      obtain ⟨⟨Y5,O5⟩,g2,h2⟩:=h2
      have k1:=symRuns0_like g1
      have k2:=symRuns0_like g2
      simp only [] at h2
      split at h2
      · split at h2
        · simp only [Option.bind_eq_some_iff] at h2
          obtain ⟨_,_,_,_,_,_,h2⟩:=h2
          split at h2 <;> cases h2
          exact Sy.like.trans (show Y1.like (Y1.unset _) from ⟨rfl,rfl⟩) (k1.trans (Sy.like.trans (show Y4.like (Y4.unset _) from ⟨rfl,rfl⟩) (k2.trans ⟨rfl,rfl⟩)))
        · cases h2
      · cases h2
    · cases h2
  · exact symRuns0_like h
theorem symRegion_like {P : Program} {fr : Cfg} {n : Nat} {ops : Array Oper} {draw : Bool} {Y Y' : Sy} {O : List X} (hs : symRegion P fr n ops draw Y = some (Y',O)) : Y.like Y':=by
  unfold symRegion at hs
  split at hs
  · split at hs
    · rw [Option.bind_eq_some_iff] at hs
      obtain ⟨q',h3,hs⟩:=hs
      split at hs <;> cases hs
      exact symRuns_like h3
    · cases hs
  · exact symRuns_like hs
theorem gc_like {Y : Sy} : Y.like Y.gc:=by
  unfold Sy.gc
  generalize (((Y.h.filter _).map (·.1)).filter _ : List Nat) = l
  induction l generalizing Y with
  | nil=>exact .rfl'
  | cons a l ih=>exact (show Y.like (Y.kill a) from ⟨rfl,rfl⟩).trans ih
theorem settle_like {ks : List Nat} {n : Nat} {Y : Sy} : Y.like (settle ks n Y).1:=by
  have h:=gc_like (Y:=Y.trim n ks)
  exact ⟨h.1,h.2⟩
def St.setO (σ : St) (x : Option Nat) (d : D) : St:=match x with
  | some x=>σ.set x d
  | none=>σ
section
variable {Ω : Raws} {G : FP} {ρ : List D} {ι γ : Nat→Tok} {Y : Sy} {σ : St}
theorem Mt.gc (M : Mt Ω G ρ ι γ Y σ) : Mt Ω G ρ ι γ Y.gc σ:=by
  unfold Sy.gc
  generalize (((Y.h.filter _).map (·.1)).filter _ : List Nat) = l
  induction l generalizing Y with
  | nil=>exact M
  | cons a l ih=>exact ih (M.kill a).1
theorem Mt.settle (M : Mt Ω G ρ ι γ Y σ) {ks : List Nat} {n : Nat} {ds : List D} (h : X.evs G ρ (settle ks n Y).2 = some ds) : Mt Ω G (ρ ++ ds) ι γ (settle ks n Y).1 σ:=by
  have M1 : Mt Ω G ρ ι γ ((Y.trim n ks).gc.bump n) σ:=(M.trim n ks).gc.sub (fun _ _ h=>h) (fun _=>rfl) rfl
  exact M1.atom h
theorem Mt.setO (M : Mt Ω G ρ ι γ Y σ) {x : Option Nat} {v : SV} {d : D} (h : ∀ i,x = some i→VR G ρ ι Y.h v d) : Mt Ω G ρ ι γ (Y.setO x v) (σ.setO x d):=by
  cases x with
  | none=>exact M
  | some i=>exact M.set (h i rfl)
theorem Mt.reslot (M : Mt Ω G ρ ι γ Y σ) {Z : Sy} {s : Nat→D} (hh : Z.h = Y.h) (hn : Z.nv = Y.nv) (hs : ∀ i v,find Z.s i = some v→VR G ρ ι Y.h v (s i)) : Mt Ω G ρ ι γ Z ⟨s,σ.m,σ.c⟩:=by
  obtain ⟨m1,m2,m3,m4,mo,mq,m5,m6,m7,m8,m9,m10,m11⟩:=M
  exact ⟨by rw [hh]; exact hs,by rw [hh]; exact m2,by rw [hh]; exact m3,by rw [hh]; exact m4,by rw [hh]; exact mo,by rw [hh]; exact mq,by rw [hh]; exact m5,by rw [hh]; exact m6,by rw [hh]; exact m7,fun x k r=>m8 x k r,by rw [hh]; exact m9,by rw [hn]; exact m10,m11⟩
theorem find_shift {α : Type} {n i : Nat} : ∀ {l : List (Nat × α)},find (shiftA n l) i = if n≤i then find l (i - n) else none
  | []=>by simp [shiftA,find]
  | (j,a) :: r=>by
    simp only [shiftA,find,find_shift (l:=r)]
    by_cases h : n≤i
    · simp only [if_pos h]
      by_cases hj : j + n = i
      · have h1 : (j + n == i) = true:=by simpa using hj
        have h2 : (j == i - n) = true:=by simp; omega
        rw [h1,h2]
      · have h1 : (j + n == i) = false:=by simpa using hj
        have h2 : (j == i - n) = false:=by simp; omega
        rw [h1,h2]
    · simp only [if_neg h]
      have h1 : (j + n == i) = false:=by simp; omega
      rw [h1]; rfl
theorem find_unshift {α : Type} {n i : Nat} : ∀ {l : List (Nat × α)},find (unshiftA n l) i = find l (i + n)
  | []=>by simp [unshiftA,find]
  | (j,a) :: r=>by
    simp only [unshiftA]
    by_cases h : j < n
    · have h1 : decide (j < n) = true:=by simpa using h
      have h2 : (j == i + n) = false:=by simp; omega
      simp only [h1,cond_true,find,h2,cond_false,find_unshift (l:=r)]
    · have h1 : decide (j < n) = false:=by simpa using h
      simp only [h1,cond_false,find,find_unshift (l:=r)]
      by_cases hj : j - n = i
      · have h3 : (j - n == i) = true:=by simpa using hj
        have h4 : (j == i + n) = true:=by simp; omega
        rw [h3,h4]
      · have h3 : (j - n == i) = false:=by simpa using hj
        have h4 : (j == i + n) = false:=by simp; omega
        rw [h3,h4]
theorem find_args {i : Nat} : ∀ {vs : List SV} {b : Nat},find (argsA b vs) i = if b≤i then vs[i - b]? else none
  | [],b=>by simp [argsA,find]
  | v :: r,b=>by
    simp only [argsA,find,find_args (vs:=r)]
    by_cases h : b = i
    · subst h; simp
    · have h1 : (b == i) = false:=by simpa using h
      simp only [h1,cond_false]
      by_cases h2 : b≤i
      · obtain ⟨k,hk⟩ : ∃ k,i - b = k + 1:=⟨i - b - 1,by omega⟩
        rw [if_pos h2,if_pos (show b + 1≤i by omega),hk,show i - (b + 1) = k by omega]; rfl
      · rw [if_neg h2,if_neg (show ¬ b + 1≤i by omega)]
def enterS (n : Nat) (ds : List D) (s : Nat→D) : Nat→D:=fun i=>if i < n then ds.getD i .undef else s (i - n)
theorem Mt.enter (M : Mt Ω G ρ ι γ Y σ) {n n0 : Nat} {vs : List SV} {ds : List D} (hv : VRs G ρ ι Y.h vs ds) (hl : vs.length≤n) : Mt Ω G ρ ι γ (Y.enter n n0 vs) ⟨enterS n ds σ.s,σ.m,σ.c⟩:=by
  refine M.reslot rfl rfl fun i v hf=>?_
  simp only [Sy.enter,find_append,find_args,find_shift,Nat.zero_le,if_true,Nat.sub_zero] at hf
  have hlen:=hv.1
  by_cases hi : i < vs.length
  · rw [List.getElem?_eq_getElem hi,Option.some_or] at hf
    cases hf
    have hd : ds[i]? = some (ds.getD i .undef):=by
      have : i < ds.length:=by omega
      simp [List.getD,this]
    simp only [enterS,if_pos (show i < n by omega)]
    exact hv.2 i _ _ (List.getElem?_eq_getElem hi) hd
  · rw [List.getElem?_eq_none (by omega),Option.none_or] at hf
    split at hf
    · rename_i hn
      simp only [enterS,if_neg (show ¬ i < n by omega)]
      exact M.slot _ _ hf
    · cases hf
theorem Mt.leave (M : Mt Ω G ρ ι γ Y σ) (n : Nat) : Mt Ω G ρ ι γ (Y.leave n) ⟨fun i=>σ.s (i + n),σ.m,σ.c⟩:=
  M.reslot rfl rfl fun i v hf=>by
    simp only [Sy.leave,find_unshift] at hf
    exact M.slot _ _ hf
theorem rawRes_sound (M : Mt Ω G ρ ι γ Y σ) {r : VRes} {v : SV} (h : rawRes Y r = some v) : ∃ d,r.val σ = some d∧VR G ρ ι Y.h v d:=by
  cases r with
  | t i=>cases h; exact ⟨_,rfl,valS_rep M (.t i)⟩
  | cell i n g=>
    simp only [rawRes,Option.bind_eq_some_iff] at h
    obtain ⟨⟨v',O⟩,h1,h2⟩:=h
    split at h2 <;> cases h2
    rename_i ho
    have hO : O = []:=List.isEmpty_iff.1 ho
    subst hO
    exact symOp_sound M (VRs.mk (valS_rep M (.t i)) VRs.nil) h1 (fun e he=>by cases he)
theorem rawMany_sound (M : Mt Ω G ρ ι γ Y σ) : ∀ {rs : List VRes} {vs : List SV},rs.mapM (rawRes Y) = some vs→∃ ds,rs.mapM (VRes.val σ) = some ds∧VRs G ρ ι Y.h vs ds
  | [],vs,h=>by simp at h; subst h; exact ⟨[],rfl,VRs.nil⟩
  | r :: rs,vs,h=>by
    simp only [List.mapM_cons,Option.bind_eq_bind,Option.bind_eq_some_iff,Option.pure_def,Option.some.injEq] at h
    obtain ⟨y,g1,ys,g2,rfl⟩:=h
    obtain ⟨d,k1,k2⟩:=rawRes_sound M g1
    obtain ⟨ds,k3,k4⟩:=rawMany_sound M g2
    exact ⟨d :: ds,by simp [List.mapM_cons,k1,k3],VRs.mk k2 k4⟩
theorem rawRs_sound (M : Mt Ω G ρ ι γ Y σ) {rs : List VRes} {v : SV} (h : rawRs rs Y = some v) : ∃ d,resV rs σ = some d∧VR G ρ ι Y.h v d:=by
  unfold rawRs at h
  split at h
  · exact rawRes_sound M h
  · rename_i hne
    obtain ⟨vs,h1,rfl⟩:=Option.map_eq_some_iff.1 h
    obtain ⟨ds,k1,k2⟩:=rawMany_sound M h1
    refine ⟨.tup ds,?_,.tup k2.1 k2.2⟩
    unfold resV
    split
    · rename_i r; exact absurd rfl (hne r)
    · rw [k1]; rfl
end
section
variable {P : Program} {w0 w : World} {pr : Prot} {A : Area} {n : Nat} {tk : Places} {σ : St} {cs : Array Value}
def savV (n' n : Nat) (cs : Array Value) (sv : Nat→Value) : Nat→Value:=fun i=>if i - n' < n then cs.getD (i - n') undef else sv (i - n')
theorem Rel.enter (R : Rel P w0 pr A n w cs σ tk) {n' : Nat} {cargs : Array Value} {ds : List D} (hr : Reps w pr tk cargs.toList ds) (hl : ds.length≤n') :
    Rel P w0 pr { A with sv:=savV n' n cs A.sv } n' w (cargs ++ Array.replicate (n' - cargs.size) undef) ⟨enterS n' ds σ.s,σ.m,σ.c⟩ tk:=by
  have hsz : cargs.size = ds.length:=by simpa using hr.length
  refine ⟨by simp; omega,R.chg,R.prlt,R.prA,R.glob,R.mem,R.live,R.fresh,R.zero,R.one,fun i hi=>?_,fun i hi=>?_⟩
  · simp only [enterS,if_pos hi]
    by_cases hlt : i < cargs.size
    · have e : (cargs ++ Array.replicate (n' - cargs.size) undef).getD i undef = cargs[i]:=by
        simp [Array.getD_eq_getD_getElem?,Array.getElem?_append_left hlt,hlt]
      have hd : i < ds.length:=by omega
      rw [e,show ds.getD i .undef = ds[i] by simp [List.getD,hd]]
      exact reps_get hr i _ _ (by simp [hlt]) (by simp [hd])
    · have e : ds.getD i .undef = .undef:=by simp [List.getD,List.getElem?_eq_none (show ds.length≤i by omega)]
      rw [e]; exact .undef
  · simp only [enterS,if_neg (show ¬ i < n' by omega),savV]
    split
    · rename_i h; exact R.slot _ h
    · rename_i h; exact R.sav _ (by omega)
theorem Under.enter {B : Base} (U : Under B w0 pr A) (n' n : Nat) (cs : Array Value) : Under { B with A:={ B.A with sv:=savV n' n cs B.A.sv } } w0 pr { A with sv:=savV n' n cs A.sv }:=
  ⟨U.chg,U.sub,U.z,by simp only [U.sv],U.sup,U.inf⟩
theorem RelE.leave {B : Base} {n' : Nat} {a : Act} {w1 : World} {pr1 : Prot} {A1 : Area} {tk1 : Places} {cs' : Array Value} (R : Rel P w1 pr1 A1 n' w cs' σ tk1) (U : Under { B with A:={ B.A with sv:=savV n' n a.tmps B.A.sv } } w1 pr1 A1)
    (hs : a.tmps.size = n) {x : Option Nat} (hx : ∀ i,x = some i→i < n) {v : Value} {d : D} (hv : Rep w pr1 tk1 v d) : RelE P B n w (a.put x v).tmps (St.setO ⟨fun i=>σ.s (i + n'),σ.m,σ.c⟩ x d):=by
  have hsv : A1.sv = savV n' n a.tmps B.A.sv:=U.sv
  have R1 : Rel P w1 pr1 { A1 with sv:=B.A.sv } n w a.tmps ⟨fun i=>σ.s (i + n'),σ.m,σ.c⟩ tk1:=by
    refine ⟨hs,R.chg,R.prlt,R.prA,R.glob,R.mem,R.live,R.fresh,R.zero,R.one,fun i hi=>?_,fun i hi=>?_⟩
    · have h:=R.sav (i + n') (by omega)
      rw [hsv] at h
      simp only [savV,Nat.add_sub_cancel,if_pos hi] at h
      exact h
    · have h:=R.sav (i + n') (by omega)
      rw [hsv] at h
      simp only [savV,Nat.add_sub_cancel,if_neg (show ¬ i < n by omega)] at h
      exact h
  refine ⟨w1,pr1,{ A1 with sv:=B.A.sv },tk1,?_,⟨U.chg,U.sub,U.z,rfl,U.sup,U.inf⟩⟩
  cases x with
  | none=>exact R1
  | some i=>exact R1.put (hx i rfl) (Chg.refl _ _) hv
end
def Raws.le (S : List Nat) (Ω Ω' : Raws) : Prop:=(∀ t,Ω.c t→Ω'.c t)∧∀ nm,nm ∈ S→Ω'.t nm = Ω.t nm∧Ω'.f nm = Ω.f nm
theorem Raws.le.rfl' {S : List Nat} {Ω : Raws} : Ω.le S Ω:=⟨fun _ h=>h,fun _ _=>⟨rfl,rfl⟩⟩
theorem Raws.le.trans {S : List Nat} {Ω Ω' Ω2 : Raws} (h : Ω.le S Ω') (k : Ω'.le S Ω2) : Ω.le S Ω2:=
  ⟨fun t ht=>k.1 t (h.1 t ht),fun nm hn=>⟨(k.2 nm hn).1.trans (h.2 nm hn).1,(k.2 nm hn).2.trans (h.2 nm hn).2⟩⟩
theorem Raws.le.sub {S S' : List Nat} {Ω Ω' : Raws} (h : Ω.le S Ω') (hs : ∀ x,x ∈ S'→x ∈ S) : Ω.le S' Ω':=⟨h.1,fun nm hn=>h.2 nm (hs nm hn)⟩
abbrev mark (b : Nat) : Deferred:={ target:=.collected b,args:=#[] }
def DM (Ω0 Ω : Raws) (l : List Deferred) : Prop:=(∀ t,Ω0.c t→Ω.c t)∧l.Nodup∧∀ d ∈ l,∃ b,d = mark b∧Ω.c [b + 1]∧¬ Ω0.c [b + 1]
theorem DM.mono {S : List Nat} {Ω0 Ω Ω' : Raws} {l : List Deferred} (h : DM Ω0 Ω l) (k : Ω.le S Ω') : DM Ω0 Ω' l:=⟨fun t ht=>k.1 t (h.1 t ht),h.2.1,fun d hd=>let ⟨b,h1,h2,h3⟩:=h.2.2 d hd; ⟨b,h1,k.1 _ h2,h3⟩⟩
theorem DM.nil {Ω : Raws} : DM Ω Ω []:=⟨fun _ h=>h,List.nodup_nil,fun d h=>by cases h⟩
section
variable {Ω : Raws} {G : FP} {ρ : List D} {ι γ : Nat→Tok} {Y : Sy} {σ : St}
theorem raw_m {σ : St} {b : Nat} {o : Obj} {t : Tok} : (σ.raw b o).m t = if t = [b + 1] then some (.raw o) else σ.m t:=rfl
theorem Mt.mem (M : Mt Ω G ρ ι γ Y σ) {σ' : St} {Ω' : Raws} (hs : σ'.s = σ.s) (hc : σ'.c = σ.c) (W : WF σ') (hm : ∀ n o,find Y.h n = some o→ι n ≠ []→σ'.m (ι n) = σ.m (ι n)) (hown : ∀ q,Owned Y.h ι γ σ q→σ'.m q.u = σ.m q.u)
    (hr : ∀ n k,find Y.h n = some (.raw k)→Ω'.t n = Ω.t n∧Ω'.f n k = Ω.f n k∧¬ Ω'.c (ι n)) (hcon : ∀ t,Ω'.c t→σ'.m t = some (.raw (.deferred (some [])))) : Mt Ω' G ρ ι γ Y σ':=by
  refine ⟨fun i v hv=>by rw [hs]; exact M.slot i v hv,fun n vs hn=>?_,fun n e sz c hn=>?_,fun n c hn=>?_,fun n e sz c hn=>?_,M.one,fun n k hn=>?_,M.inj,M.grp,W,fun n e sz c hn=>by rw [hc]; exact M.old n e sz c hn,M.nv,hcon⟩
  · obtain ⟨ds,h1,h2,h3⟩:=M.box n vs hn
    exact ⟨ds,h1,by rw [hm n _ hn h1]; exact h2,h3⟩
  · obtain ⟨es,h1,h2,h3⟩:=M.lst n e sz c hn
    refine ⟨es,h1,h2,?_⟩
    rcases h3 with h3 | ⟨h3,h4⟩
    · exact .inl h3
    · exact .inr ⟨h3,by rw [hm n _ hn h3]; exact h4⟩
  · obtain ⟨es,h1,h2,h3⟩:=M.mpo n c hn
    exact ⟨es,h1,h2,by rw [hm n _ hn h2]; exact h3⟩
  · obtain ⟨L,h1,h2,h3,h4⟩:=M.own n e sz c hn
    exact ⟨L,h1,h2,by rw [hm n _ hn h2]; exact h3,fun q hq=>(h4.1 q hq).keep (hown q ⟨n,e,sz,c,L,hn,h3,h4,hq⟩) (h4.1 q hq).2.2.2.1 (h4.1 q hq).2.2.2.2.1 (fun y=>by rw [hc]; exact Nat.le_refl _),h4.2⟩
  · obtain ⟨h1,h2,h3,_⟩:=M.rwo n k hn
    obtain ⟨k1,k2,k3⟩:=hr n k hn
    exact ⟨by rw [k1]; exact h1,h2,by rw [hm n _ hn h2,k2]; exact h3,k3⟩
theorem Mt.liveM (M : Mt Ω G ρ ι γ Y σ) {n : Nat} {o : SO} (h : find Y.h n = some o) (hi : ι n ≠ []) : σ.m (ι n) ≠ none:=fun e=>by
  obtain ⟨q,hq⟩:=M.live h hi
  rw [hq] at e; cases e
theorem Mt.setRaw (M : Mt Ω G ρ ι γ Y σ) {nm l : Nat} {k : RS} (hf : find Y.h nm = some (.raw k)) (ht : ι nm = [l + 1]) (k' : RS) : Mt Ω G ρ ι γ (Y.raw nm k') (σ.raw l (Ω.f nm k')):=by
  obtain ⟨r1,r2,r3,r4⟩:=M.rwo nm k hf
  have hf' : ∀ j,find (Y.raw nm k').h j = if j = nm then some (.raw k') else find Y.h j:=fun j=>find_set nm j _ Y.h
  have vr : ∀ {v : SV} {d : D},VR G ρ ι Y.h v d→VR G ρ ι (Y.raw nm k').h v d:=fun H=>H.mono (fun _ _ h=>h) fun j _=>⟨rfl,fun o ho=>by
    by_cases hj : j = nm
    · subst hj
      rw [hf] at ho; cases ho
      exact ⟨.raw k',by rw [hf',if_pos rfl],trivial⟩
    · exact ⟨o,by rw [hf',if_neg hj]; exact ho,by cases o <;> simp only [SO.like]; exact ⟨trivial,trivial,fun es he=>⟨es,he,rfl⟩⟩⟩⟩
  have ne : ∀ {j : Nat} {o : SO},j ≠ nm→find Y.h j = some o→ι j ≠ []→ι j ≠ [l + 1]:=fun hj ho hi e=>hj (M.inj _ _ _ _ ho hf (by rw [e,ht]) hi)
  have back : ∀ {j : Nat} {o : SO},(∀ q,o ≠ .raw q)→find (Y.raw nm k').h j = some o→j ≠ nm∧find Y.h j = some o:=fun {j o} hq h=>by
    rw [hf'] at h
    by_cases hj : j = nm
    · rw [if_pos hj] at h; cases h; exact absurd rfl (hq k')
    · rw [if_neg hj] at h; exact ⟨hj,h⟩
  have anyO : ∀ {j : Nat} {o : SO},find (Y.raw nm k').h j = some o→∃ o',find Y.h j = some o':=fun {j o} h=>by
    rw [hf'] at h
    by_cases hj : j = nm
    · rw [hj]; exact ⟨_,hf⟩
    · rw [if_neg hj] at h; exact ⟨_,h⟩
  refine ⟨fun i v hv=>vr (M.slot i v hv),fun n vs hn=>?_,fun n e sz c hn=>?_,fun n c hn=>?_,fun n e sz c hn=>?_,fun a b _ _ _ _ _ _ h1 h2=>M.one a b _ _ _ _ _ _ (back (by simp) h1).2 (back (by simp) h2).2,fun n kk hn=>?_,fun a b o o' h1 h2=>?_,fun a b e e' sz sz' c c' h1 h2=>?_,M.wf.raw l _,fun n e sz c hn=>?_,M.nv,fun t h=>?_⟩
  · obtain ⟨hj,hn⟩:=back (by simp) hn
    obtain ⟨ds,h1,h2,h3⟩:=M.box n vs hn
    exact ⟨ds,h1,by rw [raw_m,if_neg (ne hj hn h1)]; exact h2,h3.1,fun i v d hv hd=>vr (h3.2 i v d hv hd)⟩
  · obtain ⟨hj,hn⟩:=back (by simp) hn
    obtain ⟨es,h1,h2,h3⟩:=M.lst n e sz c hn
    refine ⟨es,h1,h2,?_⟩
    rcases h3 with h3 | ⟨h3,h4⟩
    · exact .inl h3
    · exact .inr ⟨h3,by rw [raw_m,if_neg (ne hj hn h3)]; exact h4⟩
  · obtain ⟨hj,hn⟩:=back (by simp) hn
    obtain ⟨es,h1,h2,h3⟩:=M.mpo n c hn
    exact ⟨es,h1,h2,by rw [raw_m,if_neg (ne hj hn h2)]; exact h3⟩
  · obtain ⟨hj,hn⟩:=back (by simp) hn
    obtain ⟨L,h1,h2,h3,h4⟩:=M.own n e sz c hn
    refine ⟨L,h1,h2,by rw [raw_m,if_neg (ne hj hn h2)]; exact h3,fun q hq=>(h4.1 q hq).keep ?_ (fun k o hk=>?_) (fun k e sz c hk=>(h4.1 q hq).2.2.2.2.1 k e sz c (back (by simp) hk).2) (fun _=>Nat.le_refl _),h4.2⟩
    · rw [raw_m,if_neg fun e=>(h4.1 q hq).2.2.2.1 nm _ hf (by rw [ht,e])]
    · obtain ⟨o',ho'⟩:=anyO hk
      exact (h4.1 q hq).2.2.2.1 k o' ho'
  · rw [hf'] at hn
    by_cases hj : n = nm
    · rw [if_pos hj] at hn; cases hn
      subst hj
      exact ⟨r1,r2,by rw [raw_m,if_pos ht],r4⟩
    · rw [if_neg hj] at hn
      obtain ⟨h1,h2,h3,h4⟩:=M.rwo n kk hn
      exact ⟨h1,h2,by rw [raw_m,if_neg (ne hj hn h2)]; exact h3,h4⟩
  · obtain ⟨_,g1⟩:=anyO h1
    obtain ⟨_,g2⟩:=anyO h2
    exact M.inj a b _ _ g1 g2
  · obtain ⟨_,g1⟩:=back (by simp) h1
    obtain ⟨_,g2⟩:=back (by simp) h2
    exact M.grp a b e e' sz sz' c c' g1 g2
  · obtain ⟨_,g1⟩:=back (by simp) hn
    exact M.old n e sz c g1
  · rw [raw_m,if_neg (fun e=>r4 (by rw [ht,← e]; exact h))]
    exact M.con t h
theorem Mt.dropRaw (M : Mt Ω G ρ ι γ Y σ) {nm l : Nat} {k : RS} (hf : find Y.h nm = some (.raw k)) (ht : ι nm = [l + 1]) (o : Obj) : Mt Ω G ρ ι γ (Y.kill nm) (σ.raw l o):=by
  obtain ⟨r1,r2,r3,r4⟩:=M.rwo nm k hf
  have M1:=(M.kill nm).1
  refine M1.mem rfl rfl (M.wf.raw l o) (fun n o' hn hi=>?_) (fun q hq=>?_) (fun n kk hn=>⟨rfl,rfl,(M1.rwo n kk hn).2.2.2⟩) fun t h=>?_
  · obtain ⟨hne,o0,h0,_⟩:=kill_find' hn
    rw [raw_m,if_neg fun e=>hne (M.inj _ _ _ _ h0 hf (by rw [e,ht]) hi)]
  · obtain ⟨q',hq',h1,_⟩:=hq.kill M
    rw [raw_m,if_neg fun e=>M.own_ne hf hq' (by rw [h1,e,ht])]
  · rw [raw_m,if_neg (fun e=>r4 (by rw [ht,← e]; exact h))]
    exact M.con t h
def updN {α : Type} (f : Nat→α) (n : Nat) (a : α) : Nat→α:=fun k=>if k = n then a else f k
theorem unusedS {α : Type} : ∀ (l : List (Nat × α)),∃ b,∀ x,b≤x→find l x = none
  | []=>⟨0,fun _ _=>rfl⟩
  | (i,a) :: r=>by
    obtain ⟨b,hb⟩:=unusedS r
    refine ⟨max b (i + 1),fun x hx=>?_⟩
    have : (i == x) = false:=by simp; omega
    simp only [find,this,cond_false]
    exact hb x (by omega)
theorem Mt.newRec (M : Mt Ω G ρ ι γ Y σ) {nm b : Nat} {g : RS→Obj} (h1 : σ.m [b + 1] = none) (h2 : σ.m [b + 1 + 1] = none) :
    Mt ⟨updN Ω.t nm [b + 1 + 1],updN Ω.f nm g,fun t=>Ω.c t ∨ t = [b + 1]⟩ G ρ (updN ι nm [b + 1 + 1]) (updN γ nm []) (Y.newRec nm) ((σ.raw b (.deferred (some []))).raw (b + 1) (g .ready)):=by
  obtain ⟨M1,F1⟩:=M.kill nm
  have hne : ∀ {n : Nat} {o : SO},find (Y.kill nm).h n = some o→ι n ≠ []→ι n ≠ [b + 1]∧ι n ≠ [b + 1 + 1]:=fun hn hi=>⟨fun e=>M1.liveM hn hi (by rw [e]; exact h1),fun e=>M1.liveM hn hi (by rw [e]; exact h2)⟩
  have hc2 : ∀ t,Ω.c t→t ≠ [b + 1]∧t ≠ [b + 1 + 1]:=fun t ht=>by
    have hq:=M.con t ht
    refine ⟨fun e=>?_,fun e=>?_⟩
    · rw [e,h1] at hq; cases hq
    · rw [e,h2] at hq; cases hq
  have e12 : ([b + 1] : Tok) ≠ [b + 1 + 1]:=by simp
  have M2 : Mt ⟨updN Ω.t nm [b + 1 + 1],updN Ω.f nm g,fun t=>Ω.c t ∨ t = [b + 1]⟩ G ρ ι γ (Y.kill nm) ((σ.raw b (.deferred (some []))).raw (b + 1) (g .ready)):=by
    refine M1.mem rfl rfl ((M.wf.raw b _).raw _ _) (fun n o hn hi=>?_) (fun q hq=>?_) (fun n k hn=>?_) fun t ht=>?_
    · rw [raw_m,if_neg (hne hn hi).2,raw_m,if_neg (hne hn hi).1]
    · obtain ⟨_,p1,_⟩:=hq.mem
      rw [raw_m,if_neg (fun e=>by rw [e,h2] at p1; cases p1),raw_m,if_neg (fun e=>by rw [e,h1] at p1; cases p1)]
    · have hnn : n ≠ nm:=(kill_find' hn).1
      obtain ⟨_,g2,_,g4⟩:=M1.rwo n k hn
      refine ⟨if_neg hnn,?_,?_⟩
      · show updN Ω.f nm g n k = _
        simp only [updN,if_neg hnn]
      · rintro (h | h)
        · exact g4 h
        · exact (hne hn g2).1 h
    · rcases ht with ht | rfl
      · rw [raw_m,if_neg (hc2 t ht).2,raw_m,if_neg (hc2 t ht).1]; exact M.con t ht
      · rw [raw_m,if_neg e12,raw_m,if_pos rfl]
  obtain ⟨x0,hx0⟩:=unusedS (Y.kill nm).s
  have hnq : ∀ q,Owned (Y.kill nm).h ι γ ((σ.raw b (.deferred (some []))).raw (b + 1) (g .ready)) q→q.u ≠ [b + 1 + 1]:=fun q hq e=>by
    obtain ⟨_,p1,_⟩:=hq.mem
    rw [e,raw_m,if_pos rfl] at p1; cases p1
  have M3:=M2.add (x:=x0) F1 (o:=.raw .ready) (v:=.un) (t:=[b + 1 + 1]) (g:=[]) M2.wf (fun _ _=>rfl) (fun _ _ _ _=>rfl) (fun _=>Nat.le_refl _) (fun _ _ h=>h) .un
    ⟨by simp [updN],by simp,by rw [raw_m,if_pos rfl]; simp [updN],fun h=>by
      rcases h with h | h
      · exact (hc2 _ h).2 rfl
      · exact e12 h.symm⟩ (fun _ n o hn e=>(hne hn (by rw [e]; simp)).2 e) (fun q hq=>⟨fun e=>hnq q hq e.symm,fun _ h=>(by obtain ⟨_,_,_,h⟩:=h; cases h),rfl⟩)
  refine M3.sub (fun i v hv=>?_) (fun _=>rfl) rfl
  simp only [Sy.add,find_set]
  have hv' : find (Y.kill nm).s i = some v:=hv
  by_cases hi : i = x0
  · rw [hi,hx0 x0 (Nat.le_refl _)] at hv'; cases hv'
  · rw [if_neg hi]; exact hv'
theorem find_take {α : Type} {n i : Nat} : ∀ {l : List (Nat × α)},find (takeA n l) i = if i < n then find l i else none
  | []=>by simp [takeA,find]
  | (j,a) :: r=>by
    simp only [takeA]
    by_cases h : j < n
    · have h1 : decide (j < n) = true:=by simpa using h
      simp only [h1,cond_true,find,find_take (l:=r)]
      by_cases hj : j = i
      · subst hj; simp [h]
      · have h2 : (j == i) = false:=by simpa using hj
        simp only [h2,cond_false]
    · have h1 : decide (j < n) = false:=by simpa using h
      simp only [h1,cond_false,find,find_take (l:=r)]
      by_cases hi : i < n
      · have h2 : (j == i) = false:=by simp; omega
        simp only [h2,cond_false,if_pos hi]
      · simp only [if_neg hi]
def roundS (n off : Nat) (s : Nat→D) : Nat→D:=fun i=>if i < n then s (off + i) else s (i - n)
theorem putA_rep {h : List (Nat × SO)} : ∀ {ps : List Nat} {vs : List SV} {ds : List D} {l : List (Nat × SV)} {s : Nat→D},VRs G ρ ι h vs ds→(∀ i v,find l i = some v→VR G ρ ι h v (s i))→∀ i v,find (putA ps vs l) i = some v→VR G ρ ι h v (putS ps ds s i)
  | [],vs,ds,l,s,_,hl,i,v,hf=>by simp only [putA] at hf; simp only [putS]; exact hl i v hf
  | p :: ps,[],ds,l,s,hv,hl,i,v,hf=>by
    have : ds = []:=List.eq_nil_of_length_eq_zero hv.1.symm
    subst this
    simp only [putA] at hf; simp only [putS]; exact hl i v hf
  | p :: ps,u :: vs,ds,l,s,hv,hl,i,v,hf=>by
    obtain ⟨d,ds',rfl,h1,h2⟩:=hv.cons
    simp only [putA] at hf
    simp only [putS]
    refine putA_rep h2 (fun j w hw=>?_) i v hf
    rw [find_set] at hw
    by_cases hj : j = p
    · rw [if_pos hj] at hw; cases hw
      simp only [if_pos hj]; exact h1
    · rw [if_neg hj] at hw
      simp only [if_neg hj]; exact hl j w hw
theorem Mt.round (M : Mt Ω G ρ ι γ Y σ) {n off n0 : Nat} {ps : List Nat} {vs : List SV} {ds : List D} (hv : VRs G ρ ι Y.h vs ds) : Mt Ω G ρ ι γ (Y.round n off ps vs n0) ⟨putS ps ds (roundS n off σ.s),σ.m,σ.c⟩:=by
  refine M.reslot rfl rfl fun i v hf=>putA_rep hv (fun j u hu=>?_) i v hf
  rw [find_append,find_take,find_unshift,find_shift] at hu
  by_cases hj : j < n
  · rw [if_pos hj,if_neg (show ¬ n≤j by omega),Option.or_none] at hu
    simp only [roundS,if_pos hj]
    rw [Nat.add_comm]; exact M.slot _ _ hu
  · rw [if_neg hj,Option.none_or,if_pos (by omega)] at hu
    simp only [roundS,if_neg hj]
    exact M.slot _ _ hu
end
section
variable {P : Program} {w0 w : World} {pr : Prot} {A : Area} {n : Nat} {tk : Places} {σ : St} {cs : Array Value}
theorem putP_size : ∀ {ps : List Nat} {vs : List Value} {cs : Array Value},(putP ps vs cs).size = cs.size
  | [],_,_=>rfl
  | _ :: _,[],_=>rfl
  | p :: ps,v :: vs,cs=>by simp only [putP,putP_size,Array.size_setIfInBounds]
theorem putP_rep : ∀ {ps : List Nat} {vs : List Value} {ds : List D} {cs : Array Value} {s : Nat→D},Reps w pr tk vs ds→(∀ i,i < cs.size→Rep w pr tk (cs.getD i undef) (s i))→∀ i,i < cs.size→Rep w pr tk ((putP ps vs cs).getD i undef) (putS ps ds s i)
  | [],_,_,_,_,_,h,i,hi=>h i hi
  | _ :: _,[],[],_,_,_,h,i,hi=>h i hi
  | _ :: _,[],_ :: _,_,_,hr,_,_,_=>absurd hr (by simp [Reps])
  | _ :: _,_ :: _,[],_,_,hr,_,_,_=>absurd hr (by simp [Reps])
  | p :: ps,v :: vs,d :: ds,cs,s,hr,h,i,hi=>by
    simp only [putP,putS]
    refine putP_rep hr.2 (fun j hj=>?_) i (by simpa using hi)
    rw [Array.size_setIfInBounds] at hj
    by_cases hp : p < cs.size
    · rw [getD_put hp]
      by_cases e : j = p
      · rw [if_pos e,if_pos e]; exact hr.1
      · rw [if_neg e,if_neg e]; exact h j hj
    · rw [if_neg (show j ≠ p by omega),Array.setIfInBounds_eq_of_size_le (by omega)]; exact h j hj
theorem putS_ge {n : Nat} : ∀ {ps : List Nat} {ds : List D} {s : Nat→D} {i : Nat},(∀ p ∈ ps,p < n)→n≤i→putS ps ds s i = s i
  | [],_,_,_,_,_=>rfl
  | _ :: _,[],_,_,_,_=>rfl
  | p :: ps,d :: ds,s,i,hp,hi=>by
    simp only [putS]
    rw [putS_ge (fun q hq=>hp q (List.mem_cons_of_mem _ hq)) hi]
    have:=hp p (List.mem_cons_self ..)
    rw [if_neg (by omega)]
theorem Rel.round {n0 : Nat} (R : Rel P w0 pr A n0 w cs σ tk) {off : Nat} {T : Array Value} {ps : List Nat} {cargs : List Value} {ds : List D} (hT : T.size = n) (hA : ∀ i,i < n→n0≤off + i∧A.sv (off + i) = T.getD i undef) (hr : Reps w pr tk cargs ds) (hp : ∀ p ∈ ps,p < n) :
    Rel P w0 pr { A with sv:=savV n n0 cs A.sv } n w (putP ps cargs T) ⟨putS ps ds (roundS n off σ.s),σ.m,σ.c⟩ tk:=by
  refine ⟨by rw [putP_size]; exact hT,R.chg,R.prlt,R.prA,R.glob,R.mem,R.live,R.fresh,R.zero,R.one,fun i hi=>?_,fun i hi=>?_⟩
  · refine putP_rep hr (fun j hj=>?_) i (by omega)
    obtain ⟨h1,h2⟩:=hA j (by omega)
    simp only [roundS,if_pos (show j < n by omega)]
    rw [← h2]; exact R.sav _ h1
  · show Rep w pr tk (savV n n0 cs A.sv i) (putS ps ds (roundS n off σ.s) i)
    rw [putS_ge hp hi]
    simp only [roundS,if_neg (show ¬ i < n by omega),savV]
    split
    · rename_i h; exact R.slot _ h
    · rename_i h; exact R.sav _ (by omega)
end
end Go.Proofs.YtkcfpgaepmllhaaGreatDoor
namespace Go.Proofs.YtkcfpgaepmllhaaGreatDoor
open Go.RowKit
def inGrp (L : List OE) (g : Tok) : Bool:=L.any fun q=>decide (q.g = g)
def frzM (t : Tok) (L : List OE) (m : Mem) : Mem:=fun τ=>if τ = t then some (.map (L.map OE.pr)) else match m τ with
  | some (.row g e es)=>if inGrp L g then none else some (.row g e es)
  | o=>o
theorem frzM_at {t : Tok} {L : List OE} {m : Mem} : frzM t L m t = some (.map (L.map OE.pr)):=if_pos rfl
theorem frzM_sub {t : Tok} {L : List OE} {m : Mem} {τ : Tok} {o : HO} (hne : τ ≠ t) (h : frzM t L m τ = some o) : m τ = some o∧∀ g e es,o = .row g e es→inGrp L g = false:=by
  simp only [frzM,if_neg hne] at h
  split at h
  · rename_i g e es hm
    split at h <;> cases h
    rename_i hg
    exact ⟨hm,fun g' e' es' he=>by cases he; simpa using hg⟩
  · rename_i hno
    exact ⟨h,fun g e es he=>by subst he; exact absurd h (hno g e es)⟩
theorem sl_inv {w : World} {pr : Prot} {tk : Places} {v : Value} {t : Tok} {size off len : Nat} {lim : Option Nat} (h : Rep w pr tk v (.sl t size off len lim)) : ∃ b cap c o,tk t = some (b,cap)∧v = .slice (some ⟨b,o,none⟩) len c∧(o = off * size ∨ (c = 0∧0 < off)):=by
  cases h with
  | sl ht hc hl ho=>exact ⟨_,_,_,_,ht,rfl,ho⟩
theorem inGrp_mem {L : List OE} {q : OE} (h : q ∈ L) : inGrp L q.g = true:=List.any_eq_true.2 ⟨q,h,by simp⟩
section
variable {P : Program} {w0 w : World} {pr : Prot} {A : Area} {n : Nat} {tk : Places} {σ : St} {a : Act} {B : Base}
theorem rel_freeze (R : Rel P w0 pr A n w a.tmps σ tk) (U : Under B w0 pr A) {t : Tok} {L : List OE} {e sz : Nat} (hm : σ.m t = some (.map (L.map (OE.en sz)))) (hq : ∀ q ∈ L,σ.m q.u = some (.row q.g e q.es)∧rowsOK sz q.es = true) :
    RelE P B n w a.tmps ⟨σ.s,frzM t L σ.m,σ.c⟩:=by
  let pr' : Prot:=fun b o=>pr b o ∨ ∃ q,q ∈ L∧∃ cap,tk q.u = some (b,cap)∧o < q.es.length * P.cellsOf e
  have K : Keeps w w pr pr' tk tk:=⟨fun b o h=>⟨rfl,.inl h⟩,fun _ _ h=>h⟩
  have une : ∀ q,q ∈ L→q.u ≠ t:=fun q hqm e=>by
    have:=(hq q hqm).1
    rw [e,hm] at this; cases this
  have src : ∀ {τ : Tok} {o : HO},frzM t L σ.m τ = some o→∃ o0,σ.m τ = some o0∧o0.grp = o.grp:=fun {τ o} h=>by
    by_cases hne : τ = t
    · subst hne
      rw [frzM_at] at h
      cases h
      exact ⟨_,hm,rfl⟩
    · exact ⟨o,(frzM_sub hne h).1,rfl⟩
  have apart : ∀ {q : OE} {b cap c : Nat} {τ : Tok} {o : HO},q ∈ L→tk q.u = some (b,cap)→frzM t L σ.m τ = some o→tk τ = some (b,c)→False:=fun {q b cap c τ o} hqm ht ho hτ=>by
    obtain ⟨o0,h0,hg⟩:=src ho
    rcases R.mem.inj τ q.u o0 _ b c cap h0 (hq q hqm).1 hτ ht with h | ⟨h1,h2⟩
    · subst h
      have h3:=(frzM_sub (une q hqm) ho)
      rw [(hq q hqm).1] at h3
      have:=h3.2 q.g e q.es (by have:=h3.1; injection this with this; exact this.symm)
      rw [inGrp_mem hqm] at this; cases this
    · rw [hg] at h2
      by_cases hne : τ = t
      · subst hne
        rw [frzM_at] at ho
        cases ho
        cases h2
      · cases o with
        | row g e' es=>
          simp only [HO.grp,Option.some.injEq] at h2
          have:=(frzM_sub hne ho).2 g e' es rfl
          rw [h2,inGrp_mem hqm] at this; cases this
        | _=>cases h2
  have s2:=U.chg.size
  have hmap : RepO P w pr' tk t (.map (L.map OE.pr)):=by
    obtain ⟨b,cap,ents,h1,h2,h3,h4,h5⟩:=R.mem.obj t _ hm
    simp only [List.length_map] at h2 h3 h4
    refine ⟨b,cap,ents,h1,by simpa using h2,by simpa using h3,by simpa using h4,fun i en p he hp=>?_⟩
    rw [List.getElem?_map,Option.map_eq_some_iff] at hp
    obtain ⟨q,hqi,rfl⟩:=hp
    have hqm:=List.mem_of_getElem? hqi
    obtain ⟨g1,g2,g3⟩:=h5 i en (q.en sz) he (by rw [List.getElem?_map,hqi]; rfl)
    refine ⟨g1,g2.keeps K,?_⟩
    simp only [OE.en,OE.pr] at g3 ⊢
    obtain ⟨r1,r2⟩:=hq q hqm
    have hel : (D.sl q.u sz 0 q.es.length none).elems σ.m = some q.es:=by
      simp only [D.elems,r1]
      rw [if_pos ⟨by omega,rowsOK_len r2⟩]; simp
    rcases elems_cells R.mem g3 hel with ⟨hv,h0⟩ | ⟨b1,o1,c1,size,us,hv,k1,k2,k3,k4⟩
    · rw [h0]
      rcases hv with hv | ⟨a,c,hv⟩ <;> rw [hv]
      · exact .nil'
      · exact .emp
    · obtain ⟨b3,cap3,c3,o3,t1,t2,t3⟩:=sl_inv g3
      rw [hv] at t2 ⊢
      have hmem:=R.mem.obj q.u _ r1
      obtain ⟨b2,cap2,C,m1,m2,m3,m4,m5,m6⟩:=hmem
      have hbb : tk q.u = some (b1,cap2)∧o1 = 0:=by
        rw [m1] at t1; cases t1
        injection t2 with t2
        injection t2 with t2
        injection t2 with t2 t4
        rcases t3 with t3 | t3
        · exact ⟨by rw [m1,t2],by rw [t4,t3]; simp⟩
        · omega
      refine .list us k2 k1 (fun j hj=>⟨(k3 j hj).1,.inr ⟨q,hqm,cap2,hbb.1,?_⟩,(k3 j hj).2⟩) (fun i c hc j x hx=>?_)
      · have hlen : 0 < q.es.length:=by
          rcases Nat.eq_zero_or_pos q.es.length with h | h
          · rw [h] at hj; simp at hj
          · exact h
        have hsz : size = P.cellsOf e:=by
          have hmem:=List.getElem_mem hlen
          rw [← k2 _ hmem,m6.1 _ hmem]
        rw [hbb.2,Nat.zero_add,← hsz]; exact hj
      · have hxn : x.noTC = true:=by
          have h1:=List.all_eq_true.1 r2 c (List.mem_of_getElem? hc)
          simp only [Bool.and_eq_true,List.all_eq_true] at h1
          have h2:=h1.2 x (List.mem_of_getElem? hx)
          exact nfC_noTC h2
        exact rep_noTC ((k4 i c hc j x hx).keeps K) hxn
  refine ⟨w,pr',⟨blocksOf tk (frzM t L σ.m),A.z,A.sv⟩,tk,⟨R.size,Chg.refl _ _,fun b o h=>?_,fun b o h hb=>?_,R.glob.keeps K.cell,⟨fun τ o h=>?_,fun τ τ' o o' b c c' h h' ht ht'=>?_⟩,fun τ o b c h ht=>.inr ⟨τ,o,c,h,ht⟩,R.fresh,R.zero,R.one,fun i hi=>(R.slot i hi).keeps K,fun i hi=>(R.sav i hi).keeps K⟩,
    ⟨U.chg.trans R.chg fun b hb h=>U.sub b hb h,fun b hb h=>?_,U.z,U.sv,fun b o h=>.inl (U.sup b o h),fun b o h=>?_⟩⟩
  · rcases h with h | ⟨q,hqm,cap,ht,_⟩
    · exact R.prw b o h
    · obtain ⟨b1,c1,g1,g2⟩:=(R.mem.obj q.u _ (hq q hqm).1).place
      rw [ht] at g1; cases g1; exact g2
  · obtain ⟨τ,o',c,ho,ht⟩:=hb
    rcases h with h | ⟨q,hqm,cap,htq,_⟩
    · obtain ⟨o0,h0,_⟩:=src ho
      exact R.free h0 ht h
    · exact apart hqm htq ho ht
  · replace h : frzM t L σ.m τ = some o:=h
    by_cases hne : τ = t
    · subst hne
      rw [frzM_at] at h
      cases h
      exact hmap
    · exact (R.mem.obj τ o (frzM_sub hne h).1).keeps K fun _ _ _=>rfl
  · obtain ⟨o0,h0,g0⟩:=src h
    obtain ⟨o1,h1,g1⟩:=src h'
    rw [← g0,← g1]
    exact R.mem.inj τ τ' o0 o1 b c c' h0 h1 ht ht'
  · obtain ⟨τ,o',c,ho,ht⟩:=h
    obtain ⟨o0,h0,_⟩:=src ho
    rcases R.live τ o0 b c h0 ht with h | h
    · omega
    · exact U.sub b hb h
  · rcases h with h | ⟨q,hqm,cap,ht,_⟩
    · exact U.inf b o h
    · rcases R.live q.u _ b cap (hq q hqm).1 ht with h | h
      · exact .inr (.inl (by omega))
      · rcases Nat.lt_or_ge b B.w.heap.size with hb | hb
        · exact .inr (.inr (U.sub b hb h))
        · exact .inr (.inl hb)
end
section
variable {P : Program} {B : Base} {n : Nat} {Ω : Raws} {G : FP} {ρ : List D} {ι γ : Nat→Tok} {Y : Sy} {σ : St}
theorem freeze_find (k : Nat) : find Y.freeze.h k = (find Y.h k).map frzO:=find_map frzO k Y.h
theorem freeze_sound (M : Mt Ω G ρ ι γ Y σ) {w : World} {a : Act} (R : RelE P B n w a.tmps σ) : ∃ σ',Mt Ω G ρ ι γ Y.freeze σ'∧RelE P B n w a.tmps σ':=by
  by_cases hex : ∃ m e sz c,find Y.h m = some (.mpl e sz c)
  rotate_left
  · refine ⟨σ,M.sub (fun i v h=>h) (fun k=>?_) rfl,R⟩
    rw [freeze_find]
    cases hf : find Y.h k with
    | none=>rfl
    | some o=>
      cases o with
      | mpl e sz c=>exact absurd ⟨k,e,sz,c,hf⟩ hex
      | _=>rfl
  obtain ⟨m,e,sz,c,hf⟩:=hex
  obtain ⟨L,o1,o2,o3,o4,o5⟩:=M.own m e sz c hf
  obtain ⟨w1,pr,A,tk,R1,U⟩:=R
  refine ⟨_,?_,rel_freeze R1 U o3 fun q hq=>⟨(o4 q hq).2.2.1,(o4 q hq).2.1⟩⟩
  have only : ∀ {k e' sz' c'},find Y.h k = some (.mpl e' sz' c')→k = m:=fun h=>M.one _ _ _ _ _ _ _ _ h hf
  have back : ∀ {k : Nat} {o : SO},(∀ c,o ≠ .map c)→find Y.freeze.h k = some o→find Y.h k = some o∧k ≠ m:=fun {k o} hne h=>by
    rw [freeze_find] at h
    obtain ⟨o0,h0,h1⟩:=Option.map_eq_some_iff.1 h
    cases o0 with
    | mpl e' sz' c'=>simp only [frzO] at h1; exact absurd h1.symm (hne _)
    | _=>simp only [frzO] at h1; subst h1; exact ⟨h0,fun e=>by rw [e,hf] at h0; cases h0⟩
  have anyO : ∀ {k : Nat} {o : SO},find Y.freeze.h k = some o→∃ o',find Y.h k = some o':=fun {k o} h=>by
    rw [freeze_find] at h
    obtain ⟨o0,h0,_⟩:=Option.map_eq_some_iff.1 h
    exact ⟨o0,h0⟩
  have same : ∀ {k : Nat} {o : SO},k ≠ m→find Y.h k = some o→ι k ≠ []→frzM (ι m) L σ.m (ι k) = σ.m (ι k):=fun {k o} hk ho hi=>by
    have hne : ι k ≠ ι m:=fun e=>hk (M.inj k m _ _ ho hf e hi)
    simp only [frzM,if_neg hne]
    cases o with
    | box vs=>obtain ⟨_,_,h,_⟩:=M.box k vs ho; rw [h]
    | map c=>obtain ⟨_,_,_,h⟩:=M.mpo k c ho; rw [h]
    | mpl e' sz' c=>obtain ⟨_,_,_,h,_⟩:=M.own k e' sz' c ho; rw [h]
    | raw kk=>obtain ⟨_,_,h,_⟩:=M.rwo k kk ho; rw [h]
    | lst e' sz' c'=>
      obtain ⟨es3,_,_,h⟩:=M.lst k _ _ _ ho
      rcases h with ⟨h,_⟩ | ⟨_,h⟩
      · exact absurd h hi
      · rw [h]
        simp only []
        rw [if_neg fun hg=>?_]
        obtain ⟨q,hq,hqe⟩:=List.any_eq_true.1 hg
        exact (o4 q hq).2.2.2.2.1 k _ _ _ ho hi (of_decide_eq_true hqe).symm
  have vr : ∀ {v : SV} {d : D},VR G ρ ι Y.h v d→VR G ρ ι Y.freeze.h v d:=fun H=>H.mono (fun _ _ h=>h) fun k _=>⟨rfl,fun o ho=>⟨frzO o,by rw [freeze_find,ho]; rfl,by
    cases o <;> simp only [frzO,SO.like]
    exact ⟨trivial,trivial,fun es he=>⟨es,he,rfl⟩⟩⟩⟩
  have raws : ∀ t q,σ.m t = some (.raw q)→frzM (ι m) L σ.m t = some (.raw q):=fun t q h=>by
    have : t ≠ ι m:=fun e=>by rw [e,o3] at h; cases h
    simp only [frzM,if_neg this,h]
  refine ⟨fun i v hv=>vr (M.slot i v hv),fun k vs hk=>?_,fun k e sz c hk=>?_,fun k c hk=>?_,fun k e sz c hk=>?_,fun k k' e e' sz sz' c c' hk _=>?_,fun k kk hk=>?_,fun a b o o' h1 h2=>?_,fun a b e e' sz sz' c c' h1 h2=>M.grp a b _ _ _ _ _ _ (back (by simp) h1).1 (back (by simp) h2).1,fun x k r hk=>?_,fun k e sz c hk=>M.old k _ _ _ (back (by simp) hk).1,M.nv,fun t ht=>raws t _ (M.con t ht)⟩
  · obtain ⟨hk,hne⟩:=back (by simp) hk
    obtain ⟨ds,h1,h2,h3⟩:=M.box k vs hk
    exact ⟨ds,h1,(same hne hk h1).trans h2,h3.1,fun i v d hv hd=>vr (h3.2 i v d hv hd)⟩
  · obtain ⟨hk,hne⟩:=back (by simp) hk
    obtain ⟨es,h1,h2,h3⟩:=M.lst k _ _ _ hk
    refine ⟨es,h1,h2,?_⟩
    rcases h3 with h3 | ⟨h3,h4⟩
    · exact .inl h3
    · exact .inr ⟨h3,(same hne hk h3).trans h4⟩
  · rw [freeze_find] at hk
    obtain ⟨o0,h0,h1⟩:=Option.map_eq_some_iff.1 hk
    cases o0 with
    | mpl e' sz' c'=>
      simp only [frzO,SO.map.injEq] at h1
      subst h1
      obtain rfl:=only h0
      rw [hf] at h0; cases h0
      exact ⟨_,o1,o2,frzM_at⟩
    | map c'=>
      simp only [frzO,SO.map.injEq] at h1
      subst h1
      obtain ⟨es,g1,g2,g3⟩:=M.mpo k _ h0
      exact ⟨es,g1,g2,(same (fun e=>by rw [e,hf] at h0; cases h0) h0 g2).trans g3⟩
    | _=>simp only [frzO,reduceCtorEq] at h1
  · have:=(back (by simp) hk)
    exact absurd (only this.1) this.2
  · have:=(back (by simp) hk)
    exact absurd (only this.1) this.2
  · obtain ⟨hk,hne⟩:=back (by simp) hk
    obtain ⟨h1,h2,h3,h4⟩:=M.rwo k kk hk
    exact ⟨h1,h2,raws _ _ h3,h4⟩
  · obtain ⟨_,g1⟩:=anyO h1
    obtain ⟨_,g2⟩:=anyO h2
    exact M.inj a b _ _ g1 g2
  · have h0:=M.wf x k r hk
    have hne : (x + 1) :: k :: r ≠ ι m:=fun e=>by rw [e,o3] at h0; cases h0
    simp only [frzM,if_neg hne,h0]
end
end Go.Proofs.YtkcfpgaepmllhaaGreatDoor
namespace Go.Proofs.YtkcfpgaepmllhaaGreatDoor
open Go.RowKit
theorem find_noLst (k : Nat) : ∀ (l : List (Nat × SO)),find (noLst l) k = match find l k with
    | some (.lst ..)=>none
    | o=>o
  | []=>rfl
  | (i,o) :: r=>by
    have ih:=find_noLst k r
    cases hi : i == k with
    | true=>
      have e : i = k:=by simpa using hi
      cases o <;> simp [noLst,find,find_drop,e]
    | false=>
      have e : ¬ k = i:=fun e=>by simp [e] at hi
      cases o <;> simp [noLst,find,find_drop,hi,e,ih]
theorem frzL_find (Y : Sy) {k : Nat} {o : SO} (h : find Y.frzL.h k = some o) : ∃ o0,find Y.h k = some o0∧o = frzB Y.h o0∧(∀ e sz c,o0 ≠ .lst e sz c):=by
  simp only [Sy.frzL,find_map,find_noLst] at h
  obtain ⟨o0,h1,rfl⟩:=Option.map_eq_some_iff.1 h
  split at h1
  · cases h1
  · rename_i hn
    exact ⟨o0,h1,rfl,fun e sz c he=>hn e sz c (he ▸ h1)⟩
theorem frzL_of (Y : Sy) {k : Nat} {o : SO} (h : find Y.h k = some o) (hn : ∀ e sz c,o ≠ .lst e sz c) : find Y.frzL.h k = some (frzB Y.h o):=by
  simp only [Sy.frzL,find_map,find_noLst,h]
  cases o <;> first | rfl | exact absurd rfl (hn _ _ _)
theorem frzVs_len (h : List (Nat × SO)) : ∀ (vs : List SV),(frzVs h vs).length = vs.length
  | []=>rfl
  | _ :: r=>by simp [frzVs,frzVs_len h r]
theorem frzVs_get (h : List (Nat × SO)) : ∀ (vs : List SV) (i : Nat),(frzVs h vs)[i]? = (vs[i]?).map (frzV h)
  | [],_=>by simp [frzVs]
  | _ :: r,0=>by simp [frzVs]
  | _ :: r,i + 1=>by simp [frzVs,frzVs_get h r i]
theorem pick_list {α β γ : Type} {R : α→β→γ→Prop} : ∀ {vs : List α} {ds : List β},vs.length = ds.length→(∀ (i : Nat) (v : α) (d : β),vs[i]? = some v→ds[i]? = some d→∃ e,R v d e)→
    ∃ es : List γ,es.length = ds.length∧∀ (i : Nat) (v : α) (d : β) (e : γ),vs[i]? = some v→ds[i]? = some d→es[i]? = some e→R v d e
  | [],[],_,_=>⟨[],rfl,fun i v d e h=>by simp at h⟩
  | v :: vs,d :: ds,hl,h=>by
    obtain ⟨e,he⟩:=h 0 v d rfl rfl
    obtain ⟨es,h1,h2⟩:=pick_list (vs:=vs) (ds:=ds) (by simpa using hl) fun i v d hv hd=>h (i + 1) v d (by simpa using hv) (by simpa using hd)
    refine ⟨e :: es,by simp [h1],fun i v' d' e' hv hd he'=>?_⟩
    cases i with
    | zero=>simp at hv hd he'; subst hv; subst hd; subst he'; exact he
    | succ i=>exact h2 i v' d' e' (by simpa using hv) (by simpa using hd) (by simpa using he')
  | [],_ :: _,hl,_=>by simp at hl
  | _ :: _,[],hl,_=>by simp at hl
section
variable {P : Program} {B : Base} {n : Nat} {Ω : Raws} {G : FP} {ρ : List D} {ι γ : Nat→Tok} {Y : Sy} {σ : St} {w : World} {pr pr' : Prot} {tk : Places}
theorem frz_VR (M : Mt Ω G ρ ι γ Y σ) (hK : ∀ val d,Rep w pr tk val d→Rep w pr' tk val d)
    (hS : ∀ n e sz c es,find Y.h n = some (.lst e sz c)→ι n ≠ []→σ.m (ι n) = some (.row (γ n) e es)→rowsOK sz es = true→∀ val off len lim,off + len≤es.length→Rep w pr tk val (.sl (ι n) sz off len lim)→Rep w pr' tk val (.list ((es.drop off).take len)))
    {v : SV} {d : D} (H : VR G ρ ι Y.h v d) : ∃ d',VR G ρ ι Y.frzL.h (frzV Y.h v) d'∧∀ val,Rep w pr tk val d→Rep w pr' tk val d':=by
  have own : ∀ {n e sz : Nat} {c : X} {es : List (List D)},find Y.h n = some (.lst e sz c)→ι n ≠ []→X.ev G ρ c = some (.list es)→∀ val off len lim,off + len≤es.length→Rep w pr tk val (.sl (ι n) sz off len lim)→Rep w pr' tk val (.list ((es.drop off).take len)):=fun hf hi hc=>by
    obtain ⟨es',h1,h2,h3⟩:=M.lst _ _ _ _ hf
    rw [hc] at h1; cases h1
    rcases h3 with ⟨h3,_⟩ | ⟨_,h3⟩
    · exact absurd h3 hi
    · exact hS _ _ _ _ _ hf hi h3 h2
  have emptyL : ∀ {n e sz : Nat} {c : X},find Y.h n = some (.lst e sz c)→ι n = []→X.ev G ρ c = some (.list []):=fun hf hi=>by
    obtain ⟨es',h1,h2,h3⟩:=M.lst _ _ _ _ hf
    rcases h3 with ⟨_,rfl⟩ | ⟨h3,_⟩
    · exact h1
    · exact absurd hi h3
  have nilR : ∀ val,Rep w pr tk val .nil→Rep w pr' tk val (.list []):=fun val h=>by cases h; exact .nil'
  have box : ∀ {n : Nat} {vs : List SV},find Y.h n = some (.box vs)→find Y.frzL.h n = some (.box (frzVs Y.h vs)):=fun hf=>frzL_of Y hf fun _ _ _ h=>by cases h
  have row : ∀ {vs : List SV} {ds : List D},vs.length = ds.length→(∀ (i : Nat) (v : SV) (d : D),vs[i]? = some v→ds[i]? = some d→∃ d',VR G ρ ι Y.frzL.h (frzV Y.h v) d'∧∀ val,Rep w pr tk val d→Rep w pr' tk val d')→
      ∃ ds' : List D,ds'.length = ds.length∧(∀ (i : Nat) (v : SV) (d : D),(frzVs Y.h vs)[i]? = some v→ds'[i]? = some d→VR G ρ ι Y.frzL.h v d)∧∀ (i : Nat) (d' : D),ds'[i]? = some d'→∃ d,ds[i]? = some d∧∀ val,Rep w pr tk val d→Rep w pr' tk val d':=fun {vs ds} hl hh=>by
    obtain ⟨es,h1,h2⟩:=pick_list hl hh
    have gd : ∀ (i : Nat) (d' : D),es[i]? = some d'→∃ v d,vs[i]? = some v∧ds[i]? = some d:=fun i d' h=>by
      have:=(List.getElem?_eq_some_iff.1 h).1
      exact ⟨_,_,List.getElem?_eq_getElem (by omega),List.getElem?_eq_getElem (by omega)⟩
    refine ⟨es,h1,fun i v d hv hd=>?_,fun i d' hd=>?_⟩
    · rw [frzVs_get] at hv
      obtain ⟨v0,hv0,rfl⟩:=Option.map_eq_some_iff.1 hv
      obtain ⟨_,d0,_,hd0⟩:=gd i d hd
      exact (h2 i v0 d0 d hv0 hd0 hd).1
    · obtain ⟨v0,d0,hv0,hd0⟩:=gd i d' hd
      exact ⟨d0,hd0,(h2 i v0 d0 d' hv0 hd0 hd).2⟩
  induction H with
  | un=>exact ⟨_,.un,fun val=>hK val _⟩
  | x h1 h2=>exact ⟨_,.x h1 h2,fun val=>hK val _⟩
  | agg hl hh ih=>
    obtain ⟨ds',h1,h2,h3⟩:=row hl ih
    refine ⟨.agg ds',.agg (by rw [frzVs_len,hl,h1]) h2,fun val h=>?_⟩
    cases h with
    | agg a1 a2 a3=>exact .agg (a1.trans h1.symm) a2 fun i c x hc hx=>let ⟨d,hd,hr⟩:=h3 i x hx; hr c (a3 i c d hc hd)
  | tup hl hh ih=>
    obtain ⟨ds',h1,h2,h3⟩:=row hl ih
    refine ⟨.tup ds',.tup (by rw [frzVs_len,hl,h1]) h2,fun val h=>?_⟩
    cases h with
    | tup a1 a3=>exact .tup (a1.trans h1.symm) fun i c x hc hx=>let ⟨d,hd,hr⟩:=h3 i x hx; hr c (a3 i c d hc hd)
  | clo hl hh ih=>
    obtain ⟨ds',h1,h2,h3⟩:=row hl ih
    refine ⟨.clo _ ds',.clo (by rw [frzVs_len,hl,h1]) h2,fun val h=>?_⟩
    cases h with
    | clo hf a1 a3=>exact .clo hf (a1.trans h1.symm) fun i c x hc hx=>let ⟨d,hd,hr⟩:=h3 i x hx; hr c (a3 i c d hc hd)
    | bclo a1 a3=>exact .bclo (a1.trans h1.symm) fun i c x hc hx=>let ⟨d,hd,hr⟩:=h3 i x hx; hr c (a3 i c d hc hd)
  | ptr hf=>exact ⟨_,.ptr (box hf),fun val=>hK val _⟩
  | dp hf hv h0 hz hl=>exact ⟨_,.dp (box hf) hv h0 hz (by rw [frzVs_len]; exact hl),fun val=>hK val _⟩
  | gln hf hi=>exact ⟨.list [],by simp only [frzV,hf]; exact .x (emptyL hf hi) rfl,nilR⟩
  | @gl n sz e c es hf hc hi=>exact ⟨.list es,by simp only [frzV,hf]; exact .x hc rfl,fun val h=>by simpa using own hf hi hc val 0 es.length none (by omega) h⟩
  | gsn hf hi hk=>exact ⟨.list [],by simp only [frzV,hf]; exact .x (by simp only [X.ev,X.evs,emptyL hf hi,hk,Option.bind_some,Option.map_some,XK.run]; rfl) rfl,fun val h=>hK val _ h⟩
  | @gs n sz e c k es q z hf hc hi hk h0 hz=>exact ⟨.list (es.take z.toNat),by simp only [frzV,hf]; exact .x (by simp only [X.ev,X.evs,hc,hk,Option.bind_some,Option.map_some,XK.run]; rw [if_pos ⟨h0,hz⟩]) rfl,fun val h=>by simpa using own hf hi hc val 0 z.toNat none (by omega) h⟩
  | gtn hf hi hk=>exact ⟨.list [],by simp only [frzV,hf]; exact .x (by simp only [X.ev,X.evs,emptyL hf hi,hk,Option.bind_some,Option.map_some,XK.run]; rfl) rfl,fun val h=>hK val _ h⟩
  | @gt n sz e c k es q z hf hc hi hk h0 hz=>exact ⟨.list (es.drop z.toNat),by simp only [frzV,hf]; exact .x (by simp only [X.ev,X.evs,hc,hk,Option.bind_some,Option.map_some,XK.run]; rw [if_pos ⟨h0,hz⟩]) rfl,fun val h=>by
      have h:=own hf hi hc val z.toNat (es.length - z.toNat) none (by omega) h
      rwa [List.take_of_length_le (by simp)] at h⟩
  | ep=>exact ⟨_,.un,fun val=>hK val _⟩
  | sb hf hl=>exact ⟨_,.sb (box hf) (by rw [frzVs_len]; exact hl),fun val=>hK val _⟩
  | rb hf hl=>exact ⟨_,.rb (box hf) (by rw [frzVs_len]; exact hl),fun val=>hK val _⟩
  | @mp n o hf ho=>exact ⟨_,.mp (frzL_of Y hf fun _ _ _ h=>by rw [h] at ho; cases ho) (by cases o <;> first | exact ho | cases ho),fun val=>hK val _⟩
  | yl hf=>exact ⟨_,.yl (frzL_of Y hf fun _ _ _ h=>by cases h),fun val=>hK val _⟩
  | @gd g b v d hg h1 h2 ih=>
    cases b with
    | true=>
      obtain ⟨d',k1,k2⟩:=ih rfl
      exact ⟨d',.gd hg (fun _=>k1) (fun h=>by cases h),k2⟩
    | false=>exact ⟨d,.gd hg (fun h=>by cases h) (fun _=>h2 rfl),fun val=>hK val _⟩
open Classical in
theorem frzL_sound (M : Mt Ω G ρ ι γ Y σ) {w : World} {a : Act} (R : RelE P B n w a.tmps σ) : ∃ σ',Mt Ω G ρ ι γ Y.frzL σ'∧RelE P B n w a.tmps σ':=by
  obtain ⟨w0,pr,A,tk,R,U⟩:=R
  have s2:=U.chg.size
  let Fz : Nat→Nat→List (List D)→Prop:=fun n e es=>∃ sz c,find Y.h n = some (.lst e sz c)∧ι n ≠ []∧σ.m (ι n) = some (.row (γ n) e es)∧rowsOK sz es = true
  let Fg : Tok→Prop:=fun g=>∃ n e sz c,find Y.h n = some (.lst e sz c)∧ι n ≠ []∧γ n = g
  let pr' : Prot:=fun b o=>pr b o ∨ ∃ n e es cap,Fz n e es∧tk (ι n) = some (b,cap)∧o < es.length * P.cellsOf e
  have K : Keeps w w pr pr' tk tk:=⟨fun b o h=>⟨rfl,.inl h⟩,fun _ _ h=>h⟩
  have hK : ∀ val d,Rep w pr tk val d→Rep w pr' tk val d:=fun val d h=>h.keeps K
  have hS : ∀ n e sz c es,find Y.h n = some (.lst e sz c)→ι n ≠ []→σ.m (ι n) = some (.row (γ n) e es)→rowsOK sz es = true→∀ val off len lim,off + len≤es.length→Rep w pr tk val (.sl (ι n) sz off len lim)→Rep w pr' tk val (.list ((es.drop off).take len)):=by
    intro m e sz c es hf hi hm hr val off len lim hol hrep
    have hel : (D.sl (ι m) sz off len lim).elems σ.m = some ((es.drop off).take len):=by
      simp only [D.elems,hm]
      rw [if_pos ⟨hol,rowsOK_len hr⟩]
    have hlen : ((es.drop off).take len).length = len:=by simp; omega
    rcases elems_cells R.mem hrep hel with ⟨hv,h0⟩ | ⟨b1,o1,c1,size,us,hv,k1,k2,k3,k4⟩
    · rw [h0]
      rcases hv with rfl | ⟨a,cap,rfl⟩
      · exact .nil'
      · exact .emp
    · obtain ⟨b3,cap3,c3,o3,t1,t2,t3⟩:=sl_inv hrep
      rw [hv] at t2 ⊢
      obtain ⟨b2,cap2,C,m1,m2,m3,m4,m5,m6⟩:=R.mem.obj (ι m) _ hm
      rw [m1] at t1; cases t1
      injection t2 with t2 t4 t5
      injection t2 with t2
      injection t2 with t2 t6
      have hszc : ∀ x ∈ es,x.length = sz:=fun x hx=>by have:=List.all_eq_true.1 (rowsOK_len hr) x hx; simpa using this
      refine .list us k2 k1 (fun j hj=>⟨(k3 j hj).1,.inr ⟨m,e,es,cap3,⟨sz,c,hf,hi,hm,hr⟩,by rw [m1,t2],?_⟩,(k3 j hj).2⟩) (fun i x hx j d hd=>?_)
      · rw [hlen] at hj
        have hlp : 0 < len:=by rcases Nat.eq_zero_or_pos len with h | h; rw [h] at hj; simp at hj; exact h
        have hmem : (es.drop off).take len ≠ []:=fun h=>by rw [h] at hlen; simp at hlen; omega
        obtain ⟨x,r,hxr⟩:=List.exists_cons_of_ne_nil hmem
        have hx1 : x ∈ (es.drop off).take len:=by rw [hxr]; simp
        have hx2 : x ∈ es:=List.mem_of_mem_drop (List.mem_of_mem_take hx1)
        have e1 : size = P.cellsOf e:=by rw [← k2 x hx1,m6.1 x hx2]
        have e2 : sz = P.cellsOf e:=by rw [← hszc x hx2,m6.1 x hx2]
        rcases t3 with t3 | ⟨t3,_⟩
        · rw [t6,t3,e2]
          rw [e1] at hj
          calc off * P.cellsOf e + j < off * P.cellsOf e + len * P.cellsOf e:=by omega
            _ = (off + len) * P.cellsOf e:=(Nat.add_mul ..).symm
            _≤es.length * P.cellsOf e:=Nat.mul_le_mul_right _ hol
        · rw [hlen] at k1; omega
      · have hxn : d.noTC = true:=by
          have hx2 : x ∈ es:=List.mem_of_mem_drop (List.mem_of_mem_take (List.mem_of_getElem? hx))
          have h1:=List.all_eq_true.1 hr x hx2
          simp only [Bool.and_eq_true,List.all_eq_true] at h1
          exact nfC_noTC (h1.2 d (List.mem_of_getElem? hd))
        exact rep_noTC ((k4 i x hx j d hd).keeps K) hxn
  have slots : ∀ i,∃ d',(∀ v,find Y.s i = some v→VR G ρ ι Y.frzL.h (frzV Y.h v) d')∧∀ val,Rep w pr tk val (σ.s i)→Rep w pr' tk val d':=fun i=>by
    cases hf : find Y.s i with
    | none=>exact ⟨σ.s i,(fun v h=>by cases h),fun val=>hK val _⟩
    | some v=>
      obtain ⟨d',h1,h2⟩:=frz_VR M hK hS (M.slot i v hf)
      exact ⟨d',fun v' h=>by cases h; exact h1,h2⟩
  have boxes : ∀ k,∃ ds' : List D,∀ vs,find Y.h k = some (.box vs)→VRs G ρ ι Y.frzL.h (frzVs Y.h vs) ds'∧∀ ds,σ.m (ι k) = some (.box ds)→ds'.length = ds.length∧∀ (i : Nat) (d' : D),ds'[i]? = some d'→∃ d,ds[i]? = some d∧∀ val,Rep w pr tk val d→Rep w pr' tk val d':=fun k=>by
    by_cases hex : ∃ vs,find Y.h k = some (.box vs)
    · obtain ⟨vs,hf⟩:=hex
      obtain ⟨ds,h0,h1,h2⟩:=M.box k vs hf
      obtain ⟨ds',h3,h4⟩:=pick_list h2.1 fun i v d hv hd=>frz_VR M hK hS (h2.2 i v d hv hd)
      have gd : ∀ (i : Nat) (d' : D),ds'[i]? = some d'→∃ v d,vs[i]? = some v∧ds[i]? = some d:=fun i d' h=>by
        have:=(List.getElem?_eq_some_iff.1 h).1
        have:=h2.1
        exact ⟨_,_,List.getElem?_eq_getElem (by omega),List.getElem?_eq_getElem (by omega)⟩
      refine ⟨ds',fun vs' h=>?_⟩
      rw [hf] at h; cases h
      refine ⟨⟨by rw [frzVs_len,h2.1,h3],fun i v d hv hd=>?_⟩,fun ds2 hd2=>?_⟩
      · rw [frzVs_get] at hv
        obtain ⟨v0,hv0,rfl⟩:=Option.map_eq_some_iff.1 hv
        obtain ⟨_,d0,_,hd0⟩:=gd i d hd
        exact (h4 i v0 d0 d hv0 hd0 hd).1
      · rw [h1] at hd2; cases hd2
        refine ⟨h3,fun i d' hd=>?_⟩
        obtain ⟨v0,d0,hv0,hd0⟩:=gd i d' hd
        exact ⟨d0,hd0,(h4 i v0 d0 d' hv0 hd0 hd).2⟩
    · exact ⟨[],fun vs h=>absurd ⟨vs,h⟩ hex⟩
  let S : Nat→D:=fun i=>Classical.choose (slots i)
  have hSl : ∀ i,(∀ v,find Y.s i = some v→VR G ρ ι Y.frzL.h (frzV Y.h v) (S i))∧∀ val,Rep w pr tk val (σ.s i)→Rep w pr' tk val (S i):=fun i=>Classical.choose_spec (slots i)
  let F : Nat→List D:=fun k=>Classical.choose (boxes k)
  have hF : ∀ k vs,find Y.h k = some (.box vs)→VRs G ρ ι Y.frzL.h (frzVs Y.h vs) (F k)∧∀ ds,σ.m (ι k) = some (.box ds)→(F k).length = ds.length∧∀ (i : Nat) (d' : D),(F k)[i]? = some d'→∃ d,ds[i]? = some d∧∀ val,Rep w pr tk val d→Rep w pr' tk val d':=fun k=>Classical.choose_spec (boxes k)
  let m' : Mem:=fun τ=>match σ.m τ with
    | some (.row g e es)=>if Fg g then none else some (.row g e es)
    | some (.box ds)=>if h : ∃ k vs,find Y.h k = some (.box vs)∧ι k = τ then some (.box (F (Classical.choose h))) else some (.box ds)
    | o=>o
  have mRow : ∀ {τ g : Tok} {e : Nat} {es : List (List D)},σ.m τ = some (.row g e es)→m' τ = if Fg g then none else some (.row g e es):=fun {τ g e es} h=>by simp only [m',h]
  have mBx : ∀ {τ : Tok} {ds : List D},σ.m τ = some (.box ds)→m' τ = if h : ∃ k vs,find Y.h k = some (.box vs)∧ι k = τ then some (.box (F (Classical.choose h))) else some (.box ds):=fun {τ ds} h=>by simp only [m',h]
  have same : ∀ {τ : Tok} {o : HO},σ.m τ = some o→o.grp = none→(∀ ds,o ≠ .box ds)→m' τ = some o:=fun {τ o} hm hg hb=>by
    cases o with
    | row=>cases hg
    | box ds=>exact absurd rfl (hb ds)
    | map=>simp only [m',hm]
    | iter=>simp only [m',hm]
    | raw=>simp only [m',hm]
  have mNone : ∀ {τ : Tok},σ.m τ = none→m' τ = none:=fun {τ} h=>by simp only [m',h]
  have mBox : ∀ {k vs},find Y.h k = some (.box vs)→m' (ι k) = some (.box (F k)):=fun {k vs} hf=>by
    obtain ⟨ds,h0,h1,h2⟩:=M.box k vs hf
    have hex : ∃ k' vs',find Y.h k' = some (.box vs')∧ι k' = ι k:=⟨k,vs,hf,rfl⟩
    rw [mBx h1,dif_pos hex]
    obtain ⟨vs',g1,g2⟩:=Classical.choose_spec hex
    rw [M.inj _ _ _ _ g1 hf g2 (by rw [g2]; exact h0)]
  have cases' : ∀ {τ : Tok} {o : HO},m' τ = some o→(∃ g e es,σ.m τ = some (.row g e es)∧o = .row g e es∧¬ Fg g) ∨ (∃ ds,σ.m τ = some (.box ds)∧(o = .box ds ∨ ∃ k vs,find Y.h k = some (.box vs)∧ι k = τ∧o = .box (F k))) ∨ (σ.m τ = some o∧o.grp = none∧∀ ds,o ≠ .box ds):=fun {τ o} h=>by
    cases hm : σ.m τ with
    | none=>rw [mNone hm] at h; cases h
    | some o1=>
      cases o1 with
      | row g e es=>
        rw [mRow hm] at h
        split at h <;> cases h
        exact .inl ⟨g,e,es,rfl,rfl,by assumption⟩
      | box ds=>
        rw [mBx hm] at h
        split at h
        · rename_i hex
          cases h
          obtain ⟨vs',g1,g2⟩:=Classical.choose_spec hex
          exact .inr (.inl ⟨ds,rfl,.inr ⟨_,vs',g1,g2,rfl⟩⟩)
        · cases h; exact .inr (.inl ⟨ds,rfl,.inl rfl⟩)
      | map es=>
        rw [same hm rfl fun _ h=>by cases h] at h
        cases h
        exact .inr (.inr ⟨rfl,rfl,fun _ h=>by cases h⟩)
      | iter u k s=>
        rw [same hm rfl fun _ h=>by cases h] at h
        cases h
        exact .inr (.inr ⟨rfl,rfl,fun _ h=>by cases h⟩)
      | raw q=>
        rw [same hm rfl fun _ h=>by cases h] at h
        cases h
        exact .inr (.inr ⟨rfl,rfl,fun _ h=>by cases h⟩)
  have src : ∀ {τ : Tok} {o : HO},m' τ = some o→∃ o0,σ.m τ = some o0∧o0.grp = o.grp:=fun {τ o} h=>by
    rcases cases' h with ⟨g,e,es,hm,rfl,_⟩ | ⟨ds,hm,rfl | ⟨k,vs,_,_,rfl⟩⟩ | ⟨hm,_⟩
    · exact ⟨_,hm,rfl⟩
    · exact ⟨_,hm,rfl⟩
    · exact ⟨_,hm,rfl⟩
    · exact ⟨_,hm,rfl⟩
  have apart : ∀ {k e : Nat} {es : List (List D)} {b cap c : Nat} {τ : Tok} {o : HO},Fz k e es→tk (ι k) = some (b,cap)→m' τ = some o→tk τ = some (b,c)→False:=fun {k e es b cap c τ o} hz ht ho hτ=>by
    obtain ⟨sz,cc,hf,hi,hm,_⟩:=hz
    have hg : Fg (γ k):=⟨k,e,sz,cc,hf,hi,rfl⟩
    obtain ⟨o0,h0,hgr⟩:=src ho
    rcases R.mem.inj τ (ι k) o0 _ b c cap h0 hm hτ ht with h | ⟨h1,h2⟩
    · subst h
      rcases cases' ho with ⟨g,e',es',hm',_,hn⟩ | ⟨ds,hm',_⟩ | ⟨hm',hg',_⟩
      · rw [hm] at hm'; cases hm'; exact hn hg
      · rw [hm] at hm'; cases hm'
      · rw [hm] at hm'; cases hm'; cases hg'
    · rcases cases' ho with ⟨g,e',es',hm',rfl,hn⟩ | ⟨ds,hm',h3⟩ | ⟨hm',hg',_⟩
      · rw [hgr] at h2
        simp only [HO.grp,Option.some.injEq] at h2
        exact hn (h2 ▸ hg)
      · rw [hm'] at h0; cases h0; cases h1
      · rw [hm'] at h0; cases h0; rw [hg'] at h1; cases h1
  refine ⟨⟨S,m',σ.c⟩,?_,w,pr',⟨blocksOf tk m',A.z,A.sv⟩,tk,⟨R.size,Chg.refl _ _,fun b o h=>?_,fun b o h hb=>?_,R.glob.keeps K.cell,⟨fun τ o h=>?_,fun τ τ' o o' b c c' h h' ht ht'=>?_⟩,fun τ o b c h ht=>.inr ⟨τ,o,c,h,ht⟩,R.fresh,R.zero,R.one,fun i hi=>(hSl i).2 _ (R.slot i hi),fun i hi=>(hSl i).2 _ (R.sav i hi)⟩,
    ⟨U.chg.trans R.chg fun b hb h=>U.sub b hb h,fun b hb h=>?_,U.z,U.sv,fun b o h=>.inl (U.sup b o h),fun b o h=>?_⟩⟩
  · refine ⟨fun i v hv=>?_,fun k vs hk=>?_,fun k e sz c hk=>?_,fun k c hk=>?_,fun k e sz c hk=>?_,fun k k' e e' sz sz' c c' h1 h2=>?_,fun k kk hk=>?_,fun a b o o' h1 h2=>?_,fun a b e e' sz sz' c c' h1 h2=>?_,fun x k r hk=>?_,fun k e sz c hk=>?_,M.nv,fun t ht=>?_⟩
    · simp only [Sy.frzL,find_map] at hv
      obtain ⟨v0,hv0,rfl⟩:=Option.map_eq_some_iff.1 hv
      exact (hSl i).1 v0 hv0
    · obtain ⟨o0,h0,h1,h2⟩:=frzL_find Y hk
      cases o0 <;> simp only [frzB,SO.box.injEq,reduceCtorEq] at h1
      subst h1
      obtain ⟨ds,g0,_,_⟩:=M.box k _ h0
      exact ⟨F k,g0,mBox h0,(hF k _ h0).1⟩
    · obtain ⟨o0,h0,h1,h2⟩:=frzL_find Y hk
      cases o0 <;> simp only [frzB,reduceCtorEq] at h1
      exact absurd rfl (h2 _ _ _)
    · obtain ⟨o0,h0,h1,h2⟩:=frzL_find Y hk
      cases o0 <;> simp only [frzB,SO.map.injEq,reduceCtorEq] at h1
      subst h1
      obtain ⟨es,g1,g2,g3⟩:=M.mpo k _ h0
      exact ⟨es,g1,g2,same g3 rfl fun _ h=>by cases h⟩
    · obtain ⟨o0,h0,h1,h2⟩:=frzL_find Y hk
      cases o0 <;> simp only [frzB,SO.mpl.injEq,reduceCtorEq] at h1
      obtain ⟨rfl,rfl,rfl⟩:=h1
      obtain ⟨L,g1,g2,g3,g4⟩:=M.own k _ _ _ h0
      refine ⟨L,g1,g2,same g3 rfl (fun _ h=>by cases h),fun q hq=>(g4.1 q hq).keep ?_ (fun j o hj=>let ⟨o0,h0,_⟩:=frzL_find Y hj; (g4.1 q hq).2.2.2.1 j o0 h0) (fun j e sz c hj=>?_) fun _=>Nat.le_refl _,g4.2⟩
      · rw [(g4.1 q hq).2.2.1]
        refine (mRow (g4.1 q hq).2.2.1).trans (if_neg ?_)
        rintro ⟨j,e',sz',c',hj,hi,hg⟩
        exact (g4.1 q hq).2.2.2.2.1 j _ _ _ hj hi hg
      · obtain ⟨o0,h0,h1,h2⟩:=frzL_find Y hj
        cases o0 <;> simp only [frzB,reduceCtorEq] at h1
        exact absurd rfl (h2 _ _ _)
    · obtain ⟨o0,h0,h1,_⟩:=frzL_find Y h1
      obtain ⟨o3,h3,h4,_⟩:=frzL_find Y h2
      cases o0 <;> simp only [frzB,SO.mpl.injEq,reduceCtorEq] at h1
      cases o3 <;> simp only [frzB,SO.mpl.injEq,reduceCtorEq] at h4
      exact M.one _ _ _ _ _ _ _ _ h0 h3
    · obtain ⟨o0,h0,h1,h2⟩:=frzL_find Y hk
      cases o0 <;> simp only [frzB,SO.raw.injEq,reduceCtorEq] at h1
      subst h1
      obtain ⟨g1,g2,g3,g4⟩:=M.rwo k _ h0
      exact ⟨g1,g2,same g3 rfl (fun _ h=>by cases h),g4⟩
    · obtain ⟨o0,h0,_,_⟩:=frzL_find Y h1
      obtain ⟨o3,h3,_,_⟩:=frzL_find Y h2
      exact M.inj a b _ _ h0 h3
    · obtain ⟨o0,h0,h1,h2⟩:=frzL_find Y h1
      cases o0 <;> simp only [frzB,reduceCtorEq] at h1
      exact absurd rfl (h2 _ _ _)
    · exact mNone (M.wf x k r hk)
    · obtain ⟨o0,h0,h1,h2⟩:=frzL_find Y hk
      cases o0 <;> simp only [frzB,reduceCtorEq] at h1
      exact absurd rfl (h2 _ _ _)
    · exact same (M.con t ht) rfl fun _ h=>by cases h
  · rcases h with h | ⟨k,e,es,cap,⟨sz,c,hf,hi,hm,hr⟩,ht,_⟩
    · exact R.prw b o h
    · obtain ⟨b1,c1,g1,g2⟩:=(R.mem.obj (ι k) _ hm).place
      rw [ht] at g1; cases g1; exact g2
  · obtain ⟨τ,o',c,ho,ht⟩:=hb
    rcases h with h | ⟨k,e,es,cap,hz,htq,_⟩
    · obtain ⟨o0,h0,_⟩:=src ho
      exact R.free h0 ht h
    · exact apart hz htq ho ht
  · replace h : m' τ = some o:=h
    rcases cases' h with ⟨g,e,es,hm,rfl,_⟩ | ⟨ds,hm,rfl | ⟨k,vs,hf,rfl,rfl⟩⟩ | ⟨hm,_⟩
    · exact (R.mem.obj τ _ hm).keeps K fun _ _ _=>rfl
    · exact (R.mem.obj τ _ hm).keeps K fun _ _ _=>rfl
    · obtain ⟨b,cap,C,ty,h1,h2,h3,h4,h5⟩:=R.mem.obj (ι k) _ hm
      obtain ⟨_,hb⟩:=hF k vs hf
      obtain ⟨hl,hg⟩:=hb ds hm
      exact ⟨b,cap,C,ty,h1,h2,h3.trans hl.symm,h4,fun i c x hc hx=>let ⟨d,hd,hr⟩:=hg i x hx; hr c (h5 i c d hc hd)⟩
    · exact (R.mem.obj τ _ hm).keeps K fun _ _ _=>rfl
  · obtain ⟨o0,h0,g0⟩:=src h
    obtain ⟨o1,h1,g1⟩:=src h'
    rw [← g0,← g1]
    exact R.mem.inj τ τ' o0 o1 b c c' h0 h1 ht ht'
  · obtain ⟨τ,o',c,ho,ht⟩:=h
    obtain ⟨o0,h0,_⟩:=src ho
    rcases R.live τ o0 b c h0 ht with h | h
    · omega
    · exact U.sub b hb h
  · rcases h with h | ⟨k,e,es,cap,⟨sz,c,hf,hi,hm,hr⟩,ht,_⟩
    · exact U.inf b o h
    · rcases R.live (ι k) _ b cap hm ht with h | h
      · exact .inr (.inl (by omega))
      · rcases Nat.lt_or_ge b B.w.heap.size with hb | hb
        · exact .inr (.inr (U.sub b hb h))
        · exact .inr (.inl hb)
end
end Go.Proofs.YtkcfpgaepmllhaaGreatDoor
namespace Go.Proofs.YtkcfpgaepmllhaaGreatDoor
open Go.RowKit
section
variable {P : Program} {B : Base} {n : Nat} {r : Option Nat} {G : FP} {N : Nat} {dr : D} {Ω : Raws}
theorem mtV_cnt {h : List (Nat × SO)} {nm : Nat} {p : Pat} {v : SV} {x : List X × Ren} (hx : mtV h nm p v = some x) : x.1.length = patCnt [(nm,p)]:=by
  cases p with
  | drop=>simp only [mtV] at hx; cases hx; rfl
  | same v'=>simp only [mtV] at hx; split at hx <;> cases hx; rfl
  | var=>simp only [mtV] at hx; obtain ⟨y,_,hy⟩:=Option.map_eq_some_iff.1 hx; cases hy; rfl
  | lst e sz=>
    cases v
    case gl n sz'=>
      simp only [mtV] at hx
      split at hx
      · split at hx <;> cases hx; rfl
      · cases hx
    case x ex=>
      cases ex
      case q dq=>
        cases dq
        case nil=>simp only [mtV] at hx; cases hx; rfl
        all_goals (simp [mtV] at hx; done)
      all_goals (simp [mtV] at hx; done)
    all_goals (simp [mtV] at hx; done)
theorem mtRow_cnt {h : List (Nat × SO)} : ∀ {r : Row} {v : List SV} {x : List X × Ren},mtRow h r v = some x→x.1.length = patCnt r
  | [],v,x,h1=>by cases v <;> simp [mtRow] at h1; rw [← h1]; rfl
  | (nm,p) :: r,[],x,h1=>by simp [mtRow] at h1
  | (nm,p) :: r,u :: v,x,h1=>by
    simp only [mtRow,Option.bind_eq_some_iff,Option.map_eq_some_iff] at h1
    obtain ⟨a1,b1,a2,b2,rfl⟩:=h1
    rw [List.length_append,mtRow_cnt b2,mtV_cnt b1]
    cases p <;> simp [patCnt] <;> omega
theorem Hd.mt_cnt {hd : Hd} {Y : Sy} {q : List X × Ren} (h : hd.mt Y = some q) : q.1.length = patCnt hd.row:=by
  simp only [Hd.mt] at h
  split at h
  · simp only [Option.bind_eq_some_iff] at h
    obtain ⟨_,_,b1,_,x1,g1,g2⟩:=h
    split at g2 <;> cases g2
    exact mtRow_cnt g1
  · cases h
theorem wpIn_loopG {α : Type} {F : Fence} {m : Nat} {c : Code} {Q : Exit→Act→World→Prop} {a : Act} {w : World} (I : α→Act→World→Prop) (μ : α→Nat) {x : α} (h₀ : I x a w)
    (round : ∀ x a w,I x a w→c.wpIn F m P (Exit.then (fun a' w'=>∃ y,I y a' w'∧μ y < μ x) Q) a w) : (Code.loop c).wpIn F m P Q a w:=by
  intro b k cs hro hb hr
  have key : ∀ j x a w,μ x = j→I x a w→
      ∃ e a' w',Q e a' w'∧ArrivesIn (Machine.fenced P F) P (lone (b.atR a (.code c :: .inLoop c :: k)) cs w) b k cs e a' w':=by
    intro j
    induction j using Nat.strongRecOn with
    | _ j ih=>
      intro x a w hn hI
      obtain ⟨e,a₁,w₁,hq,harr⟩:=round x a w hI b (.inLoop c :: k) cs hro hb hr
      cases e with
      | normal=>
        obtain ⟨y,hI₁,hlt⟩:=hq
        obtain ⟨e₂,a₂,w₂,hq₂,harr₂⟩:=ih (μ y) (hn ▸ hlt) y a₁ w₁ rfl hI₁
        exact ⟨e₂,a₂,w₂,hq₂,.of_steps (StepsIn.trans harr (.one (fenced_calm hb hr rfl) stepR_inLoop)) harr₂⟩
      | exit id=>exact ⟨_,a₁,w₁,hq,.pass (x:=.inLoop c) rfl (fun _ _=>.inl (by simp)) harr⟩
      | goto l=>exact ⟨_,a₁,w₁,hq,.pass (x:=.inLoop c) rfl (fun _ _=>.inl (by simp)) harr⟩
      | ret=>exact ⟨_,a₁,w₁,hq,.pass (x:=.inLoop c) rfl (fun _ _=>.inl (by simp)) harr⟩
      | panic ch=>exact ⟨_,a₁,w₁,hq,.pass (x:=.inLoop c) rfl (fun _ _=>.inl (by simp)) harr⟩
      | outgrown=>exact ⟨_,a₁,w₁,hq,.pass (x:=.inLoop c) rfl (fun _ _=>.inl (by simp)) harr⟩
  obtain ⟨e,a',w',hq,harr⟩:=key _ x a w rfl h₀
  exact ⟨e,a',w',hq,.of_steps (.one (fenced_calm hb hr rfl) stepR_loop) harr⟩
def GoesE (P : Program) (B : Base) (n : Nat) (G : FP) (N : Nat) (dr : D) (Ω0 : Raws) (S : List Nat) (Ω : Raws) (κ : Sy→FT) (L : List (List D→Option D)) (ρ : List D) (Q : Act→World→Prop) : Prop:=
  ∀ (Ω' : Raws) (Y' : Sy) (L' : List (List D→Option D)) (ρ' : List D) (ι' γ' : Nat→Tok) (σ' : St) (a' : Act) (w' : World),Ω.le S Ω'→Mt Ω' G ρ' ι' γ' Y' σ'→RelE P B n w' a'.tmps σ'→DM Ω0 Ω' a'.defers→L'.length = Y'.d→
    (∃ pre,L' = pre ++ L)→(∃ suf,ρ' = ρ ++ suf)→evalFT G N (κ Y') L' ρ' = some dr→Q a' w'
abbrev Goes (P : Program) (B : Base) (n : Nat) (G : FP) (N : Nat) (dr : D) (Ω0 : Raws) (S : List Nat) (Ω : Raws) (κ : VE→Sy→FT) (L : List (List D→Option D)) (ρ : List D) (Q : Exit→Act→World→Prop) : Prop:=
  ∀ e : VE,GoesE P B n G N dr Ω0 S Ω (κ e) L ρ (Q e.ex)
theorem GoesE.more {Ω0 Ω Ω1 : Raws} {S : List Nat} {κ : Sy→FT} {L pre : List (List D→Option D)} {ρ suf : List D} {Q : Act→World→Prop} (h : GoesE P B n G N dr Ω0 S Ω κ L ρ Q) (hΩ : Ω.le S Ω1) : GoesE P B n G N dr Ω0 S Ω1 κ (pre ++ L) (ρ ++ suf) Q:=by
  rintro Ω' Y' L' ρ' ι' γ' σ' a' w' hle M' R' hd' hL' ⟨pre',rfl⟩ ⟨suf',rfl⟩ he
  exact h Ω' Y' _ _ ι' γ' σ' a' w' (hΩ.trans hle) M' R' hd' hL' ⟨pre' ++ pre,by simp⟩ ⟨suf ++ suf',by simp⟩ he
def YlOK (P : Program) (G : FP) (N : Nat) (dr : D) (yl : Yh) (V : Nat→Value) (m : Nat) (Ω : Raws) : Prop:=
  ∀ {S : List Nat} {Bc : Base} {Ω0 Ω' : Raws} {nm off n0 : Nat} {vs : List SV} {x : Option Nat} {Z : Sy} {κ : Sy→FT} {L : List (List D→Option D)} {ρ : List D} {ι γ : Nat→Tok} {σ : St} {w1 w : World} {pr : Prot} {A : Area} {tk : Places} {a : Act} {cargs : Array Value} {ds : List D} {next : Act→World→Prop},
    nm ∈ yl.S→(∀ x,x ∈ yl.S→x ∈ S)→Ω.le yl.S Ω'→(∀ i,m≤i→n0≤off + i∧Bc.A.sv (off + i) = V i)→Mt Ω' G ρ ι γ Z σ→Rel P w1 pr A n0 w a.tmps σ tk→Under Bc w1 pr A→Reps w pr tk cargs.toList ds→VRs G ρ ι Z.h vs ds→(∀ i,x = some i→i < n0)→DM Ω0 Ω' a.defers→L.length = Z.d→
    evalFT G N (yl.run S nm off vs x n0 Z κ) L ρ = some dr→GoesE P Bc n0 G N dr Ω0 S Ω' κ L ρ next→
    ∀ r : Option Nat,∃ l fnl tmps assign body,Ω'.t nm = [l + 1]∧(Instr.yield l cargs).run P w = .ok (.round l fnl tmps assign body) w∧RoundIn (wF r) 0 P l fnl tmps assign body w (fun e w'=>∃ v,e = .returned v∧next (a.put x v) w')
theorem YlOK.mono {yl : Yh} {V : Nat→Value} {m : Nat} {Ω Ω1 : Raws} (h : YlOK P G N dr yl V m Ω) (k : Ω.le yl.S Ω1) : YlOK P G N dr yl V m Ω1:=
  fun h1 hS h2 h3=>h h1 hS (k.trans h2) h3
theorem YlOK.push {yl : Yh} {V V' : Nat→Value} {m m' k : Nat} {Ω : Raws} (h : YlOK P G N dr yl V m Ω) (hV : ∀ j,m≤j→m'≤k + j∧V' (k + j) = V j) : YlOK P G N dr (yl.push k) V' m' Ω:=
  fun {S Bc Ω0 Ω' nm off n0} {vs x Z κ L ρ ι γ σ w1 w pr A tk a cargs ds next} h1 hS h2 h3=>h (off:=off + k) h1 hS h2 fun j hj=>by
    obtain ⟨g1,g2⟩:=hV j hj
    obtain ⟨g3,g4⟩:=h3 (k + j) g1
    rw [Nat.add_assoc]
    exact ⟨g3,g4.trans g2⟩
theorem YlOK.weak {yl : Yh} {V V' : Nat→Value} {m m' : Nat} {Ω : Raws} (h : YlOK P G N dr yl V m Ω) (hm : m'≤m) (hV : ∀ j,m≤j→V' j = V j) : YlOK P G N dr yl V' m' Ω:=
  fun h1 hS h2 h3=>h h1 hS h2 fun j hj=>⟨(h3 j (by omega)).1,(h3 j (by omega)).2.trans (hV j hj)⟩
theorem YlOK.under {yl : Yh} {V V' : Nat→Value} {m m' k : Nat} {Ω : Raws} {S : List Nat} (h : YlOK P G N dr yl V m Ω) (hS : ∀ x,x ∈ yl.S→x ∈ S) (hV : ∀ j,m≤j→m'≤k + j∧V' (k + j) = V j) : YlOK P G N dr (yl.under S k) V' m' Ω:=by
  intro S' Bc Ω0 Ω' nm off n0 vs x Z κ L ρ ι γ σ w1 w pr A tk a cargs ds next h1 hS' h2 h3 M R U hr hv hx hd hL he hκ
  simp only [Yh.under] at he
  split at he
  · rename_i hc
    exact h (off:=off + k) (by simpa using hc) (fun x hx=>hS' x (hS x hx)) (h2.sub hS) (fun j hj=>by
      obtain ⟨g1,g2⟩:=hV j hj
      obtain ⟨g3,g4⟩:=h3 (k + j) g1
      rw [Nat.add_assoc]
      exact ⟨g3,g4.trans g2⟩) M R U hr hv hx hd hL he hκ
  · cases he
def InlOK (P : Program) (G : FP) (N : Nat) (dr : D) (inl : Inl) : Prop:=
  ∀ {yl : Yh} {B : Base} {Ω0 Ω : Raws} {f n : Nat} {vs : List SV} {x : Option Nat} {Y : Sy} {κ : Sy→FT} {L : List (List D→Option D)} {ρ : List D} {ι γ : Nat→Tok} {σ : St} {w1 w : World} {pr : Prot} {A : Area} {tk : Places} {a : Act} {cargs : Array Value} {ds : List D} {next : Act→World→Prop},
    YlOK P G N dr yl (savV 0 n a.tmps B.A.sv) 0 Ω→Mt Ω G ρ ι γ Y σ→Rel P w1 pr A n w a.tmps σ tk→Under B w1 pr A→Reps w pr tk cargs.toList ds→VRs G ρ ι Y.h vs ds→(∀ i,x = some i→i < n)→DM Ω0 Ω a.defers→L.length = Y.d→evalFT G N (inl yl f vs x n Y κ) L ρ = some dr→
    GoesE P B n G N dr Ω0 yl.S Ω κ L ρ next→HasBody P f∧Calls P f cargs w fun e w'=>∃ v,e = .returned v∧next (a.put x v) w'
theorem asBool_bv {v : D} {b : Bool} (h : v.asBool = some b) : v = .v (.bool b):=by
  cases v <;> simp only [D.asBool] at h <;> try (cases h; done)
  rename_i x
  cases x <;> simp only [] at h <;> first | (cases h; rfl) | cases h
theorem Mt.deeper {ρ : List D} {ι γ : Nat→Tok} {Y : Sy} {σ : St} (M : Mt Ω G ρ ι γ Y σ) {d : Nat} : Mt Ω G ρ ι γ { Y with d:=d } σ:=M.sub (fun _ _ h=>h) (fun _=>rfl) rfl
theorem isBoolX_sound {ρ : List D} : ∀ (x : X) {d : D},isBoolX x = true→X.ev G ρ x = some d→∃ b,d = bv b
  | .t _,d,h,_=>by simp [isBoolX] at h
  | .q v,d,h,he=>by
    cases v with
    | v y=>cases y with
      | bool b=>exact ⟨b,(Option.some.inj he).symm⟩
      | _=>simp [isBoolX] at h
    | _=>simp [isBoolX] at h
  | .ite c a b,d,h,he=>by
    simp only [isBoolX,Bool.and_eq_true] at h
    simp only [X.ev,Option.bind_eq_some_iff] at he
    obtain ⟨v,_,x,_,h3⟩:=he
    cases x
    · exact isBoolX_sound b h.2 h3
    · exact isBoolX_sound a h.1 h3
  | .mk k xs,d,h,he=>by
    obtain ⟨ds,_,h2⟩:=ev_mk he
    cases k with
    | gv w=>
      simp only [XK.run] at h2
      split at h2 <;> first | (cases h2; exact ⟨_,rfl⟩) | cases h2
    | pk k=>
      simp only [XK.run,Option.bind_eq_some_iff] at h2
      obtain ⟨d0,h3,h4⟩:=h2
      split at h4 <;> cases h4
      cases k with
      | ibin op=>
        simp only [PK.run] at h3
        unfold binV at h3
        split at h3
        · split at h3
          · cases op <;> simp only [isBoolX,isCmp,Bool.false_eq_true] at h <;> (simp only [ibinV] at h3; cases h3; exact ⟨_,rfl⟩)
          · cases h3
        · cases h3
      | inot=>simp only [PK.run] at h3; unfold notV at h3; split at h3 <;> first | (cases h3; exact ⟨_,rfl⟩) | cases h3
      | beq n=>simp only [PK.run] at h3; unfold beqV at h3; split at h3 <;> first | (cases h3; exact ⟨_,rfl⟩) | cases h3
      | seq n=>simp only [PK.run] at h3; unfold seqV at h3; split at h3 <;> first | (cases h3; exact ⟨_,rfl⟩) | cases h3
      | aeq n ks=>
        simp only [PK.run] at h3; unfold aeqV at h3
        split at h3
        · obtain ⟨r,_,rfl⟩:=Option.map_eq_some_iff.1 h3; exact ⟨_,rfl⟩
        · cases h3
      | snil n=>
        simp only [PK.run] at h3; unfold snilV at h3
        split at h3
        · split at h3 <;> first | (cases h3; exact ⟨_,rfl⟩) | cases h3
        · cases h3
      | _=>simp [isBoolX] at h
    | _=>simp [isBoolX] at h
theorem stripN_sound {Y : Sy} {ρ : List D} {ι γ : Nat→Tok} {σ : St} (M : Mt Ω G ρ ι γ Y σ) {e : X} (h : X.ev G ρ e = some (bv false)) : Mt Ω G ρ ι γ (Y.stripN e) σ:=by
  unfold Sy.stripN
  split
  · rename_i w g
    split
    · rename_i hb
      refine M.reslot rfl rfl fun i v hv=>?_
      simp only [find_map] at hv
      obtain ⟨u,hu,rfl⟩:=Option.map_eq_some_iff.1 hv
      have H:=M.slot i u hu
      unfold stripN
      split
      · rename_i e'
        split
        · rename_i he
          obtain rfl:=beqX_eq _ _ he
          obtain ⟨h1,_⟩:=H.x_inv
          obtain ⟨b,hd⟩:=isBoolX_sound e' hb h1
          obtain ⟨ds,a1,a2⟩:=ev_mk h
          obtain ⟨dj,rfl,a3⟩:=evs1 a1
          rw [h1] at a3; cases a3
          rw [hd] at a2
          simp only [XK.run,bv,Option.some.injEq,D.v.injEq,Value.bool.injEq] at a2
          rw [hd]
          have : b = !w:=by cases b <;> cases w <;> simp_all
          rw [this]
          exact .x rfl rfl
        · exact H
      · exact H
    · exact M
  · exact M
theorem guardOf_sound {ρ : List D} {ι γ : Nat→Tok} {Y : Sy} {σ : St} (M : Mt Ω G ρ ι γ Y σ) {g : Option (Option (Nat × Bool))} {q : GV} (h : guardOf Y g = some q) :
    ∃ g',g = some g'∧match q with
      | .go b=>guardV σ g' = some b
      | .ask e=>∀ d,X.ev G ρ e = some d→∃ b,d = bv b∧guardV σ g' = some b:=by
  cases g with
  | none=>cases h
  | some g'=>
    cases g' with
    | none=>cases h; exact ⟨none,rfl,rfl⟩
    | some p=>
      obtain ⟨j,w⟩:=p
      refine ⟨_,rfl,?_⟩
      simp only [guardOf] at h
      split at h
      · rename_i b hg
        cases h
        obtain ⟨k1,_⟩:=(M.slot j _ hg).x_inv
        have : σ.s j = .v (.bool b):=(Option.some.inj (show some (D.v (.bool b)) = some (σ.s j) from k1)).symm
        simp [guardV,this]
      · rename_i g hg
        cases h
        intro d hd
        obtain ⟨ds,a1,a2⟩:=ev_mk hd
        obtain ⟨dj,rfl,a3⟩:=evs1 a1
        obtain ⟨k1,k2⟩:=(M.slot j _ hg).x_inv
        rw [k1] at a3; cases a3
        simp only [XK.run] at a2
        split at a2
        · rename_i b heq
          simp only [List.cons.injEq,and_true] at heq
          cases a2
          exact ⟨_,rfl,by simp [guardV,heq]⟩
        · rename_i heq
          simp only [List.cons.injEq,and_true] at heq
          cases a2
          exact ⟨_,rfl,by simp [guardV,heq]⟩
        · cases a2
      · cases h
theorem setO_like {Y : Sy} {x : Option Nat} {v : SV} : Y.like (Y.setO x v):=by cases x <;> exact ⟨rfl,rfl⟩
theorem callOf_sound {Ω : Raws} {fr : Cfg} {o : Oper} {Y : Sy} {tg : Tg} {vs : List SV} (h : callOf fr n o Y = some (tg,vs)) {ρ : List D} {ι γ : Nat→Tok} {σ : St} (M : Mt Ω G ρ ι γ Y σ) {w1 w : World} {pr : Prot} {A : Area} {tk : Places} {a : Act} (R : Rel P w1 pr A n w a.tmps σ tk) :
    (∀ i,o.dst = some i→i < n)∧noDefer o.op = true∧∃ cargs ds,Reps w pr tk cargs.toList ds∧VRs G ρ ι Y.h vs ds∧match tg with
      | .fn f=>HasBody P f→(execOp a.eval o).run P w = .ok (.enter f cargs) w
      | .yld nm=>(∃ k,find Y.h nm = some (.raw k))∧∀ l,ι nm = [l + 1]→(execOp a.eval o).run P w = (Instr.yield l cargs).run P w:=by
  have vals : ∀ (gs : List VArg),VRs G ρ ι Y.h (gs.map (valS Y)) (gs.map (VArg.val σ.s)):=fun gs=>
    ⟨by simp,fun i v d hv hd=>by
      rw [List.getElem?_map,Option.map_eq_some_iff] at hv hd
      obtain ⟨g,hg,rfl⟩:=hv
      obtain ⟨g',hg',rfl⟩:=hd
      rw [hg] at hg'; cases hg'
      exact valS_rep M g⟩
  unfold callOf at h
  split at h
  · rename_i c ho
    split at h
    · rename_i hdst
      have hx : ∀ i,o.dst = some i→i < n:=fun i hi=>by rw [hi] at hdst; simpa using hdst
      refine ⟨hx,by rw [ho]; rfl,?_⟩
      split at h
      · rename_i f' hc
        split at h
        · obtain ⟨gs,hgs,h2⟩:=Option.map_eq_some_iff.1 h
          cases h2
          exact ⟨c.args.map a.eval,gs.map (VArg.val σ.s),by simpa using args_rep R hgs,vals gs,fun hb=>by simp [execOp,ho,resolve,hc,Act.eval,Deferred.ofValue,invoke,run_callFunc hb]⟩
        · cases h
      · rename_i t hc
        split at h
        · rename_i ht
          split at h
          · rename_i f' caps hf
            split at h
            · rename_i hflt
              split at h
              · obtain ⟨gs,hgs,h2⟩:=Option.map_eq_some_iff.1 h
                cases h2
                have H:=M.slot _ _ hf
                have hfv:=R.slot t ht
                generalize hσ : σ.s t = dt at H hfv
                cases H with
                | @clo _ _ ds hl hh=>
                  have hev : a.eval (.tmp t) = a.tmps.getD t undef:=rfl
                  generalize a.tmps.getD t undef = fv at hfv hev
                  cases hfv with
                  | @clo _ _ cv _ _ hs hr=>
                    refine ⟨c.args.map a.eval ++ cv,gs.map (VArg.val σ.s) ++ ds,?_,?_,fun hb=>by simp [execOp,ho,resolve,hc,hev,Deferred.ofValue,invoke,run_callFunc hb]⟩
                    · rw [Array.toList_append]
                      exact reps_append (by simpa using args_rep R hgs) (reps_of (by simpa using hs) fun i c x hc hx=>hr i c x (by simpa using hc) hx)
                    · exact (vals gs).append ⟨hl,hh⟩
                  | bclo=>omega
              · cases h
            · rename_i hflt
              split at h
              · obtain ⟨gs,hgs,h2⟩:=Option.map_eq_some_iff.1 h
                cases h2
                have H:=M.slot _ _ hf
                have hfv:=R.slot t ht
                generalize hσ : σ.s t = dt at H hfv
                cases H with
                | @clo _ _ ds hl hh=>
                  have hev : a.eval (.tmp t) = a.tmps.getD t undef:=rfl
                  generalize a.tmps.getD t undef = fv at hfv hev
                  generalize hfq : f' = fq at hfv
                  cases hfv with
                  | clo=>omega
                  | @bclo _ f2 cv _ hs hr=>
                    have e2 : f2 + 1000000 - 1000000 = f2:=by omega
                    rw [e2]
                    refine ⟨cv ++ c.args.map a.eval,ds ++ gs.map (VArg.val σ.s),?_,?_,fun hb=>by simp [execOp,ho,resolve,hc,hev,Deferred.ofValue,invoke,run_callFunc hb]⟩
                    · rw [Array.toList_append]
                      exact reps_append (reps_of (by simpa using hs) fun i c x hc hx=>hr i c x (by simpa using hc) hx) (by simpa using args_rep R hgs)
                    · exact VRs.append ⟨hl,hh⟩ (vals gs)
              · cases h
          · rename_i nm hf
            obtain ⟨gs,hgs,h2⟩:=Option.map_eq_some_iff.1 h
            cases h2
            have H:=M.slot _ _ hf
            have hfv:=R.slot t ht
            generalize hσ : σ.s t = dt at H hfv
            cases H with
            | yl hraw=>
              obtain ⟨hev,_⟩:=rep_v.1 hfv
              have hev' : a.eval (.tmp t) = .func (.yield ((ι nm).headD 0 - 1)) #[] #[]:=hev
              refine ⟨c.args.map a.eval,gs.map (VArg.val σ.s),by simpa using args_rep R hgs,vals gs,⟨_,hraw⟩,fun l hl=>?_⟩
              rw [hl] at hev'
              simp only [List.headD_cons,Nat.add_sub_cancel] at hev'
              simp [execOp,ho,resolve,hc,hev',Deferred.ofValue,invoke]
          · cases h
        · cases h
      · cases h
    · cases h
  · cases h
theorem compOps_sound {Ω0 : Raws} {yl : Yh} {C : Cx} {inl : Inl} {cf id : Nat} (hP : C.P = P) (hG : Sound P (env0 G)) (hI : InlOK P G N dr inl) {ops : Array Oper} {Q : Exit→Act→World→Prop} {κ : Sy→FT} :
    ∀ (l : List Oper) (k : Nat),(∀ j,j < l.length→l[j]? = ops[k + j]?)→∀ {Ω : Raws} {Y : Sy} {L : List (List D→Option D)} {ρ : List D} {ι γ : Nat→Tok} {σ : St} {a : Act} {w : World},YlOK P G N dr yl B.A.sv n Ω→
    Mt Ω G ρ ι γ Y σ→RelE P B n w a.tmps σ→DM Ω0 Ω a.defers→L.length = Y.d→evalFT G N (compOps C inl cf n yl id ops l Y κ) L ρ = some dr→GoesE P B n G N dr Ω0 yl.S Ω κ L ρ (Q .normal)→wpOpsR r P ops Q (List.range' k l.length) a w
  | [],k,_,Ω,Y,L,ρ,ι,γ,σ,a,w,hY,M,R,hd,hL,he,hκ=>hκ Ω Y L ρ ι γ σ a w .rfl' M R hd hL ⟨[],rfl⟩ ⟨[],by simp⟩ he
  | o :: l,k,hl,Ω,Y,L,ρ,ι,γ,σ,a,w,hY,M,R,hd,hL,he,hκ=>by
    have ho : ops[k]? = some o:=by have:=hl 0 (by simp); simpa using this.symm
    have hl' : ∀ j,j < l.length→l[j]? = ops[k + 1 + j]?:=fun j hj=>by have:=hl (j + 1) (by simpa using hj); simpa [Nat.add_assoc,Nat.add_comm 1 j] using this
    have ih:=fun {Ω : Raws} {Y : Sy} {L' : List (List D→Option D)} {ρ' : List D} {ι γ : Nat→Tok} {σ : St} {a : Act} {w : World}=>compOps_sound (id:=id) (cf:=cf) (κ:=κ) (Ω:=Ω) (Y:=Y) (L:=L') (ρ:=ρ') (ι:=ι) (γ:=γ) (σ:=σ) (a:=a) (w:=w) (yl:=yl) (Ω0:=Ω0) hP hG hI (Q:=Q) l (k + 1) hl'
    have doCall : ∀ {Y0 : Sy} {tg : Tg} {vs : List SV},Mt Ω G ρ ι γ Y0 σ→Y0.d = Y.d→callOf (C.cfg cf) n o Y0.gc.atom.1 = some (tg,vs)→evalFT G N (mkLets Y0.gc.atom.2 (goTo yl inl tg vs o.dst n Y0.gc.atom.1 fun Y'=>compOps C inl cf n yl id ops l Y' κ)) L ρ = some dr→Oper.wpR r P o a w (wpOpsR r P ops Q (List.range' (k + 1) l.length)) Q:=by
      intro Y0 tg vs MY hYd hq he
      rw [eval_lets,Option.bind_eq_some_iff] at he
      obtain ⟨ds0,h2,he⟩:=he
      have M0:=MY.gc.atom h2
      have hL0 : L.length = Y0.gc.atom.1.d:=by rw [hL,← hYd]; exact gc_like.1.symm
      generalize Y0.gc.atom.1 = Y1 at *
      have hκ0 : GoesE P B n G N dr Ω0 yl.S Ω κ L (ρ ++ ds0) (Q .normal):=hκ.more (pre:=[]) .rfl'
      have next : GoesE P B n G N dr Ω0 yl.S Ω (fun Y'=>compOps C inl cf n yl id ops l Y' κ) L (ρ ++ ds0) (wpOpsR r P ops Q (List.range' (k + 1) l.length)):=by
        rintro Ω' Y' L' ρ' ι' γ' σ' a' w' hle M' R' hd' hL' ⟨pre,rfl⟩ ⟨suf,rfl⟩ he'
        exact ih (hY.mono hle) M' R' hd' hL' he' (hκ0.more hle)
      obtain ⟨w1,pr,A,tk,R1,U⟩:=R
      obtain ⟨hx,hnd,cargs,ds,k1,k2,k3⟩:=callOf_sound hq M0 R1
      cases tg with
      | fn f=>
        obtain ⟨hb,hc⟩:=hI (hY.weak (Nat.zero_le _) fun j hj=>by simp only [savV,Nat.sub_zero,if_neg (show ¬ j < n by omega)]) M0 R1 U k1 k2 hx hd hL0 he next
        exact wpR_enter hnd (k3 hb) hc
      | yld nm=>
        simp only [goTo] at he
        split at he
        · rename_i hS
          have hS' : nm ∈ yl.S:=by simpa using hS
          obtain ⟨⟨kk,hraw⟩,k4⟩:=k3
          obtain ⟨ln,fnl,tmps,assign,body,g1,g2,g3⟩:=hY hS' (fun _ h=>h) .rfl' (fun i hi=>⟨by omega,by rw [Nat.zero_add]⟩) M0 R1 U k1 k2 hx hd hL0 he next r
          refine wpR_at hnd ?_
          rw [k4 ln ((M0.rwo _ _ hraw).1.trans g1),g2,Oper.uponIn_round]
          refine ⟨fun h=>(by simp [wF,Fence.wide] at h),RoundIn.mono g3 ?_⟩
          rintro e w' ⟨v,rfl,h⟩
          exact h
        · cases he
    have noCall : ∀ {Y : Sy},Mt Ω G ρ ι γ Y σ→L.length = Y.d→(∀ i,o.dst = some i→i < n)→evalFT G N (compOps C inl cf n yl id ops l (Y.setO o.dst (.x unitX)) κ) L ρ = some dr→wpOpsR r P ops Q (List.range' (k + 1) l.length) (a.put o.dst undef) w:=fun {Y} M hL hx he=>by
      obtain ⟨w1,pr,A,tk,R1,U⟩:=R
      refine ih hY (M.setO fun _ _=>.x rfl rfl) ⟨_,_,_,_,(show Rel P w1 pr A n w (a.put o.dst undef).tmps (σ.setO o.dst (.tup [])) tk from R1.void hx),U⟩ (by cases o.dst <;> exact hd) (by rw [hL]; exact setO_like.1.symm) he hκ
    simp only [compOps] at he
    refine wpOps_cons ho ?_
    split at he
    · rename_i t ht
      split at ht
      · rename_i hc
        rw [Bool.and_eq_true] at hc
        have hx : ∀ i,o.dst = some i→i < n:=fun i hi=>by have:=hc.2; rw [hi] at this; simpa using this
        obtain ⟨w1,pr,A,tk,R1,U⟩:=(fun x=>x) R
        split at ht
        · rename_i hg
          obtain ⟨q,hq,rfl⟩:=Option.map_eq_some_iff.1 ht
          obtain ⟨g',hg',hgv⟩:=guardOf_sound M hg
          rw [guard_sound R1 hg' hgv]
          exact doCall M rfl hq he
        · rename_i hg
          cases ht
          obtain ⟨g',hg',hgv⟩:=guardOf_sound M hg
          rw [guard_sound R1 hg' hgv]
          exact noCall M hL hx he
        · rename_i e hg
          obtain ⟨q,hq,rfl⟩:=Option.map_eq_some_iff.1 ht
          obtain ⟨g',hg',hgv⟩:=guardOf_sound M hg
          simp only [evalFT,Option.bind_eq_some_iff] at he
          obtain ⟨v,h3,b,h4,he⟩:=he
          obtain ⟨b',hb',hgv⟩:=hgv v h3
          obtain rfl:=asBool_bv h4
          cases hb'
          rw [guard_sound R1 hg' hgv]
          cases b
          · exact noCall (stripN_sound M h3) (by rw [hL]; unfold Sy.stripN; split <;> (try split) <;> rfl) hx (by simpa using he)
          · have M1 : Mt Ω G ρ ι γ (Y.stripG e) σ:=M.reslot rfl rfl fun i v hv=>by
              simp only [Sy.stripG,find_map] at hv
              obtain ⟨u,hu,rfl⟩:=Option.map_eq_some_iff.1 hv
              exact strip_rep (M.slot i u hu) h3
            exact doCall M1 rfl hq (by simpa using he)
        · cases ht
      · cases ht
    · split at he
      · rename_i q hs
        rw [eval_chk,Option.bind_eq_some_iff] at he
        obtain ⟨ds0,h1,he⟩:=he
        obtain ⟨σ',ι',γ',g1,g2⟩:=symStm_sound M (Y':=q.1) (O:=q.2) hs (evs_all h1)
        rw [hP] at g1
        exact stm_sound (r:=r) hG R g1 _ Q fun a' w' hdf R'=>compOps_sound hP hG hI l (k + 1) hl' hY g2 R' (hdf ▸ hd) (by rw [hL]; exact (symStm_like hs).1.symm) he hκ
      · cases he
end
end Go.Proofs.YtkcfpgaepmllhaaGreatDoor
namespace Go.Proofs.YtkcfpgaepmllhaaGreatDoor
open Go.RowKit
section
variable {P : Program} {n : Nat} {G : FP} {N : Nat} {dr : D}
theorem leaves_sound {F : Fence} {fn : Func} {R : Ending→World→Prop} {a : Act} {w1 : World} {pr : Prot} {A : Area} {tk : Places} : ∀ (l : List Deferred) {w : World} {σ : St},Rel P w1 pr A n w a.tmps σ tk→l.Nodup→(∀ d ∈ l,∃ b,d = mark b∧σ.m [b + 1] = some (.raw (.deferred (some []))))→
    (∀ w' σ',Rel P w1 pr A n w' a.tmps σ' tk→σ'.s = σ.s→σ'.c = σ.c→(∀ t,(∀ d ∈ l,∀ b,d = mark b→t ≠ [b + 1])→σ'.m t = σ.m t)→∃ v,(results fn a.tmps).run P w' = .ok v w'∧R (.returned v) w')→LeavesInM F 0 P fn a.tmps R l .returning w
  | [],w,σ,R1,_,_,h=>h w σ R1 rfl rfl fun _ _=>rfl
  | d :: l,w,σ,R1,hnd,hm,h=>by
    obtain ⟨b,rfl,hb⟩:=hm d (List.mem_cons_self ..)
    obtain ⟨hd,hnd'⟩:=List.nodup_cons.1 hnd
    refine ⟨by simp,.inl ⟨b,_,rfl,run_takeDeferred (R1.rawAt hb).2,?_⟩⟩
    refine leaves_sound l (R1.putRaw hb (.deferred none)) hnd' (fun d' hd'=>?_) fun w' σ' R' hs hc hmm=>?_
    · obtain ⟨b',rfl,hb'⟩:=hm d' (List.mem_cons_of_mem _ hd')
      refine ⟨b',rfl,?_⟩
      rw [raw_m,if_neg fun e=>?_]
      · exact hb'
      · simp only [List.cons.injEq,Nat.add_right_cancel_iff,and_true] at e
        subst e; exact hd hd'
    · refine h w' σ' R' hs hc fun t ht=>?_
      rw [hmm t fun d' hd' b' hb'=>ht d' (List.mem_cons_of_mem _ hd') b' hb',raw_m,if_neg (ht _ (List.mem_cons_self ..) b rfl)]
theorem frame_end {F : Fence} {fn : Func} {R : Ending→World→Prop} {S : List Nat} {Ω Ω2 : Raws} {ρ : List D} {ι γ : Nat→Tok} {Y : Sy} {σ : St} {B : Base} {a : Act} {w : World} (M : Mt Ω2 G ρ ι γ Y σ) (RE : RelE P B n w a.tmps σ) (hd : DM Ω Ω2 a.defers) (hle : Ω.le S Ω2)
    (h : ∀ Ω3 w' σ',Ω.le S Ω3→Mt Ω3 G ρ ι γ Y σ'→RelE P B n w' a.tmps σ'→∃ v,(results fn a.tmps).run P w' = .ok v w'∧R (.returned v) w') : LeavesInM F 0 P fn a.tmps R a.defers .returning w:=by
  obtain ⟨w1,pr,A,tk,R1,U⟩:=RE
  refine leaves_sound a.defers R1 hd.2.1 (fun d hdd=>?_) fun w' σ' R' hs hc hm=>?_
  · obtain ⟨b,h1,h2,_⟩:=hd.2.2 d hdd
    exact ⟨b,h1,M.con _ h2⟩
  · refine h ⟨Ω2.t,Ω2.f,fun t=>Ω2.c t∧∀ d ∈ a.defers,∀ b,d = mark b→t ≠ [b + 1]⟩ w' σ' ⟨fun t ht=>⟨hle.1 t ht,fun d hdd b hb e=>?_⟩,hle.2⟩ ?_ ⟨w1,pr,A,tk,R',U⟩
    · obtain ⟨b',h1,_,h3⟩:=hd.2.2 d hdd
      have : b = b':=by rw [hb] at h1; simpa [mark] using h1
      subst this
      exact h3 (e ▸ ht)
    · refine M.mem hs hc R'.wf (fun k o hk hi=>hm _ fun d hdd b hb e=>?_) (fun q hq=>hm _ fun d hdd b hb e=>?_) (fun k q hk=>⟨rfl,rfl,fun hh=>(M.rwo k q hk).2.2.2 hh.1⟩) fun t ht=>by rw [hm t ht.2]; exact M.con t ht.1
      rotate_left
      · obtain ⟨b',h1,h2,_⟩:=hd.2.2 d hdd
        have : b = b':=by rw [hb] at h1; simpa [mark] using h1
        subst this
        have hr:=M.con _ h2
        obtain ⟨_,p1,_⟩:=hq.mem
        rw [← e,p1] at hr; cases hr
      obtain ⟨b',h1,h2,_⟩:=hd.2.2 d hdd
      have : b = b':=by rw [hb] at h1; simpa [mark] using h1
      subst this
      have hr:=M.con _ h2
      rw [← e] at hr
      cases o with
      | box vs=>obtain ⟨ds,_,g,_⟩:=M.box k vs hk; rw [g] at hr; cases hr
      | map c=>obtain ⟨_,_,_,g⟩:=M.mpo k c hk; rw [g] at hr; cases hr
      | mpl e' sz c=>obtain ⟨_,_,_,g,_⟩:=M.own k e' sz c hk; rw [g] at hr; cases hr
      | raw q=>exact (M.rwo k q hk).2.2.2 (e ▸ h2)
      | lst e' sz c=>
        obtain ⟨_,_,_,g⟩:=M.lst k _ _ _ hk
        rcases g with ⟨g,_⟩ | ⟨_,g⟩
        · exact hi g
        · rw [g] at hr; cases hr
theorem rngOf_sound {Ω : Raws} {it : Option (Nat × Nat)} {g : Operand} {Y : Sy} {f : Nat} {vs : List SV} {O : List X} (h : rngOf it n g Y = some ((f,vs),O)) {ρ : List D} (hO : ∀ e ∈ O,∃ d,X.ev G ρ e = some d) {ι γ : Nat→Tok} {σ : St} (M : Mt Ω G ρ ι γ Y σ) {w1 w : World} {pr : Prot} {A : Area} {tk : Places} {a : Act} (R : Rel P w1 pr A n w a.tmps σ tk) :
    ∃ cv ds,a.eval g = .func (.func f) #[] cv∧Reps w pr tk cv.toList ds∧VRs G ρ ι Y.h vs ds:=by
  unfold rngOf at h
  split at h
  · cases h; exact ⟨#[],[],rfl,trivial,VRs.nil⟩
  · rename_i t
    split at h
    · rename_i ht
      have hev : a.eval (.tmp t) = a.tmps.getD t undef:=rfl
      have hfv:=R.slot t ht
      split at h
      · rename_i f' caps hf
        split at h
        rotate_left
        · cases h
        rename_i hflt
        cases h
        have H:=M.slot _ _ hf
        generalize hσ : σ.s t = dt at H hfv
        cases H with
        | @clo _ _ ds hl hh=>
          generalize a.tmps.getD t undef = fv at hfv hev
          cases hfv with
          | @clo _ _ cv _ _ hs hr=>exact ⟨cv,ds,hev,reps_of (by simpa using hs) fun i c x hc hx=>hr i c x (by simpa using hc) hx,hl,hh⟩
          | bclo=>omega
      · rename_i e hf
        obtain ⟨⟨g0,k⟩,_,h2⟩:=Option.bind_eq_some_iff.1 h
        simp only [] at h2
        split at h2
        rotate_left
        · cases h2
        rename_i hflt
        simp only [Option.some.injEq,Prod.mk.injEq] at h2
        obtain ⟨⟨rfl,rfl⟩,rfl⟩:=h2
        obtain ⟨d0,hd0⟩:=hO _ (List.mem_singleton.2 rfl)
        obtain ⟨ds',a1,a2⟩:=ev_mk hd0
        obtain ⟨de,rfl,a3⟩:=evs1 a1
        obtain ⟨k1,k2⟩:=(M.slot _ _ hf).x_inv
        rw [k1] at a3
        have hst : σ.s t = de:=Option.some.inj a3
        rw [hst] at hfv k1 k2
        simp only [XK.run] at a2
        split at a2
        · rename_i g1 xs heq
          simp only [List.cons.injEq,and_true] at heq
          subst heq
          split at a2
          · rename_i hc
            obtain ⟨rfl,hlen⟩:=hc
            generalize a.tmps.getD t undef = fv at hfv hev
            cases hfv with
            | @clo _ _ cv _ _ hs hr=>
              refine ⟨cv,xs,hev,reps_of (by simpa using hs) fun i c x hc hx=>hr i c x (by simpa using hc) hx,by simp [hlen],fun i v d hv hd=>?_⟩
              rw [List.getElem?_map,Option.map_eq_some_iff] at hv
              obtain ⟨j,hj,rfl⟩:=hv
              obtain ⟨hjl,hj'⟩:=List.getElem?_eq_some_iff.1 hj
              rw [List.getElem_range] at hj'
              subst hj'
              have hnd : d.noT = true:=by
                simp only [D.noT,List.all_eq_true] at k2
                have:=k2 d (List.mem_of_getElem? hd)
                exact noTC_noT this
              refine .x ?_ hnd
              simp only [X.ev,X.evs,k1,Option.bind_some,Option.map_some,XK.run]
              simp only [hlen,and_self,if_true,hd,Option.bind_some,hnd]
            | bclo=>omega
          · cases a2
        · cases a2
      · cases h
    · cases h
  · cases h
def stOf : RS→LoopState
  | .ready=>.ready
  | .busy=>.busy
  | .done _=>.done
  | .over=>.exhausted
def jmp : VE→Option Code
  | .normal=>none
  | .exit id=>some (.exit id)
  | .ret=>some .ret
def pdOf : RS→Option Code
  | .done e=>jmp e
  | _=>none
def recOf (fn : Nat) (tmps : Array Value) (ps : Array Tmp) (assign body : Code) (df : Nat) (k : RS) : Loop:={ state:=stOf k,pending:=pdOf k,fn,tmps,params:=ps,assign,body,defers:=df }
set_option maxHeartbeats 2000000 in
theorem compC_sound {C : Cx} {inl : Inl} {cf : Nat} (hP : C.P = P) (hG : Sound P (env0 G)) (hm : P.follows .mixedOrders = true) (hI : InlOK P G N dr inl) :
    ∀ (c : Code) {B : Base} {r : Option Nat} {Ω0 Ω : Raws} {yl : Yh} {rd : Bool} {bi : Nat} {ks : List Nat} {Y : Sy} {κ : VE→Sy→FT} {L : List (List D→Option D)} {ρ : List D} {ι γ : Nat→Tok} {σ : St} {a : Act} {w : World} {Q : Exit→Act→World→Prop},
    (rd = false→r = none)→YlOK P G N dr yl B.A.sv n Ω→Mt Ω G ρ ι γ Y σ→RelE P B n w a.tmps σ→DM Ω0 Ω a.defers→L.length = Y.d→evalFT G N (compC C inl cf n yl rd bi ks c Y κ) L ρ = some dr→Goes P B n G N dr Ω0 yl.S Ω κ L ρ Q→Code.wpR r P c Q a w:=by
  intro c
  induction c with
  | skip=>intro B r Ω0 Ω yl rd bi ks Y κ L ρ ι γ σ a w Q hr hY M R hd hL he hκ; exact wpIn_skip (hκ .normal Ω Y L ρ ι γ σ a w .rfl' M R hd hL ⟨[],rfl⟩ ⟨[],by simp⟩ he)
  | region id ops draw=>
    intro B r Ω0 Ω yl rd bi ks Y κ L ρ ι γ σ0 a w Q hr hY M0 R0 hd hL he hκ
    simp only [compC] at he
    obtain ⟨σ,M,R⟩ : ∃ σ',Mt Ω G ρ ι γ (Y.frzR (C.un cf (2000000 + id))) σ'∧RelE P B n w a.tmps σ':=by
      unfold Sy.frzR
      split
      · exact frzL_sound M0 R0
      · exact ⟨σ0,M0,R0⟩
    replace hL : L.length = (Y.frzR (C.un cf (2000000 + id))).d:=by rw [hL]; unfold Sy.frzR; split <;> rfl
    clear M0 R0
    generalize Y.frzR (C.un cf (2000000 + id)) = Y1 at he M hL
    split at he
    · rename_i q hs
      rw [eval_chk,Option.bind_eq_some_iff] at he
      obtain ⟨_,h1,he⟩:=he
      rw [eval_lets,Option.bind_eq_some_iff] at he
      obtain ⟨ds,h2,he⟩:=he
      have hO:=prune_sound (evs_all h2) (evs_all h1)
      replace hs : symRegion C.P (C.cfg cf) n ops draw Y1 = some q:=by
        split at hs
        · cases hs
        · exact hs
      rw [hP] at hs
      refine symRegion_sound hG hm (Y':=q.1) (O:=q.2) hs hO M R fun a' w' σ' ι' γ' hd' R' M'=>?_
      exact hκ .normal Ω _ L (ρ ++ ds) ι' γ' σ' a' w' .rfl' (M'.settle h2) R' (hd' ▸ hd) (by rw [hL,← (symRegion_like hs).1]; exact settle_like.1.symm) ⟨[],rfl⟩ ⟨ds,rfl⟩ he
    · split at he
      · cases he
      · rename_i hdraw
        have hdraw : draw = false:=by simpa using hdraw
        subst hdraw
        apply wpIn_region
        rw [List.range_eq_range']
        have:=compOps_sound (r:=r) (Q:=Q) (Ω0:=Ω0) hP hG hI (ops:=ops) ops.toList 0 (by simp) hY M R hd hL he (by
          rintro Ω' Y' L' ρ' ι' γ' σ' a' w' hle M' R' hd' hL' ⟨pre,rfl⟩ ⟨suf,rfl⟩ he'
          rw [eval_lets,Option.bind_eq_some_iff] at he'
          obtain ⟨ds,h2,he'⟩:=he'
          exact hκ .normal Ω' _ _ _ ι' γ' σ' a' w' hle (M'.settle h2) R' hd' (by rw [hL']; exact settle_like.1.symm) ⟨pre,rfl⟩ ⟨suf ++ ds,by simp⟩ he')
        simpa using this
  | seq x y ihx ihy=>
    intro B r Ω0 Ω yl rd bi ks Y κ L ρ ι γ σ a w Q hr hY M R hd hL he hκ
    simp only [compC] at he
    split at he
    · rename_i jh hj
      simp only [evalFT] at he
      have ok : jh.1.ok Y.nv = true:=by
        split at hj
        · cases hj
        · exact joinS_ok (fun _=>joinHd_ok) hj
      refine wpIn_seq (ihx hr hY M.deeper R hd (by simp [hL]) he ?_)
      rintro e Ω' Y' L' ρ' ι' γ' σ' a' w' hle M' R' hd' hL' ⟨pre,rfl⟩ ⟨suf,rfl⟩ he'
      cases e with
      | normal=>
        simp only [] at he'
        split at he'
        · rename_i p hp
          simp only [evalFT,Option.bind_eq_some_iff] at he'
          obtain ⟨ds',h3,f,h4,h5⟩:=he'
          have hix : Y'.d - (Y.d + 1) = pre.length:=by
            simp only [List.length_append,List.length_cons,hL] at hL'
            omega
          rw [hix,List.getElem?_append_right (Nat.le_refl _),Nat.sub_self] at h4
          simp only [List.getElem?_cons_zero,Option.some.injEq] at h4
          subst h4
          have hnv:=M.nv
          obtain ⟨ι3,γ3,M3⟩:=jh.1.sound M' ok hp h3 M.nv (fun i hi=>by rw [List.getElem?_append_left (by omega)]) Y.d jh.2
          rw [evs_len h3,Hd.mt_cnt hp] at M3
          refine ihy hr (hY.mono hle) M3 R' hd' (by simp [hL,Hd.mk']) h5 ?_
          exact fun e=>(hκ e).more (pre:=[]) hle
        · cases he'
      | exit id=>exact hκ (.exit id) Ω' Y' _ _ ι' γ' σ' a' w' hle M' R' hd' hL' ⟨_,List.append_cons pre _ L⟩ ⟨suf,rfl⟩ he'
      | ret=>exact hκ .ret Ω' Y' _ _ ι' γ' σ' a' w' hle M' R' hd' hL' ⟨_,List.append_cons pre _ L⟩ ⟨suf,rfl⟩ he'
    refine wpIn_seq (ihx hr hY M R hd hL he ?_)
    rintro e Ω' Y' L' ρ' ι' γ' σ' a' w' hle M' R' hd' hL' ⟨pre,rfl⟩ ⟨suf,rfl⟩ he'
    cases e with
    | normal=>exact ihy hr (hY.mono hle) M' R' hd' hL' he' fun e=>(hκ e).more hle
    | exit id=>exact hκ (.exit id) Ω' Y' _ _ ι' γ' σ' a' w' hle M' R' hd' hL' ⟨pre,rfl⟩ ⟨suf,rfl⟩ he'
    | ret=>exact hκ .ret Ω' Y' _ _ ι' γ' σ' a' w' hle M' R' hd' hL' ⟨pre,rfl⟩ ⟨suf,rfl⟩ he'
  | cond c x y ihx ihy=>
    intro B r Ω0 Ω yl rd bi ks Y κ L ρ ι γ σ a w Q hr hY M R hd hL he hκ
    simp only [compC] at he
    have branch : ∀ (e : X) (v : D) (b : Bool),(dArg n c).map (valS Y) = some (.x e)→X.ev G ρ e = some v→v.asBool = some b→evalFT G N (if b then compC C inl cf n yl rd 0 ks x Y κ else compC C inl cf n yl rd 0 ks y Y κ) L ρ = some dr→Code.wpR r P (.cond c x y) Q a w:=by
      intro e v b hc h1 h2 he
      obtain ⟨g,hg,hv⟩:=Option.map_eq_some_iff.1 hc
      have hvr:=valS_rep M g
      rw [hv] at hvr
      obtain ⟨h3,_⟩:=hvr.x_inv
      rw [h1] at h3
      have hgv : g.val σ.s = .v (.bool b):=by
        have h4:=Option.some.inj h3
        rw [← h4]; exact asBool_bv h2
      obtain ⟨w1,pr,A,tk,R1,_⟩:=id R
      have hr1:=dArg_rep R1 hg
      rw [hgv] at hr1
      obtain ⟨hev,_⟩:=rep_v.1 hr1
      cases b
      · exact wpIn_cond_false hev (ihy hr hY M R hd hL (by simpa using he) hκ)
      · exact wpIn_cond_true hev (ihx hr hY M R hd hL (by simpa using he) hκ)
    split at he
    · rename_i hc
      exact branch _ _ true hc rfl rfl he
    · rename_i hc
      exact branch _ _ false hc rfl rfl he
    · rename_i e _ _ hc
      simp only [evalFT,Option.bind_eq_some_iff] at he
      obtain ⟨v,h1,b,h2,he⟩:=he
      exact branch e v b hc h1 h2 (by cases b <;> exact he)
    · cases he
  | block id c ih=>
    intro B r Ω0 Ω yl rd bi ks Y κ L ρ ι γ σ a w Q hr hY M R hd hL he hκ
    obtain ⟨σ0,M0,R0⟩ : ∃ σ',Mt Ω G ρ ι γ (Y.frz (C.un cf (id + 1))) σ'∧RelE P B n w a.tmps σ':=by
      unfold Sy.frz
      split
      · exact freeze_sound M R
      · exact ⟨σ,M,R⟩
    have hL0 : L.length = (Y.frz (C.un cf (id + 1))).d:=by rw [hL]; unfold Sy.frz; split <;> rfl
    refine wpIn_block (ih hr hY M0 R0 hd hL0 he ?_)
    rintro e Ω' Y' L' ρ' ι' γ' σ' a' w' hle M' R' hd' hL' hp hs he'
    cases e with
    | normal=>exact hκ .normal Ω' Y' _ _ ι' γ' σ' a' w' hle M' R' hd' hL' hp hs he'
    | ret=>exact hκ .ret Ω' Y' _ _ ι' γ' σ' a' w' hle M' R' hd' hL' hp hs he'
    | exit i=>
      simp only [VE.ex,Exit.inBlock]
      simp only [] at he'
      split at he' <;> rename_i hi
      · rw [if_pos hi]; exact hκ .normal Ω' Y' _ _ ι' γ' σ' a' w' hle M' R' hd' hL' hp hs he'
      · rw [if_neg hi]; exact hκ (.exit i) Ω' Y' _ _ ι' γ' σ' a' w' hle M' R' hd' hL' hp hs he'
  | loop c ih=>
    intro B r Ω0 Ω yl rd bi ks Y κ L ρ ι γ σ a w Q hr hY M R hd hL he hκ
    simp only [compC] at he
    split at he
    · generalize hB : (fun (Y : Sy) (κ : VE→Sy→FT)=>compC C inl cf n yl rd 0 (uniq ks (crossOf c)) c Y κ) = BB at he
      refine wpIn_loopG (fun (j : Nat) a w=>∃ Ω' Y L' ρ' ι γ σ,Ω.le yl.S Ω'∧evalFT G N (unroll BB j Y κ) L' ρ' = some dr∧Mt Ω' G ρ' ι γ Y σ∧RelE P B n w a.tmps σ∧DM Ω0 Ω' a.defers∧L'.length = Y.d∧(∃ pre,L' = pre ++ L)∧∃ suf,ρ' = ρ ++ suf) id
        ⟨Ω,Y,L,ρ,ι,γ,σ,.rfl',he,M,R,hd,hL,⟨[],rfl⟩,[],by simp⟩ ?_
      rintro j a1 w1 ⟨Ω1,Y1,_,_,ι1,γ1,σ1,hle1,he1,M1,R1,hd1,hL1,⟨pre1,rfl⟩,suf1,rfl⟩
      cases j with
      | zero=>cases he1
      | succ j=>
        simp only [unroll] at he1
        rw [← hB] at he1
        refine ih hr (hY.mono hle1) M1 R1 hd1 hL1 he1 ?_
        rintro e Ω' Y' L' ρ' ι' γ' σ' a' w' hle M' R' hd' hL' ⟨pre,rfl⟩ ⟨suf,rfl⟩ he'
        cases e with
        | normal=>rw [hB] at he'; exact ⟨j,⟨Ω',Y',_,_,ι',γ',σ',hle1.trans hle,he',M',R',hd',hL',⟨pre ++ pre1,by simp⟩,suf1 ++ suf,by simp⟩,Nat.lt_succ_self j⟩
        | exit i=>exact hκ (.exit i) Ω' Y' _ _ ι' γ' σ' a' w' (hle1.trans hle) M' R' hd' hL' ⟨pre ++ pre1,by simp⟩ ⟨suf1 ++ suf,by simp⟩ he'
        | ret=>exact hκ .ret Ω' Y' _ _ ι' γ' σ' a' w' (hle1.trans hle) M' R' hd' hL' ⟨pre ++ pre1,by simp⟩ ⟨suf1 ++ suf,by simp⟩ he'
    generalize hhd : Cx.headS _ _ _ = hd0 at he
    split at he
    · rename_i ok
      split at he
      · rename_i q hq
        simp only [evalFT,Option.bind_eq_some_iff] at he
        obtain ⟨ds,h1,he⟩:=he
        generalize hnx : Y.nx + hd0.row.length = nx at he
        obtain ⟨ι1,γ1,M1⟩:=hd0.sound M ok hq h1 M.nv (fun _ _=>rfl) (Y.d + 1) nx
        have hlen:=evs_len h1
        rw [hlen] at M1
        generalize hF : (fun rec vs=>evalFT G N (compC C inl cf n yl rd 0 _ c (hd0.mk' Y.nv q.1.length (Y.d + 1) nx) _) (rec :: L) (ρ ++ vs)) = F at he
        refine wpIn_loopG (fun (j : Nat) a w=>∃ Ω' vs ι γ σ,Ω.le yl.S Ω'∧iter F j vs = some dr∧Mt Ω' G (ρ ++ vs) ι γ (hd0.mk' Y.nv q.1.length (Y.d + 1) nx) σ∧RelE P B n w a.tmps σ∧DM Ω0 Ω' a.defers) id (x:=N) ⟨Ω,ds,ι1,γ1,σ,.rfl',he,M1,R,hd⟩ ?_
        rintro j a1 w1 ⟨Ω1,vs,ι2,γ2,σ2,hle1,hit,M2,R2,hd2⟩
        cases j with
        | zero=>cases hit
        | succ j=>
          simp only [iter] at hit
          rw [← hF] at hit
          refine ih (L:=iter F j :: L) hr (hY.mono hle1) M2 R2 hd2 (by simp [hL,Hd.mk']) (by rw [← hF]; exact hit) ?_
          rintro e Ω' Y' L' ρ' ι' γ' σ' a' w' hle M' R' hd' hL' ⟨pre,rfl⟩ ⟨suf,rfl⟩ he'
          cases e with
          | normal=>
            simp only [] at he'
            split at he'
            · rename_i p hp
              simp only [evalFT,Option.bind_eq_some_iff] at he'
              obtain ⟨ds',h3,f,h4,h5⟩:=he'
              have hix : Y'.d - (Y.d + 1) = pre.length:=by
                simp only [List.length_append,List.length_cons,hL] at hL'
                omega
              rw [hix,List.getElem?_append_right (Nat.le_refl _),Nat.sub_self] at h4
              simp only [List.getElem?_cons_zero,Option.some.injEq] at h4
              subst h4
              have hnv:=M.nv
              obtain ⟨ι4,γ4,M4⟩:=M'.align (ptrsOf Y.s)
              obtain ⟨ι3,γ3,M3⟩:=hd0.sound M4 ok hp h3 M.nv (fun i hi=>by rw [List.append_assoc,List.getElem?_append_left (by omega)]) (Y.d + 1) nx
              have hl1:=evs_len h3
              have hl2 : p.1.length = q.1.length:=by
                rw [Hd.mt_cnt hp,Hd.mt_cnt hq]
              rw [hl1,hl2] at M3
              exact ⟨j,⟨Ω',ds',ι3,γ3,σ',hle1.trans hle,h5,M3,R',hd'⟩,Nat.lt_succ_self j⟩
            · cases he'
          | exit i=>exact hκ (.exit i) Ω' Y' _ _ ι' γ' σ' a' w' (hle1.trans hle) M' R' hd' hL' ⟨pre ++ [iter F j],by simp⟩ ⟨vs ++ suf,by simp⟩ he'
          | ret=>exact hκ .ret Ω' Y' _ _ ι' γ' σ' a' w' (hle1.trans hle) M' R' hd' hL' ⟨pre ++ [iter F j],by simp⟩ ⟨vs ++ suf,by simp⟩ he'
      · cases he
    · cases he
  | exit id=>intro B r Ω0 Ω yl rd bi ks Y κ L ρ ι γ σ a w Q hr hY M R hd hL he hκ; exact wpIn_exit (hκ (.exit id) Ω Y L ρ ι γ σ a w .rfl' M R hd hL ⟨[],rfl⟩ ⟨[],by simp⟩ he)
  | ret=>intro B r Ω0 Ω yl rd bi ks Y κ L ρ ι γ σ a w Q hr hY M R hd hL he hκ; exact wpIn_ret (hκ .ret Ω Y L ρ ι γ σ a w .rfl' M R hd hL ⟨[],rfl⟩ ⟨[],by simp⟩ he)
  | rangeFunc g ps assign body iha ihb=>
    intro B r Ω0 Ω yl rd bi ks Y κ L ρ ι γ σ a w Q hr hY M R hd hL he hκ
    simp only [compC] at he
    split at he
    · rename_i hc
      obtain ⟨hrd,hS,hps⟩:=hc
      have hS : Y.nx ∉ yl.S:=by simpa using hS
      obtain rfl:=hr hrd
      have hps' : ∀ p ∈ ps.toList,p < n:=fun p hp=>by
        rw [Array.all_eq_true_iff_forall_mem] at hps
        simpa using hps p (by simpa using hp)
      split at he
      · rename_i q hq
        obtain ⟨⟨f,caps⟩,OO⟩:=q
        rw [eval_chk,Option.bind_eq_some_iff] at he
        obtain ⟨_,hOO,he⟩:=he
        obtain ⟨w1,pr,A,tk,R1,U⟩:=(fun x=>x) R
        refine wpIn_rangeFunc fun fnid _=>?_
        generalize hnm : Y.nx = nm at *
        let rec' : RS→Obj:=fun k=>.loop (recOf fnid a.tmps ps assign body w.heap.size k)
        obtain ⟨hn1,tk1,Ra,_,_⟩:=R1.newRaw (.deferred (some []))
        obtain ⟨hn2,tk2,Rb,_,_⟩:=Ra.newRaw (rec' .ready)
        have hsz : (w.alloc (.deferred (some []))).heap.size = w.heap.size + 1:=World.size_alloc ..
        rw [hsz] at hn2 Rb
        have hn2' : σ.m [w.heap.size + 1 + 1] = none:=by
          rw [raw_m,if_neg (by simp)] at hn2; exact hn2
        have M1:=M.newRec (nm:=nm) (g:=rec') hn1 hn2'
        generalize hw2 : ((w.alloc (.deferred (some []))).alloc (rec' .ready)) = w2 at Rb
        generalize hσ2 : ((σ.raw w.heap.size (.deferred (some []))).raw (w.heap.size + 1) (rec' .ready)) = σ2 at Rb M1
        obtain ⟨cv,dcs,hev,hrc,hvc⟩:=rngOf_sound hq (evs_all hOO) M1 Rb
        generalize hΩ1 : (⟨updN Ω.t nm [w.heap.size + 1 + 1],updN Ω.f nm rec',fun t=>Ω.c t ∨ t = [w.heap.size + 1]⟩ : Raws) = Ω1 at M1
        have hle1 : Ω.le yl.S Ω1:=by
          subst hΩ1
          refine ⟨fun t h=>.inl h,fun k hk=>?_⟩
          have hne : k ≠ nm:=fun e=>hS (e ▸ hk)
          exact ⟨if_neg hne,if_neg hne⟩
        have ht1 : Ω1.t nm = [w.heap.size + 1 + 1]:=by subst hΩ1; exact if_pos rfl
        have hf1 : Ω1.f nm = rec':=by subst hΩ1; exact if_pos rfl
        have hc1 : Ω1.c [w.heap.size + 1]:=by subst hΩ1; exact .inr rfl
        -- the rounds
        generalize hyl : (⟨nm :: yl.S,_,_⟩ : Yh) = yl' at he
        have hylS : yl'.S = nm :: yl.S:=by rw [← hyl]
        have hYl : YlOK P G N dr yl' (savV 0 n a.tmps B.A.sv) 0 Ω1:=by
          intro S Bc Ω0' Ω' nm' off n0 vs x Z κ' L' ρ' ι' γ' σ' w1' w' pr' A' tk' a' cargs ds next h1 hSS hle hV M' R' U' hr' hv hx hd' hL' he' hκ' r'
          rw [hylS] at h1 hle hSS
          rw [← hyl] at he'
          simp only [] at he'
          split at he'
          · rename_i hnm'
            subst hnm'
            split at he'
            · rename_i hready
              split at he'
              · rename_i hlen
                have hnS : nm' ∈ S:=hSS _ (List.mem_cons_self ..)
                have ht : Ω'.t nm' = [w.heap.size + 1 + 1]:=((hle.2 _ (List.mem_cons_self ..)).1).trans ht1
                have hf : Ω'.f nm' = rec':=((hle.2 _ (List.mem_cons_self ..)).2).trans hf1
                obtain ⟨k1,k2,k3,_⟩:=M'.rwo _ _ hready
                rw [ht] at k1
                rw [k1,hf] at k3
                have hheap:=(R'.rawAt k3).2
                have hcs : cargs.size = ps.size:=by
                  have:=hr'.length
                  have:=hv.1
                  simp at *; omega
                have htm : (ps.zip cargs).foldl (fun tmps (t,a)=>tmps.setIfInBounds t a) a.tmps = putP ps.toList cargs.toList a.tmps:=by
                  rw [← Array.foldl_toList,Array.toList_zip]; exact zip_fold _ _ _
                refine ⟨w.heap.size + 1,fnid,putP ps.toList cargs.toList a.tmps,assign,body,ht,?_,roundIn_of_wpIn trivial ?_⟩
                · rw [← htm]; exact run_yield hheap hcs
                have hVr : ∀ j,n≤j→n≤n + off + j∧savV n n0 a'.tmps Bc.A.sv (n + off + j) = B.A.sv j:=fun j hj=>by
                  obtain ⟨v1,v2⟩:=hV j (Nat.zero_le _)
                  refine ⟨by omega,?_⟩
                  have e1 : n + off + j - n = off + j:=by omega
                  simp only [savV,e1,if_neg (show ¬ off + j < n0 by omega)]
                  rw [v2]
                  simp only [savV,Nat.sub_zero,if_neg (show ¬ j < n by omega)]
                have hYr : YlOK P G N dr (yl.under S (n + off)) (savV n n0 a'.tmps Bc.A.sv) n Ω':=YlOK.under (YlOK.mono hY (hle1.trans (hle.sub fun x hx=>List.mem_cons_of_mem _ hx))) (fun x hx=>hSS x (List.mem_cons_of_mem _ hx)) hVr
                have Rr:=R'.round (n:=n) (off:=off) (T:=a.tmps) R1.size (fun i hi=>by
                  obtain ⟨v1,v2⟩:=hV i (Nat.zero_le _)
                  refine ⟨v1,?_⟩
                  rw [U'.sv,v2]
                  simp only [savV,Nat.sub_zero,if_pos hi]) hr' hps'
                have Ur:=U'.enter n n0 a'.tmps
                have Mr:=M'.round (n:=n) (off:=off) (n0:=n0) (ps:=ps.toList) hv
                refine iha (r:=some (w.heap.size + 1)) (B:={ Bc with A:={ Bc.A with sv:=savV n n0 a'.tmps Bc.A.sv } }) (Ω0:=Ω') (a:={ tmps:=putP ps.toList cargs.toList a.tmps,defers:=[] }) (fun h=>by cases h) hYr Mr ⟨w1',pr',_,tk',Rr,Ur⟩ DM.nil hL' he' ?_
                rintro e Ω2 Z1 L2 ρ2 ι2 γ2 σ3 a2 w3 hle2 M2 R2 hd2 hL2 ⟨pre,rfl⟩ ⟨suf,rfl⟩ he2
                simp only [] at he2
                split at he2
                · rename_i hr1
                  obtain ⟨q1,q2,q3,_⟩:=M2.rwo _ _ hr1
                  have ht2:=(hle2.2 _ hnS).1.trans ht
                  have hf2:=(hle2.2 _ hnS).2.trans hf
                  rw [ht2] at q1
                  rw [q1,hf2] at q3
                  obtain ⟨wq,prq,Aq,tkq,Rq,Uq⟩:=R2
                  have hheap2:=(Rq.rawAt q3).2
                  refine ⟨_,run_beginRound hheap2 rfl,?_⟩
                  have Mb:=M2.setRaw hr1 q1 .busy
                  rw [hf2] at Mb
                  refine ihb (r:=some (w.heap.size + 1)) (Ω0:=Ω') (fun h=>by cases h) (YlOK.mono hYr hle2) Mb ⟨wq,prq,Aq,tkq,Rq.putRaw q3 (rec' .busy),Uq⟩ hd2 hL2 he2 ?_
                  rintro e2 Ω3 Z2 L3 ρ3 ι3 γ3 σ4 a3 w4 hle3 M3 R3 _ hL3 ⟨pre3,rfl⟩ ⟨suf3,rfl⟩ he3
                  simp only [] at he3
                  split at he3
                  · rename_i hbusy
                    obtain ⟨p1,p2,p3,_⟩:=M3.rwo _ _ hbusy
                    have ht3:=(hle3.2 _ hnS).1.trans ht2
                    have hf3:=(hle3.2 _ hnS).2.trans hf2
                    rw [ht3] at p1
                    rw [p1,hf3] at p3
                    obtain ⟨wz,prz,Az,tkz,Rz,Uz⟩:=R3
                    have hheap3:=(Rz.rawAt p3).2
                    have Me:=M3.setRaw hbusy p1 (rsOf e2)
                    rw [hf3] at Me
                    have fin : next (a'.put x (.bool (decide (e2 = .normal)))) (w4.putObj (w.heap.size + 1) (rec' (rsOf e2))):=
                      hκ' Ω3 _ _ _ ι3 γ3 _ _ _ (hle2.trans hle3) ((Me.leave n).setO (d:=bv (decide (e2 = .normal))) fun _ _=>.x rfl rfl) (RelE.leave (Rz.putRaw p3 (rec' (rsOf e2))) Uz R'.size hx (rep_v.2 ⟨rfl,rfl⟩))
                        (by cases x <;> exact hd'.mono (hle2.trans hle3)) (by rw [hL3]; cases x <;> rfl) ⟨pre3 ++ pre,by simp⟩ ⟨suf ++ suf3,by simp⟩ he3
                    cases e2 with
                    | normal=>exact ⟨_,_,run_endRound none hheap3,_,rfl,fin⟩
                    | ret=>exact ⟨_,_,run_endRound (some .ret) hheap3,_,rfl,fin⟩
                    | exit id=>exact ⟨_,_,run_endRound (some (.exit id)) hheap3,_,rfl,fin⟩
                  · cases he3
                · cases he2
              · cases he'
            · cases he'
          · rename_i hnm'
            have h1' : nm' ∈ yl.S:=by
              rcases List.mem_cons.1 h1 with h | h
              · exact absurd h hnm'
              · exact h
            exact hY h1' (fun x hx=>hSS x (List.mem_cons_of_mem _ hx)) (hle1.trans (hle.sub fun x hx=>List.mem_cons_of_mem _ hx)) (fun j hj=>by
              obtain ⟨v1,v2⟩:=hV j (Nat.zero_le _)
              refine ⟨v1,v2.trans ?_⟩
              simp only [savV,Nat.sub_zero,if_neg (show ¬ j < n by omega)]) M' R' U' hr' hv hx hd' hL' he' hκ' r'
        have hdm : DM Ω0 Ω1 ([mark w.heap.size] ++ a.defers):=by
          have hno : ¬ Ω.c [w.heap.size + 1]:=fun h=>by have:=M.con _ h; rw [hn1] at this; cases this
          have h1:=hd.mono hle1
          refine ⟨h1.1,List.nodup_cons.2 ⟨fun hmem=>?_,h1.2.1⟩,fun d hdd=>?_⟩
          · obtain ⟨b',e1,e2,_⟩:=hd.2.2 _ hmem
            have : w.heap.size = b':=by simpa [mark] using e1
            subst this
            exact hno e2
          · rcases List.mem_cons.1 hdd with rfl | hdd
            · exact ⟨_,rfl,hc1,fun h=>hno (hd.1 _ h)⟩
            · exact h1.2.2 d hdd
        have hreps : Reps w2 pr tk2 (#[Value.func (.yield (w.heap.size + 1)) #[] #[]] ++ cv).toList (.v (.func (.yield (w.heap.size + 1)) #[] #[]) :: dcs):=by
          rw [Array.toList_append]
          exact ⟨rep_v.2 ⟨rfl,rfl⟩,hrc⟩
        have hvrs : VRs G ρ (updN ι nm [w.heap.size + 1 + 1]) (Y.newRec nm).h (.yl nm :: caps) (.v (.func (.yield (w.heap.size + 1)) #[] #[]) :: dcs):=by
          refine VRs.mk ?_ hvc
          have:=VR.yl (G:=G) (ρ:=ρ) (ι:=updN ι nm [w.heap.size + 1 + 1]) (h:=(Y.newRec nm).h) (n:=nm) (k:=.ready) (by simp [Sy.newRec,Sy.raw,find_set])
          simpa [updN] using this
        obtain ⟨hb,hcall⟩:=hI (B:=B) (Ω0:=Ω0) (a:={ a with defers:=[mark w.heap.size] ++ a.defers }) (x:=none) (next:=fun a' w3=>∃ jump w4,(Instr.endLoop (w.heap.size + 1)).run P w3 = .ok jump w4∧
            (match jump with
             | none=>Q .normal a' w4
             | some c=>c.wpIn (wF none) 0 P Q a' w4)) hYl M1 Rb U hreps hvrs (fun i h=>by cases h) hdm hL he (by
          rintro Ω2 Y2 L2 ρ2 ι2 γ2 σ3 a2 w3 hle2 M2 R2 hd2 hL2 ⟨pre,rfl⟩ ⟨suf,rfl⟩ he2
          rw [hylS] at hle2
          have hle3 : Ω.le yl.S Ω2:=hle1.trans (hle2.sub fun x hx=>List.mem_cons_of_mem _ hx)
          have go : ∀ {k : RS} {e : VE},find Y2.h nm = some (.raw k)→stOf k ≠ .busy→pdOf k = jmp e→evalFT G N (κ e (Y2.kill nm)) (pre ++ L) (ρ ++ suf) = some dr→∃ jump w4,(Instr.endLoop (w.heap.size + 1)).run P w3 = .ok jump w4∧
              (match jump with
               | none=>Q .normal a2 w4
               | some c=>c.wpIn (wF none) 0 P Q a2 w4):=by
            intro k e hraw hst hpd he3
            obtain ⟨p1,p2,p3,_⟩:=M2.rwo _ _ hraw
            have ht2:=(hle2.2 _ (List.mem_cons_self ..)).1.trans ht1
            have hf2:=(hle2.2 _ (List.mem_cons_self ..)).2.trans hf1
            rw [ht2] at p1
            rw [p1,hf2] at p3
            obtain ⟨wz,prz,Az,tkz,Rz,Uz⟩:=R2
            have hheap:=(Rz.rawAt p3).2
            have fin:=fun o=>hκ e Ω2 (Y2.kill nm) _ _ ι2 γ2 _ a2 _ hle3 (M2.dropRaw hraw p1 o) ⟨wz,prz,Az,tkz,Rz.putRaw p3 o,Uz⟩ hd2 hL2 ⟨pre,rfl⟩ ⟨suf,rfl⟩ he3
            refine ⟨_,_,run_endLoop hheap hst,?_⟩
            have hpd' : (recOf fnid a.tmps ps assign body w.heap.size k).pending = jmp e:=hpd
            rw [hpd']
            cases e with
            | normal=>exact fin _
            | ret=>exact wpIn_ret (fin _)
            | exit id=>exact wpIn_exit (fin _)
          simp only [] at he2
          split at he2
          · rename_i hraw
            exact go (e:=.normal) hraw (by simp [stOf]) rfl he2
          · rename_i e hraw
            exact go (e:=e) hraw (by simp [stOf]) rfl he2
          · cases he2)
        have henter : (Instr.enterLoop fnid a.tmps ps assign body none).run P w = .ok (w.heap.size + 1,[mark w.heap.size]) w2:=by
          rw [← hw2]; exact run_enterLoop_outer fnid a.tmps ps assign body
        have hres : (resolve a.eval (rangeCall g (w.heap.size + 1)) 0).run P w2 = .ok { target:=.fn (.func f) cv,args:=#[.func (.yield (w.heap.size + 1)) #[] #[]] } w2:=by
          have hconst : a.eval (.const (.func (.yield (w.heap.size + 1)) #[] #[])) = .func (.yield (w.heap.size + 1)) #[] #[]:=rfl
          simp [resolve,hev,hconst,Deferred.ofValue]
        have hinv : (invoke (.fn (.func f) cv) #[.func (.yield (w.heap.size + 1)) #[] #[]]).run P w2 = .ok (.enter f (#[.func (.yield (w.heap.size + 1)) #[] #[]] ++ cv)) w2:=by
          simp [invoke,run_callFunc hb]
        have hcalls : CallsIn (wF none) (0 - 1) P f (#[.func (.yield (w.heap.size + 1)) #[] #[]] ++ cv) w2 (rangePost (wF none) 0 P (w.heap.size + 1) Q { a with defers:=[mark w.heap.size] ++ a.defers }):=by
          refine callsIn_wF.2 (hcall.mono ?_)
          rintro e w' ⟨v,rfl,h⟩
          exact h
        exact ⟨_,_,_,_,_,_,_,_,henter,hres,fun _ _=>trivial,hinv,fun h=>(by simp [wF,Fence.wide] at h),hcalls⟩
      · cases he
    · cases he
  | scope=>intro B r Ω0 Ω yl rd bi ks Y κ L ρ ι γ σ a w Q hr hY M R hd hL he hκ; cases he
  | label=>intro B r Ω0 Ω yl rd bi ks Y κ L ρ ι γ σ a w Q hr hY M R hd hL he hκ; cases he
  | goto=>intro B r Ω0 Ω yl rd bi ks Y κ L ρ ι γ σ a w Q hr hY M R hd hL he hκ; cases he
  | refuse=>intro B r Ω0 Ω yl rd bi ks Y κ L ρ ι γ σ a w Q hr hY M R hd hL he hκ; cases he
theorem inlF_ok {C : Cx} {inl : Inl} (hP : C.P = P) (hG : Sound P (env0 G)) (hm : P.follows .mixedOrders = true) (hI : InlOK P G N dr inl) : InlOK P G N dr (inlF C inl):=by
  intro yl B Ω0 Ω f n vs x Y κ L ρ ι γ σ w1 w pr A tk a cargs ds next hY M R U hr hv hx hd hL he hκ
  unfold inlF at he
  rw [hP] at he
  split at he
  · rename_i fn hfn
    split at he
    · rename_i c rs hb hrs
      split at he
      · rename_i hc
        obtain ⟨hname,hlen⟩:=hc
        refine ⟨⟨fn,hfn,by rw [hb]; rfl,hname⟩,?_⟩
        have hds : ds.length≤fn.ntmps:=by have:=hv.1; omega
        have Mc:=M.enter (n:=fn.ntmps) (n0:=n) hv hlen
        have Rc : RelE P { B with A:={ B.A with sv:=savV fn.ntmps n a.tmps B.A.sv } } fn.ntmps w (cargs ++ Array.replicate (fn.ntmps - cargs.size) undef) ⟨enterS fn.ntmps ds σ.s,σ.m,σ.c⟩:=
          ⟨w1,pr,_,tk,R.enter hr hds,U.enter fn.ntmps n a.tmps⟩
        have hYc : YlOK P G N dr (yl.push fn.ntmps) (savV fn.ntmps n a.tmps B.A.sv) fn.ntmps Ω:=YlOK.push hY fun j _=>⟨by omega,by simp only [savV,Nat.add_sub_cancel_left,Nat.sub_zero]⟩
        -- what the frame leaves
        have fin : ∀ {Ω' : Raws} {κ' : Sy→FT} {L' : List (List D→Option D)} {ρ' : List D},Ω.le yl.S Ω'→GoesE P B n G N dr Ω0 yl.S Ω κ' L' ρ' next→∀ {e : VE} {Y2 : Sy} {L2 : List (List D→Option D)} {ρ2 : List D} {ι2 γ2 : Nat→Tok} {σ2 : St} {a2 : Act} {w2 : World},Mt Ω' G ρ2 ι2 γ2 Y2 σ2→
            RelE P { B with A:={ B.A with sv:=savV fn.ntmps n a.tmps B.A.sv } } fn.ntmps w2 a2.tmps σ2→DM Ω Ω' a2.defers→L2.length = Y2.d→(∃ pre,L2 = pre ++ L')→(∃ suf,ρ2 = ρ' ++ suf)→
            evalFT G N (match e with | .exit _=>.bad 100032 | _=>match rawRs rs Y2 with | some v=>κ' ((Y2.leave fn.ntmps).setO x v) | none=>.bad 100033) L2 ρ2 = some dr→
            bodyPostM (wF none) 0 P fn (fun e w'=>∃ v,e = .returned v∧next (a.put x v) w') e.ex a2 w2:=by
          intro Ω' κ' L' ρ' hle hκ' e Y2 L2 ρ2 ι2 γ2 σ2 a2 w2 M2 R2 hd2 hL2 hp hs he2
          have go : evalFT G N (match rawRs rs Y2 with | some v=>κ' ((Y2.leave fn.ntmps).setO x v) | none=>.bad 100033) L2 ρ2 = some dr→LeavesInM (wF none) 0 P fn a2.tmps (fun e w'=>∃ v,e = .returned v∧next (a.put x v) w') a2.defers .returning w2:=fun he2=>by
            split at he2
            · rename_i v hvv
              refine frame_end (S:=yl.S) M2 R2 hd2 hle fun Ω3 w3 σ3 hle3 M3 R3=>?_
              obtain ⟨d0,k1,k2⟩:=rawRs_sound M3 hvv
              obtain ⟨wq,prq,Aq,tkq,Rq,Uq⟩:=R3
              obtain ⟨u,hu1,hu2⟩:=results_sound Rq hrs k1
              exact ⟨u,hu1,u,rfl,hκ' Ω3 _ L2 ρ2 ι2 γ2 _ _ w3 hle3 ((M3.leave fn.ntmps).setO fun _ _=>k2) (RelE.leave Rq Uq R.size hx hu2) (by cases x <;> exact hd.mono hle3) (by rw [hL2]; cases x <;> rfl) hp hs he2⟩
            · cases he2
          cases e with
          | normal=>exact go he2
          | ret=>exact go he2
          | exit i=>cases he2
        refine callsIn_wF.1 (callsIn_of_wp_marks (F:=wF none) (n:=0) hfn hb trivial ?_)
        simp only [] at he
        split at he
        · rename_i jh hj
          have ok : jh.1.ok Y.nv = true:=by
            split at hj
            · cases hj
            · exact joinS_ok (fun _=>joinHd_ok) hj
          simp only [evalFT] at he
          refine compC_sound (r:=none) (Ω0:=Ω) hP hG hm hI c (fun _=>rfl) hYc Mc.deeper Rc DM.nil (by simp [hL]) he ?_
          rintro e Ω' Y2 L2 ρ2 ι2 γ2 σ2 a2 w2 hle M2 R2 hd2 hL2 ⟨pre,rfl⟩ ⟨suf,rfl⟩ he2
          refine fin (κ':=fun Y'=>match jh.1.mt Y' with | some p=>.next (Y'.d - (Y.d + 1)) p.1 | none=>.bad 100034) (L':=(fun vs=>evalFT G N (κ (jh.1.mk' Y.nv (patCnt jh.1.row) Y.d jh.2)) L (ρ ++ vs)) :: L) (ρ':=ρ) hle ?_ M2 R2 hd2 hL2 ⟨pre,rfl⟩ ⟨suf,rfl⟩ he2
          rintro Ω' Y' L3 ρ3 ι' γ' σ' a' w' hle' M' R' hd' hL' ⟨pre3,rfl⟩ ⟨suf3,rfl⟩ he'
          simp only [] at he'
          split at he'
          · rename_i p hp
            simp only [evalFT,Option.bind_eq_some_iff] at he'
            obtain ⟨ds',h3,f',h4,h5⟩:=he'
            have hix : Y'.d - (Y.d + 1) = pre3.length:=by
              simp only [List.length_append,List.length_cons,hL] at hL'
              omega
            rw [hix,List.getElem?_append_right (Nat.le_refl _),Nat.sub_self] at h4
            simp only [List.getElem?_cons_zero,Option.some.injEq] at h4
            subst h4
            have hnv:=M.nv
            obtain ⟨ι3,γ3,M3⟩:=jh.1.sound M' ok hp h3 M.nv (fun i hi=>by rw [List.getElem?_append_left (by omega)]) Y.d jh.2
            rw [evs_len h3,Hd.mt_cnt hp] at M3
            exact hκ Ω' _ _ _ ι3 γ3 σ' a' w' hle' M3 R' hd' (by simp [hL,Hd.mk']) ⟨[],rfl⟩ ⟨ds',rfl⟩ h5
          · cases he'
        · refine compC_sound (r:=none) (Ω0:=Ω) hP hG hm hI c (fun _=>rfl) hYc Mc Rc DM.nil hL he ?_
          rintro e Ω' Y2 L2 ρ2 ι2 γ2 σ2 a2 w2 hle M2 R2 hd2 hL2 hp hs he2
          exact fin hle hκ M2 R2 hd2 hL2 hp hs he2
      · cases he
    · cases he
  · cases he
theorem compL_ok {C : Cx} (hP : C.P = P) (hG : Sound P (env0 G)) (hm : P.follows .mixedOrders = true) : ∀ k,InlOK P G N dr (compL C k)
  | 0=>fun _ _ _ _ _ _ _ _ _ he _=>by cases he
  | k + 1=>inlF_ok hP hG hm (compL_ok hP hG hm k)
end
end Go.Proofs.YtkcfpgaepmllhaaGreatDoor
namespace Go.Proofs.YtkcfpgaepmllhaaGreatDoor
open Go.RowKit
theorem ft_sound {P : Program} {C : Cx} {inl : Inl} {ks : List Nat} {G : FP} {N : Nat} (hP : C.P = P) (hG : Sound P (env0 G)) (hm : P.follows .mixedOrders = true) {f : Nat} (hI : ∀ dr,InlOK P G N dr inl) {fn : Func} {c : Code} {rs : List VRes} (h1 : P.funcs[f]? = some fn)
    (h2 : (fn.name == "runtime.NumGoroutine") = false) (h3 : fn.body = some c) (h4 : fn.results.toList.mapM (dRes P fn.ntmps) = some rs) {ds : List D} {d : D} (hlen : ds.length ≤ fn.ntmps) (hn : ds.all D.noT = true)
    (he : evalFT G N (compC C inl f fn.ntmps yl0 false 0 ks c (sy0 ds.length) (kR rs)) [] ds = some d) : VCr P f ds d:=by
  have hb : HasBody P f:=⟨fn,h1,by rw [h3]; rfl,h2⟩
  suffices key : ∀ (w : World) (pr : Prot) (cargs : Array Value),(∀ b o,pr b o→b < w.heap.size)→GOK w pr→Reps w pr noTok cargs.toList ds→
      Calls P f cargs w fun e w'=>∃ v pr',e = .returned v∧Chg (fun _=>False) w w'∧(d.isOwn = false→∀ b o,pr b o→pr' b o)∧(∀ b o,pr' b o→d.isOwn = false∧pr b o ∨ (w.heap.size≤b∧b < w'.heap.size))∧Rep w' pr' noTok v d.bare by
    cases ho : d.isOwn with
    | false=>
      refine VCp.toR (.inr ⟨hb,fun w pr cargs k1 k2 k3=>(key w pr cargs k1 k2 k3).mono ?_⟩) ho
      rintro e w' ⟨v,pr',k1,k2,k3,k4,k5⟩
      rw [bare_of ho] at k5
      exact ⟨v,pr',k1,k2,k3 ho,fun b o h=>(k4 b o h).imp And.right id,k5⟩
    | true=>
      have hn : VCn P f ds d.bare:=⟨hb,fun w pr cargs k1 k2 k3=>(key w pr cargs k1 k2 k3).mono (by
        rintro e w' ⟨v,pr',k1,k2,k3,k4,k5⟩
        exact ⟨v,pr',k1,k2,fun b o h=>(k4 b o h).resolve_left (fun h=>by rw [ho] at h; cases h.1),k5⟩)⟩
      exact ⟨hn.toP,fun _=>hn⟩
  intro w pr cargs hpr hg hargs
  have hY0 : YlOK P G N d yl0 (⟨w,pr,noArea⟩ : Base).A.sv fn.ntmps raws0:=fun h=>by cases h
  refine callsIn_wF.1 (callsIn_of_wp_marks (F:=wF none) (n:=0) h1 h3 trivial ?_)
  refine compC_sound (r:=none) (Ω0:=raws0) (Ω:=raws0) hP hG hm (hI d) c (fun _=>rfl) hY0 (mt0 hn) (initialE hpr hg hargs hlen) DM.nil rfl he ?_
  rintro e Ω' Y' L' ρ' ι' γ' σ' a' w' hle M' R' hd' _ _ _ he'
  have fin : evalFT G N (match resX rs Y' with | some x=>FT.ret x | none=>.bad 100022) L' ρ' = some d→LeavesInM (wF none) 0 P fn a'.tmps (fun e w'=>∃ v pr',e = .returned v∧Chg (fun _=>False) w w'∧(d.isOwn = false→∀ b o,pr b o→pr' b o)∧(∀ b o,pr' b o→d.isOwn = false∧pr b o ∨ (w.heap.size≤b∧b < w'.heap.size))∧Rep w' pr' noTok v d.bare) a'.defers .returning w':=fun h'=>by
    split at h'
    · rename_i x hx
      simp only [evalFT,Option.bind_eq_some_iff] at h'
      obtain ⟨d0,g1,g2⟩:=h'
      split at g2
      rotate_left
      · cases g2
      rename_i hnoT
      injection g2 with g2
      refine frame_end (S:=[]) M' R' hd' hle fun Ω3 w3 σ3 _ M3 R3=>?_
      obtain ⟨w1,pr1,A1,tk,R1,U⟩:=R3
      obtain ⟨d1,k1,k2,k3⟩:=resX_sound M3 hx g1
      obtain ⟨v,hv1,hv2⟩:=results_sound R1 h4 k1
      have lt : ∀ t q b c,σ3.m t = some q→tk t = some (b,c)→b < w3.heap.size:=fun t q b c hm ht=>by
        obtain ⟨b1,c1,g1,g2⟩:=(R1.mem.obj t q hm).place
        rw [ht] at g1; cases g1; exact g2
      have hv3:=viewT_sound (pr':=fun b o=>pr1 b o ∨ blocksOf tk σ3.m b) R1.mem (fun _ _ h=>.inl h) (fun _ h _=>.inr h) k2 hv2
      have hsz:=U.chg.size
      have hsz2:=R1.chg.size
      have hnew : ∀ b,blocksOf tk σ3.m b→w.heap.size≤b∧b < w3.heap.size:=by
        rintro b ⟨t,q,c,hm,ht⟩
        have hlt:=lt t q b c hm ht
        rcases R1.live t q b c hm ht with h | h
        · exact ⟨by have : (⟨w,pr,noArea⟩ : Base).w.heap.size = w.heap.size:=rfl; omega,hlt⟩
        · refine ⟨Nat.le_of_not_lt fun hb=>?_,hlt⟩
          exact (U.sub b hb h : False)
      have hch : Chg (fun _=>False) w w3:=U.chg.trans R1.chg fun b hb h=>(U.sub b hb h : False)
      have hd0 : d0.isOwn = false:=by
        unfold D.isOwn
        split
        · simp [D.noT,D.noTC,D.noTB] at hnoT
        · rfl
      unfold tagN at g2
      split at g2
      · subst g2
        exact ⟨v,hv1,v,fun b o=>pr1 b o ∨ blocksOf tk σ3.m b,rfl,hch,fun _ b o h=>.inl (U.sup b o h),fun b o h=>by
          rcases h with h | h
          · have hlt:=R1.prlt b o h
            rcases U.inf b o h with h | h | h
            · exact .inl ⟨hd0,h⟩
            · exact .inr ⟨h,by omega⟩
            · exact (show False from h).elim
          · exact .inr (hnew b h),by rw [bare_of hd0]; exact hv3⟩
      · split at g2
        · rename_i hn
          subst g2
          exact ⟨v,hv1,v,_,rfl,hch,(fun h=>by cases h),fun b o h=>.inr (hnew b h),viewT_new R1.mem k3 hn k2 hv2⟩
        · subst g2
          exact ⟨v,hv1,v,fun b o=>pr1 b o ∨ blocksOf tk σ3.m b,rfl,hch,fun _ b o h=>.inl (U.sup b o h),fun b o h=>by
            rcases h with h | h
            · have hlt:=R1.prlt b o h
              rcases U.inf b o h with h | h | h
              · exact .inl ⟨hd0,h⟩
              · exact .inr ⟨h,by omega⟩
              · exact (show False from h).elim
            · exact .inr (hnew b h),by rw [bare_of hd0]; exact hv3⟩
    · cases h'
  cases e with
  | normal=>exact fin he'
  | ret=>exact fin he'
  | exit i=>cases he'
end Go.Proofs.YtkcfpgaepmllhaaGreatDoor
namespace Go.Proofs.YtkcfpgaepmllhaaGreatDoor
open Go.RowKit
section
variable (C : Cx) (H : FP) (N : Nat)
def stepG (G : FP) : FP:=fun f ds=>(H f ds).or ((compF C f).bind fun q=>if (ds.length = q.1∧ds.all D.noT = true)∧f < 1000000 then evalFT G N q.2 [] ds else none)
def Gs : Nat→FP
  | 0=>noG
  | k + 1=>stepG C H N (Gs k)
end
def Tends {α β : Type} (g : α→Option β) (gs : Nat→α→Option β) : Prop:=∀ a b,g a = some b→∃ k0,∀ k,k0≤k→gs k a = some b
section
variable {G : FP} {Gk : Nat→FP}
def GT (G : FP) (Gk : Nat→FP) : Prop:=∀ f ds d,G f ds = some d→∃ k0,∀ k,k0≤k→Gk k f ds = some d
theorem callX_tends (hG : GT G Gk) {fl : Bool} {f : Nat} {ds : List D} {d : D} (h : callX G fl f ds = some d) : ∃ k0,∀ k,k0≤k→callX (Gk k) fl f ds = some d:=by
  unfold callX at h
  obtain ⟨d0,h1,h2⟩:=Option.bind_eq_some_iff.1 h
  obtain ⟨k0,hk⟩:=hG f ds d0 h1
  exact ⟨k0,fun k hkk=>by unfold callX; rw [hk k hkk]; exact h2⟩
theorem run_tends (hG : GT G Gk) {k : XK} {ds : List D} {d : D} (h : k.run G ds = some d) : ∃ k0,∀ j,k0≤j→k.run (Gk j) ds = some d:=by
  cases k with
  | call fl f=>exact callX_tends hG h
  | ccall fl=>
    simp only [XK.run] at h ⊢
    split at h
    · split at h
      · rename_i hlt
        obtain ⟨cs,h1,h2⟩:=Option.bind_eq_some_iff.1 h
        obtain ⟨k0,hk⟩:=callX_tends hG h2
        exact ⟨k0,fun j hj=>by rw [if_pos hlt]; simp only [h1,Option.bind_some]; exact hk j hj⟩
      · cases h
    · cases h
  | ecall k f sz=>
    simp only [XK.run] at h ⊢
    split at h
    · rename_i hc
      split at h
      · obtain ⟨r,h1,h2⟩:=Option.bind_eq_some_iff.1 h
        obtain ⟨k0,hk⟩:=hG _ _ _ h1
        exact ⟨k0,fun j hj=>by rw [if_pos hc,hk j hj]; exact h2⟩
      · cases h
    · cases h
  | _=>exact ⟨0,fun j _=>h⟩
mutual
theorem ev_tends (hG : GT G Gk) {ρ : List D} : ∀ (x : X) {d : D},X.ev G ρ x = some d→∃ k0,∀ k,k0≤k→X.ev (Gk k) ρ x = some d
  | .t i,d,h=>⟨0,fun _ _=>h⟩
  | .q e,d,h=>⟨0,fun _ _=>h⟩
  | .mk kk xs,d,h=>by
    obtain ⟨ds,h1,h2⟩:=ev_mk h
    obtain ⟨k1,g1⟩:=evs_tends hG xs h1
    obtain ⟨k2,g2⟩:=run_tends hG h2
    exact ⟨max k1 k2,fun k hk=>by simp only [X.ev,g1 k (by omega),Option.bind_some,g2 k (by omega)]⟩
  | .ite c a b,d,h=>by
    simp only [X.ev,Option.bind_eq_some_iff] at h
    obtain ⟨v,h1,x,h2,h3⟩:=h
    obtain ⟨k1,g1⟩:=ev_tends hG c h1
    cases x
    · obtain ⟨k2,g2⟩:=ev_tends hG b (by simpa using h3)
      exact ⟨max k1 k2,fun k hk=>by simp only [X.ev,g1 k (by omega),Option.bind_some,h2,cond_false,g2 k (by omega)]⟩
    · obtain ⟨k2,g2⟩:=ev_tends hG a (by simpa using h3)
      exact ⟨max k1 k2,fun k hk=>by simp only [X.ev,g1 k (by omega),Option.bind_some,h2,cond_true,g2 k (by omega)]⟩
theorem evs_tends (hG : GT G Gk) {ρ : List D} : ∀ (xs : List X) {ds : List D},X.evs G ρ xs = some ds→∃ k0,∀ k,k0≤k→X.evs (Gk k) ρ xs = some ds
  | [],ds,h=>⟨0,fun _ _=>h⟩
  | x :: r,ds,h=>by
    simp only [X.evs,Option.bind_eq_some_iff,Option.map_eq_some_iff] at h
    obtain ⟨d,h1,ds',h2,rfl⟩:=h
    obtain ⟨k1,g1⟩:=ev_tends hG x h1
    obtain ⟨k2,g2⟩:=evs_tends hG r h2
    exact ⟨max k1 k2,fun k hk=>by simp only [X.evs,g1 k (by omega),g2 k (by omega),Option.bind_some,Option.map_some]⟩
end
theorem evalFT_tends (hG : GT G Gk) {N : Nat} : ∀ (t : FT) {L : List (List D→Option D)} {Lk : Nat→List (List D→Option D)} {ρ : List D} {d : D},
    (∀ (j : Nat) (f : List D→Option D),L[j]? = some f→∃ fk : Nat→List D→Option D,(∀ k,(Lk k)[j]? = some (fk k))∧Tends f fk)→evalFT G N t L ρ = some d→∃ k0,∀ k,k0≤k→evalFT (Gk k) N t (Lk k) ρ = some d:=by
  intro t
  induction t with
  | ret x=>
    intro L Lk ρ d hL h
    simp only [evalFT,Option.bind_eq_some_iff] at h
    obtain ⟨d0,h1,h2⟩:=h
    obtain ⟨k0,g⟩:=ev_tends hG x h1
    exact ⟨k0,fun k hk=>by simp only [evalFT,g k hk,Option.bind_some]; exact h2⟩
  | chk xs k ih=>
    intro L Lk ρ d hL h
    simp only [evalFT,Option.bind_eq_some_iff] at h
    obtain ⟨ds,h1,h2⟩:=h
    obtain ⟨k1,g1⟩:=evs_tends hG xs h1
    obtain ⟨k2,g2⟩:=ih hL h2
    exact ⟨max k1 k2,fun k hk=>by simp only [evalFT,g1 k (by omega),Option.bind_some,g2 k (by omega)]⟩
  | lets xs k ih=>
    intro L Lk ρ d hL h
    simp only [evalFT,Option.bind_eq_some_iff] at h
    obtain ⟨ds,h1,h2⟩:=h
    obtain ⟨k1,g1⟩:=evs_tends hG xs h1
    obtain ⟨k2,g2⟩:=ih hL h2
    exact ⟨max k1 k2,fun k hk=>by simp only [evalFT,g1 k (by omega),Option.bind_some,g2 k (by omega)]⟩
  | ite c a b iha ihb=>
    intro L Lk ρ d hL h
    simp only [evalFT,Option.bind_eq_some_iff] at h
    obtain ⟨v,h1,x,h2,h3⟩:=h
    obtain ⟨k1,g1⟩:=ev_tends hG c h1
    cases x
    · obtain ⟨k2,g2⟩:=ihb hL (by simpa using h3)
      exact ⟨max k1 k2,fun k hk=>by simp only [evalFT,g1 k (by omega),Option.bind_some,h2,cond_false,g2 k (by omega)]⟩
    · obtain ⟨k2,g2⟩:=iha hL (by simpa using h3)
      exact ⟨max k1 k2,fun k hk=>by simp only [evalFT,g1 k (by omega),Option.bind_some,h2,cond_true,g2 k (by omega)]⟩
  | loop xs body ih=>
    intro L Lk ρ d hL h
    simp only [evalFT,Option.bind_eq_some_iff] at h
    obtain ⟨ds,h1,h2⟩:=h
    obtain ⟨k1,g1⟩:=evs_tends hG xs h1
    have key : ∀ n,Tends (iter (fun rec vs=>evalFT G N body (rec :: L) (ρ ++ vs)) n) (fun k=>iter (fun rec vs=>evalFT (Gk k) N body (rec :: Lk k) (ρ ++ vs)) n):=by
      intro n
      induction n with
      | zero=>intro a b h; cases h
      | succ n ihn=>
        intro a b h
        simp only [iter] at h ⊢
        refine ih (Lk:=fun k=>iter (fun rec vs=>evalFT (Gk k) N body (rec :: Lk k) (ρ ++ vs)) n :: Lk k) (fun j f hf=>?_) h
        cases j with
        | zero=>simp at hf; subst hf; exact ⟨_,fun k=>rfl,ihn⟩
        | succ j=>exact (hL j f (by simpa using hf)).imp fun fk hfk=>⟨fun k=>by simpa using hfk.1 k,hfk.2⟩
    obtain ⟨k2,g2⟩:=key N ds d h2
    exact ⟨max k1 k2,fun k hk=>by simp only [evalFT,g1 k (by omega),Option.bind_some]; exact g2 k (by omega)⟩
  | next j xs=>
    intro L Lk ρ d hL h
    simp only [evalFT,Option.bind_eq_some_iff] at h
    obtain ⟨ds,h1,f,h2,h3⟩:=h
    obtain ⟨k1,g1⟩:=evs_tends hG xs h1
    obtain ⟨fk,g2,g3⟩:=hL j f h2
    obtain ⟨k2,g4⟩:=g3 ds d h3
    exact ⟨max k1 k2,fun k hk=>by simp only [evalFT,g1 k (by omega),Option.bind_some,g2 k,g4 k (by omega)]⟩
  | jp b body ihb ih=>
    intro L Lk ρ d hL h
    simp only [evalFT] at h ⊢
    refine ih (Lk:=fun k=>(fun vs=>evalFT (Gk k) N b (Lk k) (ρ ++ vs)) :: Lk k) (fun j f hf=>?_) h
    cases j with
    | zero=>simp at hf; subst hf; exact ⟨_,fun k=>rfl,fun vs d' h'=>ihb hL h'⟩
    | succ j=>exact (hL j f (by simpa using hf)).imp fun fk hfk=>⟨fun k=>by simpa using hfk.1 k,hfk.2⟩
  | st Y=>intro L Lk ρ d hL h; cases h
  | bad _=>intro L Lk ρ d hL h; cases h
end
section
variable {P : Program} {C : Cx} {H : FP} {N : Nat}
theorem Gs_sound (hP : C.P = P) (hH : Sound P (env0 H)) (hm : P.follows .mixedOrders = true) : ∀ k,Sound P (env0 (Gs C H N k))
  | 0=>⟨fun f ds d _ h=>(by cases h),fun k f ds d _ h=>(by cases h)⟩
  | k + 1=>⟨fun f ds d hlt h=>(by
    have h' : (H f ds).or ((compF C f).bind fun q=>if (ds.length = q.1∧ds.all D.noT = true)∧f < 1000000 then evalFT (Gs C H N k) N q.2 [] ds else none) = some d:=h
    cases hh : H f ds with
    | some d0=>
      rw [hh] at h'
      cases h'
      exact hH.p f ds d hlt hh
    | none=>
      rw [hh,Option.none_or] at h'
      obtain ⟨⟨n,t⟩,h1,h2⟩:=Option.bind_eq_some_iff.1 h'
      simp only [] at h2
      split at h2
      · rename_i hc
        have hS:=Gs_sound hP hH hm k
        unfold compF at h1
        subst hP
        split at h1
        · rename_i fn hfn
          split at h1
          · rename_i c rs hb hr
            split at h1 <;> cases h1
            rename_i hcc
            refine ft_sound (C:={ C with rt:=f }) (inl:=compL { C with rt:=f } 8) (N:=N) (ks:=keepOf fn) rfl hS hm (fun dr=>compL_ok (C:={ C with rt:=f }) rfl hS hm 8) hfn hcc.1 hb hr (by omega) hc.1.2 ?_
            rw [hc.1.1]; exact h2
          · cases h1
        · cases h1
      · cases h2),fun k' f ds d hlt h=>(by
    have h' : (H (1000000 + (1000000 * k' + f)) ds).or ((compF C (1000000 + (1000000 * k' + f))).bind fun q=>if (ds.length = q.1∧ds.all D.noT = true)∧1000000 + (1000000 * k' + f) < 1000000 then evalFT (Gs C H N k) N q.2 [] ds else none) = some d:=h
    cases hh : H (1000000 + (1000000 * k' + f)) ds with
    | some d0=>
      rw [hh] at h'
      cases h'
      exact hH.e k' f ds d hlt hh
    | none=>
      rw [hh,Option.none_or] at h'
      obtain ⟨q,_,h2⟩:=Option.bind_eq_some_iff.1 h'
      rw [if_neg (by omega)] at h2
      cases h2)⟩
theorem Gs_mono : ∀ k f ds d,Gs C H N k f ds = some d→Gs C H N (k + 1) f ds = some d
  | 0,f,ds,d,h=>by cases h
  | k + 1,f,ds,d,h=>by
    have h' : (H f ds).or ((compF C f).bind fun q=>if (ds.length = q.1∧ds.all D.noT = true)∧f < 1000000 then evalFT (Gs C H N k) N q.2 [] ds else none) = some d:=h
    show (H f ds).or ((compF C f).bind fun q=>if (ds.length = q.1∧ds.all D.noT = true)∧f < 1000000 then evalFT (Gs C H N (k + 1)) N q.2 [] ds else none) = some d
    cases hh : H f ds with
    | some d0=>rw [hh] at h'; exact h'
    | none=>
      rw [hh,Option.none_or] at h'
      rw [Option.none_or]
      obtain ⟨q,h1,h2⟩:=Option.bind_eq_some_iff.1 h'
      rw [h1]
      simp only [Option.bind_some]
      split at h2
      · rename_i hc
        rw [if_pos hc]
        obtain ⟨k0,hk⟩:=evalFT_tends (G:=Gs C H N k) (Gk:=fun _=>Gs C H N (k + 1)) (fun f ds d h=>⟨0,fun _ _=>Gs_mono k f ds d h⟩) (Lk:=fun _=>[]) q.2 (fun j f hf=>by simp at hf) h2
        exact hk k0 (Nat.le_refl _)
      · cases h2
theorem Gs_le {k j : Nat} (h : k≤j) {f : Nat} {ds : List D} {d : D} (hd : Gs C H N k f ds = some d) : Gs C H N j f ds = some d:=by
  induction h with
  | refl=>exact hd
  | step _ ih=>exact Gs_mono _ f ds d ih
open Classical in
noncomputable def GG (C : Cx) (H : FP) (N : Nat) : FP:=fun f ds=>if h : ∃ d,∃ k,Gs C H N k f ds = some d then some h.choose else none
theorem GG_of {k f : Nat} {ds : List D} {d : D} (h : Gs C H N k f ds = some d) : GG C H N f ds = some d:=by
  have hex : ∃ d,∃ k,Gs C H N k f ds = some d:=⟨d,k,h⟩
  simp only [GG,dif_pos hex]
  obtain ⟨j,hj⟩:=hex.choose_spec
  have h1:=Gs_le (Nat.le_max_left k j) h
  have h2:=Gs_le (Nat.le_max_right k j) hj
  rw [h1] at h2
  exact h2.symm
theorem GG_some {f : Nat} {ds : List D} {d : D} (h : GG C H N f ds = some d) : ∃ k,Gs C H N k f ds = some d:=by
  by_cases hex : ∃ d,∃ k,Gs C H N k f ds = some d
  · simp only [GG,dif_pos hex,Option.some.injEq] at h
    rw [← h]; exact hex.choose_spec
  · simp only [GG,dif_neg hex] at h; cases h
theorem GG_sound (hP : C.P = P) (hH : Sound P (env0 H)) (hm : P.follows .mixedOrders = true) : Sound P (env0 (GG C H N)):=
  ⟨fun f ds d hlt h=>let ⟨k,hk⟩:=GG_some (show GG C H N f ds = some d from h); (Gs_sound hP hH hm k).p f ds d hlt hk,
    fun k' f ds d hlt h=>let ⟨k,hk⟩:=GG_some (show GG C H N (1000000 + (1000000 * k' + f)) ds = some d from h); (Gs_sound hP hH hm k).e k' f ds d hlt hk⟩
theorem GG_hand {f : Nat} {ds : List D} {d : D} (h : H f ds = some d) : GG C H N f ds = some d:=
  GG_of (k:=1) (show (H f ds).or _ = some d by rw [h]; rfl)
theorem GG_eval {f n : Nat} {t : FT} (hc : compF C f = some (n,t)) {ds : List D} {d : D} (h0 : H f ds = none) (hlt : f < 1000000) (hl : ds.length = n) (hn : ds.all D.noT = true) (he : evalFT (GG C H N) N t [] ds = some d) : GG C H N f ds = some d:=by
  obtain ⟨k0,hk⟩:=evalFT_tends (G:=GG C H N) (Gk:=fun k=>Gs C H N k) (fun f ds d h=>let ⟨k,hk⟩:=GG_some h; ⟨k,fun j hj=>Gs_le hj hk⟩) (Lk:=fun _=>[]) t (fun j f hf=>by simp at hf) he
  refine GG_of (k:=k0 + 1) ?_
  show (H f ds).or ((compF C f).bind fun q=>if (ds.length = q.1∧ds.all D.noT = true)∧f < 1000000 then evalFT (Gs C H N k0) N q.2 [] ds else none) = some d
  rw [h0,hc]
  simp only [Option.none_or,Option.bind_some]
  rw [if_pos ⟨⟨hl,hn⟩,hlt⟩]
  exact hk k0 (Nat.le_refl _)
end
end Go.Proofs.YtkcfpgaepmllhaaGreatDoor
namespace Go.Proofs.YtkcfpgaepmllhaaGreatDoor
open Go.RowKit
structure CsI (G : FP) (s : Cs) (ρ ρ' : List D) : Prop where
  l : s.rs.length = ρ.length
  v : ∀ (i j : Nat),s.rs[i]? = some j→ρ'[j]? = ρ[i]?
  a : ∀ (e : X) (j : Nat),(e,j) ∈ s.av→∃ d,X.ev G ρ' e = some d∧ρ'[j]? = some d
section
variable {G : FP} {N : Nat} {s : Cs} {ρ ρ' : List D}
theorem CsI.get (I : CsI G s ρ ρ') {i j : Nat} (h : s.rs[i]? = some j) : ∃ d,ρ[i]? = some d∧ρ'[j]? = some d:=by
  have hi : i < ρ.length:=by rw [← I.l]; exact (List.getElem?_eq_some_iff.1 h).1
  exact ⟨ρ[i],List.getElem?_eq_getElem hi,(I.v i j h).trans (List.getElem?_eq_getElem hi)⟩
theorem CsI.more (I : CsI G s ρ ρ') (t : List D) : CsI G s ρ (ρ' ++ t):=
  ⟨I.l,fun i j h=>by
    obtain ⟨d,h1,h2⟩:=I.get h
    rw [h1,List.getElem?_append_left (List.getElem?_eq_some_iff.1 h2).1,h2],fun e j h=>by
    obtain ⟨d,h1,h2⟩:=I.a e j h
    exact ⟨d,ev_more _ _ h1,by rw [List.getElem?_append_left (List.getElem?_eq_some_iff.1 h2).1,h2]⟩⟩
theorem look_some : ∀ {l : List (X × Nat)} {y : X} {j : Nat},lookX l y = some j→(y,j) ∈ l
  | (e,i) :: r,y,j,h=>by
    simp only [lookX] at h
    split at h
    · rename_i hb
      cases h
      rw [beqX_eq e y hb]; exact List.mem_cons_self ..
    · exact List.mem_cons_of_mem _ (look_some h)
theorem see_ev (I : CsI G s ρ ρ') {y : X} {d : D} (h : X.ev G ρ' (seeX s y) = some d) : X.ev G ρ' y = some d:=by
  unfold seeX at h
  split at h
  · split at h
    · rename_i j hj
      obtain ⟨d',h1,h2⟩:=I.a y j (look_some hj)
      rw [h1]
      have h : ρ'[j]? = some d:=h
      rw [h2] at h; exact h
    · exact h
  · exact h
mutual
theorem abs_ev (I : CsI G s ρ ρ') : ∀ (x : X) {d : D},X.ev G ρ' (absX s x) = some d→X.ev G ρ x = some d
  | .t i,d,h=>by
    simp only [absX] at h
    split at h
    · rename_i j hj
      have h : ρ'[j]? = some d:=h
      rw [I.v i j hj] at h; exact h
    · cases h
  | .q _,d,h=>h
  | .mk k xs,d,h=>by
    simp only [absX] at h
    obtain ⟨ds,h1,h2⟩:=ev_mk (see_ev I h)
    simp only [X.ev,abs_evs I xs h1,Option.bind_some,h2]
  | .ite c a b,d,h=>by
    simp only [absX,X.ev,Option.bind_eq_some_iff] at h ⊢
    obtain ⟨v,h1,x,h2,h3⟩:=h
    refine ⟨v,abs_ev I c h1,x,h2,?_⟩
    cases x
    · exact abs_ev I b h3
    · exact abs_ev I a h3
theorem abs_evs (I : CsI G s ρ ρ') : ∀ (xs : List X) {ds : List D},X.evs G ρ' (absXs s xs) = some ds→X.evs G ρ xs = some ds
  | [],ds,h=>h
  | x :: r,ds,h=>by
    simp only [absXs,X.evs,Option.bind_eq_some_iff,Option.map_eq_some_iff] at h ⊢
    obtain ⟨d,h1,ds',h2,rfl⟩:=h
    exact ⟨d,abs_ev I x h1,ds',abs_evs I r h2,rfl⟩
end
def evP (G : FP) : List X→List D→Option (List D)
  | [],ρ=>some ρ
  | x :: r,ρ=>(X.ev G ρ x).bind fun d=>evP G r (ρ ++ [d])
theorem evP_append : ∀ (p q : List X) (ρ : List D),evP G (p ++ q) ρ = (evP G p ρ).bind (evP G q)
  | [],q,ρ=>rfl
  | x :: r,q,ρ=>by
    simp only [List.cons_append,evP,Option.bind_assoc]
    congr 1
    funext d
    exact evP_append r q _
theorem eval_wrap {L : List (List D→Option D)} {k : FT} : ∀ (p : List X) (ρ : List D),evalFT G N (wrapL p k) L ρ = (evP G p ρ).bind (evalFT G N k L)
  | [],ρ=>rfl
  | x :: r,ρ=>by
    simp only [wrapL,evalFT,X.evs,evP]
    cases hx : X.ev G ρ x with
    | none=>rfl
    | some d=>simp only [Option.bind_some,Option.map_some,eval_wrap r]
structure NamI (G : FP) (s s' : Cs) (ρ ρ1 ρ2 : List D) : Prop where
  i : CsI G s' ρ ρ2
  n : s'.n = ρ2.length
  rs : s'.rs = s.rs
  ar : s'.ar = s.ar
  e : ∃ t,ρ2 = ρ1 ++ t
theorem NamI.rfl' (I : CsI G s ρ ρ') (hn : s.n = ρ'.length) : NamI G s s ρ ρ' ρ':=⟨I,hn,rfl,rfl,[],by simp⟩
theorem NamI.trans {s s1 s2 : Cs} {ρ r0 r1 r2 : List D} (h : NamI G s s1 ρ r0 r1) (k : NamI G s1 s2 ρ r1 r2) : NamI G s s2 ρ r0 r2:=by
  obtain ⟨t,rfl⟩:=h.e
  obtain ⟨t',rfl⟩:=k.e
  exact ⟨k.i,k.n,k.rs.trans h.rs,k.ar.trans h.ar,t ++ t',by simp⟩
abbrev Thr (ρ' : List D) (y : X) : Prop:=∀ j,y = .t j→∃ d,ρ'[j]? = some d
theorem Thr.more {ρ' : List D} {y : X} (h : Thr ρ' y) (t : List D) : Thr (ρ' ++ t) y:=fun j hj=>by
  obtain ⟨d,h⟩:=h j hj
  exact ⟨d,by rw [List.getElem?_append_left (List.getElem?_eq_some_iff.1 h).1,h]⟩
mutual
theorem nam_ok : ∀ (x : X) {s s' : Cs} {p : List X} {y : X} {ρ r1 r2 : List D},CsI G s ρ r1→s.n = r1.length→namX s x = ((p,s'),y)→evP G p r1 = some r2→
    NamI G s s' ρ r1 r2∧Thr r2 y∧isOwnX y = isOwnX x∧∀ t d,X.ev G (r2 ++ t) y = some d→X.ev G ρ x = some d
  | .t i,s,s',p,y,ρ,r1,r2,I,hn,h,hp=>by
    simp only [namX,Prod.mk.injEq] at h
    obtain ⟨⟨rfl,rfl⟩,rfl⟩:=h
    cases hp
    refine ⟨.rfl' I hn,fun j hj=>?_,?_,fun t d hd=>abs_ev (I.more t) (.t i) hd⟩
    · simp only [absX] at hj
      split at hj
      · rename_i j' hj'
        cases hj
        obtain ⟨d,_,h⟩:=I.get hj'
        exact ⟨d,h⟩
      · cases hj
    · simp only [absX]; split <;> rfl
  | .q e,s,s',p,y,ρ,r1,r2,I,hn,h,hp=>by
    simp only [namX,Prod.mk.injEq] at h
    obtain ⟨⟨rfl,rfl⟩,rfl⟩:=h
    cases hp
    exact ⟨.rfl' I hn,(fun j hj=>by cases hj),rfl,fun t d hd=>hd⟩
  | .mk k xs,s,s',p,y,ρ,r1,r2,I,hn,h,hp=>by
    simp only [namX] at h
    cases hq : namXs s xs with
    | mk ps ys=>
      obtain ⟨p1,s1⟩:=ps
      rw [hq] at h
      simp only [] at h
      have run : ∀ {r : List D} {d : D},(∀ ds,X.evs G r ys = some ds→X.evs G ρ xs = some ds)→X.ev G r (.mk k ys) = some d→X.ev G ρ (.mk k xs) = some d:=fun hh hd=>by
        obtain ⟨ds,h1,h2⟩:=ev_mk hd
        simp only [X.ev,hh ds h1,Option.bind_some,h2]
      split at h
      · rename_i hcall
        have hown : isOwnX (.mk k xs) = false:=by cases k <;> first | rfl | cases hcall
        split at h
        · rename_i j hj
          simp only [Prod.mk.injEq] at h
          obtain ⟨⟨rfl,rfl⟩,rfl⟩:=h
          obtain ⟨h1,h2⟩:=nams_ok xs I hn hq hp
          obtain ⟨d0,a1,a2⟩:=h1.i.a _ _ (look_some hj)
          refine ⟨h1,fun j' hj'=>by cases hj'; exact ⟨d0,a2⟩,hown.symm,fun t d hd=>?_⟩
          obtain ⟨d1,b1,b2⟩:=(h1.i.more t).a _ _ (look_some hj)
          have hd : (r2 ++ t)[j]? = some d:=hd
          rw [b2] at hd; cases hd
          exact run (h2.2 t) b1
        · simp only [Prod.mk.injEq] at h
          obtain ⟨⟨rfl,rfl⟩,rfl⟩:=h
          rw [evP_append] at hp
          obtain ⟨r3,hp1,hp2⟩:=Option.bind_eq_some_iff.1 hp
          obtain ⟨h1,h2⟩:=nams_ok xs I hn hq hp1
          simp only [evP,Option.bind_eq_some_iff] at hp2
          obtain ⟨dc,c1,c2⟩:=hp2
          cases c2
          have hget : (r3 ++ [dc])[s1.n]? = some dc:=by rw [h1.n]; simp
          refine ⟨h1.trans ⟨⟨h1.i.l,(h1.i.more [dc]).v,fun e j hm=>?_⟩,by simp [Cs.name,h1.n],rfl,rfl,[dc],rfl⟩,fun j hj=>by cases hj; exact ⟨dc,hget⟩,hown.symm,fun t d hd=>?_⟩
          · simp only [Cs.name,List.mem_cons,Prod.mk.injEq] at hm
            rcases hm with ⟨rfl,rfl⟩ | hm
            · exact ⟨dc,ev_more _ _ c1,hget⟩
            · exact (h1.i.more [dc]).a e j hm
          · have hd : (r3 ++ [dc] ++ t)[s1.n]? = some d:=hd
            rw [List.getElem?_append_left (by rw [h1.n]; simp),hget] at hd
            cases hd
            exact run (fun ds he=>h2.2 [] ds (by simpa using he)) c1
      · simp only [Prod.mk.injEq] at h
        obtain ⟨⟨rfl,rfl⟩,rfl⟩:=h
        obtain ⟨h1,h2⟩:=nams_ok xs I hn hq hp
        refine ⟨h1,(fun j hj=>by cases hj),?_,fun t d hd=>run (h2.2 t) hd⟩
        cases k <;> rfl
  | .ite c a b,s,s',p,y,ρ,r1,r2,I,hn,h,hp=>by
    simp only [namX] at h
    cases hq : namX s c with
    | mk ps c'=>
      obtain ⟨p1,s1⟩:=ps
      rw [hq] at h
      simp only [Prod.mk.injEq] at h
      obtain ⟨⟨rfl,rfl⟩,rfl⟩:=h
      obtain ⟨h1,_,_,h2⟩:=nam_ok c I hn hq hp
      refine ⟨h1,(fun j hj=>by cases hj),rfl,fun t d hd=>?_⟩
      simp only [X.ev,Option.bind_eq_some_iff] at hd ⊢
      obtain ⟨v,g1,x,g2,g3⟩:=hd
      refine ⟨v,h2 t v g1,x,g2,?_⟩
      cases x
      · exact abs_ev (h1.i.more t) b g3
      · exact abs_ev (h1.i.more t) a g3
theorem nams_ok : ∀ (xs : List X) {s s' : Cs} {p : List X} {ys : List X} {ρ r1 r2 : List D},CsI G s ρ r1→s.n = r1.length→namXs s xs = ((p,s'),ys)→evP G p r1 = some r2→
    NamI G s s' ρ r1 r2∧((∀ y ∈ ys,Thr r2 y)∧(∀ ds,newXs ys ds = newXs xs ds)∧ys.length = xs.length)∧∀ t ds,X.evs G (r2 ++ t) ys = some ds→X.evs G ρ xs = some ds
  | [],s,s',p,ys,ρ,r1,r2,I,hn,h,hp=>by
    simp only [namXs,Prod.mk.injEq] at h
    obtain ⟨⟨rfl,rfl⟩,rfl⟩:=h
    cases hp
    exact ⟨.rfl' I hn,⟨(fun y hy=>by cases hy),fun ds=>rfl,rfl⟩,fun t ds hd=>hd⟩
  | x :: r,s,s',p,ys,ρ,r1,r2,I,hn,h,hp=>by
    simp only [namXs] at h
    cases hq : namX s x with
    | mk ps y=>
      obtain ⟨p1,s1⟩:=ps
      rw [hq] at h
      simp only [] at h
      cases hq2 : namXs s1 r with
      | mk ps2 zs=>
        obtain ⟨p2,s2⟩:=ps2
        rw [hq2] at h
        simp only [Prod.mk.injEq] at h
        obtain ⟨⟨rfl,rfl⟩,rfl⟩:=h
        rw [evP_append] at hp
        obtain ⟨r3,hp1,hp2⟩:=Option.bind_eq_some_iff.1 hp
        obtain ⟨h1,h2,h3,h4⟩:=nam_ok x I hn hq hp1
        obtain ⟨k1,⟨k2,k3,k5⟩,k4⟩:=nams_ok r h1.i h1.n hq2 hp2
        obtain ⟨u,rfl⟩:=k1.e
        refine ⟨h1.trans k1,⟨fun z hz=>?_,fun ds=>?_,by simp [k5]⟩,fun t ds hd=>?_⟩
        · rcases List.mem_cons.1 hz with rfl | hz
          · exact h2.more u
          · exact k2 z hz
        · cases ds with
          | nil=>rfl
          | cons d ds=>
            simp only [newXs,k3 ds]
            congr 1
            cases d <;> first | rfl | skip
            rename_i es
            cases es with
            | nil=>rfl
            | cons e es=>
              have own : ∀ (z : X),newX z (.list (e :: es)) = if isOwnX z then (e :: es).all fun c=>c.all D.flatC else false:=fun z=>by
                cases z with
                | mk k xs=>cases k <;> rfl
                | _=>rfl
              rw [own,own,h3]
        · simp only [X.evs,Option.bind_eq_some_iff,Option.map_eq_some_iff] at hd ⊢
          obtain ⟨d,g1,ds',g2,rfl⟩:=hd
          exact ⟨d,h4 (u ++ t) d (by simpa using g1),ds',k4 t ds' g2,rfl⟩
end
theorem newX_own {x y : X} (h : isOwnX y = isOwnX x) (d : D) : newX y d = newX x d:=by
  cases d <;> first | rfl | skip
  rename_i es
  cases es with
  | nil=>rfl
  | cons e es=>
    have own : ∀ (z : X),newX z (.list (e :: es)) = if isOwnX z then (e :: es).all fun c=>c.all D.flatC else false:=fun z=>by
      cases z with
      | mk k xs=>cases k <;> rfl
      | _=>rfl
    rw [own,own,h]
theorem nam_tag {x : X} {s s' : Cs} {p : List X} {y : X} {r1 r2 : List D} (I : CsI G s ρ r1) (hn : s.n = r1.length) (h : namX s x = ((p,s'),y)) (hp : evP G p r1 = some r2) (d : D) : tagN y d = tagN x d:=by
  obtain ⟨_,_,h3,_⟩:=nam_ok x I hn h hp
  have hT : newT y d = newT x d:=by
    cases d with
    | tup ds=>
      cases x with
      | mk k xs=>
        simp only [namX] at h
        cases hq : namXs s xs with
        | mk ps ys=>
          obtain ⟨p1,s1⟩:=ps
          rw [hq] at h
          simp only [] at h
          split at h
          · rename_i hcall
            have : newT (.mk k xs) (.tup ds) = false:=by cases k <;> first | rfl | cases hcall
            rw [this]
            split at h <;> (simp only [Prod.mk.injEq] at h; obtain ⟨_,rfl⟩:=h; rfl)
          · simp only [Prod.mk.injEq] at h
            obtain ⟨⟨rfl,rfl⟩,rfl⟩:=h
            obtain ⟨_,⟨_,k3,_⟩,_⟩:=nams_ok xs I hn hq hp
            cases k <;> first | exact k3 ds | rfl
      | t i=>
        simp only [namX,Prod.mk.injEq,absX] at h
        obtain ⟨_,rfl⟩:=h
        split <;> rfl
      | q e=>
        simp only [namX,Prod.mk.injEq] at h
        obtain ⟨_,rfl⟩:=h
        rfl
      | ite c a b=>
        simp only [namX] at h
        cases hq : namX s c with
        | mk ps c'=>
          obtain ⟨p1,s1⟩:=ps
          rw [hq] at h
          simp only [Prod.mk.injEq] at h
          obtain ⟨_,rfl⟩:=h
          rfl
    | _=>
      have nt : ∀ (z : X) (d : D),(∀ ds,d ≠ .tup ds)→newT z d = newX z d:=fun z d hd=>by
        unfold newT
        split
        · exact absurd rfl (hd _)
        · rfl
      rw [nt y _ (fun ds h=>by cases h),nt x _ (fun ds h=>by cases h),newX_own h3]
  unfold tagN
  rw [hT]
theorem filter_evs : ∀ {ys : List X} {ρ' ds : List D},(∀ y ∈ ys,Thr ρ' y)→X.evs G ρ' (ys.filter notT) = some ds→∃ ds',X.evs G ρ' ys = some ds'
  | [],ρ',ds,_,_=>⟨[],rfl⟩
  | y :: r,ρ',ds,ht,h=>by
    have one : ∀ d,X.ev G ρ' y = some d→(∃ ds',X.evs G ρ' r = some ds')→∃ ds',X.evs G ρ' (y :: r) = some ds':=fun d h1 ⟨ds',h2⟩=>⟨d :: ds',by simp only [X.evs,h1,h2,Option.bind_some,Option.map_some]⟩
    have htr : ∀ y ∈ r,Thr ρ' y:=fun y hy=>ht y (List.mem_cons_of_mem _ hy)
    cases hy : notT y with
    | true=>
      rw [List.filter_cons_of_pos hy] at h
      simp only [X.evs,Option.bind_eq_some_iff,Option.map_eq_some_iff] at h
      obtain ⟨d,h1,ds',h2,_⟩:=h
      exact one d h1 (filter_evs htr h2)
    | false=>
      rw [List.filter_cons_of_neg (by rw [hy]; simp)] at h
      cases y with
      | t j=>obtain ⟨d,hd⟩:=ht (.t j) (List.mem_cons_self ..) j rfl; exact one d hd (filter_evs htr h)
      | q e=>exact one e rfl (filter_evs htr h)
      | mk=>cases hy
      | ite=>cases hy
theorem CsI.snoc (I : CsI G s ρ ρ') {j : Nat} {d : D} (h : ρ'[j]? = some d) : CsI G { s with rs:=s.rs ++ [j] } (ρ ++ [d]) ρ':=
  ⟨by simp [I.l],fun i k hk=>by
    simp only [] at hk
    by_cases hi : i < s.rs.length
    · rw [List.getElem?_append_left hi] at hk
      rw [List.getElem?_append_left (by rw [← I.l]; exact hi)]
      exact I.v i k hk
    · have hl:=(List.getElem?_eq_some_iff.1 hk).1
      simp only [List.length_append,List.length_cons,List.length_nil] at hl
      have he : i = s.rs.length:=by omega
      subst he
      rw [List.getElem?_append_right (Nat.le_refl _),Nat.sub_self] at hk
      simp only [List.getElem?_cons_zero,Option.some.injEq] at hk
      subst hk
      rw [I.l,List.getElem?_append_right (Nat.le_refl _),Nat.sub_self,h]
      rfl,I.a⟩
theorem letsY_t (s : Cs) (j : Nat) (r : List X) (κ : Cs→FT) : cse.letsY s (.t j :: r) κ = cse.letsY { s with rs:=s.rs ++ [j] } r κ:=by
  simp only [cse.letsY]
theorem letsY_n (s : Cs) (y : X) (hy : ∀ j,y ≠ .t j) (r : List X) (κ : Cs→FT) : cse.letsY s (y :: r) κ = .lets [y] (cse.letsY { s with rs:=s.rs ++ [s.n],n:=s.n + 1 } r κ):=by
  cases y with
  | t j=>exact absurd rfl (hy j)
  | _=>simp only [cse.letsY]
theorem letsY_ok {L : List (List D→Option D)} {κ : Cs→FT} {d : D} : ∀ (ys : List X) {s : Cs} {ρ ρ' : List D},CsI G s ρ ρ'→s.n = ρ'.length→(∀ y ∈ ys,Thr ρ' y)→evalFT G N (cse.letsY s ys κ) L ρ' = some d→
    ∃ ds s2 ρ2,evalFT G N (κ s2) L ρ2 = some d∧CsI G s2 (ρ ++ ds) ρ2∧s2.n = ρ2.length∧s2.ar = s.ar∧(∃ t,ρ2 = ρ' ++ t)∧X.evs G ρ2 ys = some ds
  | [],s,ρ,ρ',I,hn,_,h=>⟨[],s,ρ',by simpa [cse.letsY] using h,by simpa using I,hn,rfl,⟨[],by simp⟩,rfl⟩
  | y :: r,s,ρ,ρ',I,hn,ht,h=>by
    have htr : ∀ t : List D,∀ y ∈ r,Thr (ρ' ++ t) y:=fun t y hy=>(ht y (List.mem_cons_of_mem _ hy)).more t
    by_cases hy : ∃ j,y = .t j
    · obtain ⟨j,rfl⟩:=hy
      rw [letsY_t] at h
      obtain ⟨d0,h0⟩:=ht (.t j) (List.mem_cons_self ..) j rfl
      obtain ⟨ds,s2,ρ2,k1,k2,k3,k4,⟨t,rfl⟩,k6⟩:=letsY_ok r (I.snoc h0) hn (fun y hy=>ht y (List.mem_cons_of_mem _ hy)) h
      refine ⟨d0 :: ds,s2,_,k1,by simpa using k2,k3,k4,⟨t,rfl⟩,?_⟩
      simp only [X.evs,X.ev,k6,Option.map_some]
      rw [List.getElem?_append_left (List.getElem?_eq_some_iff.1 h0).1,h0]
      rfl
    · have hy' : ∀ j,y ≠ .t j:=fun j e=>hy ⟨j,e⟩
      rw [letsY_n s y hy'] at h
      simp only [evalFT,X.evs,Option.bind_eq_some_iff,Option.map_eq_some_iff] at h
      obtain ⟨ds0,⟨d0,g1,_,g2,rfl⟩,g3⟩:=h
      cases g2
      have hget : (ρ' ++ [d0])[s.n]? = some d0:=by rw [hn]; simp
      have I2 : CsI G { s with rs:=s.rs ++ [s.n],n:=s.n + 1 } (ρ ++ [d0]) (ρ' ++ [d0]):=by
        have:=(I.more [d0]).snoc hget
        exact ⟨this.l,this.v,this.a⟩
      obtain ⟨ds,s2,ρ2,k1,k2,k3,k4,⟨t,rfl⟩,k6⟩:=letsY_ok r I2 (by simp [hn]) (fun y hy=>htr [d0] y hy) g3
      refine ⟨d0 :: ds,s2,_,k1,by simpa using k2,k3,k4,⟨d0 :: t,by simp⟩,?_⟩
      simp only [X.evs,k6,Option.map_some]
      rw [show ρ' ++ [d0] ++ t = ρ' ++ (d0 :: t) by simp,ev_more _ _ g1]
      rfl
theorem CsI.vars (I : CsI G s ρ ρ') (hn : s.n = ρ'.length) {vs : List D} {m : Nat} (hm : vs.length = m) (ar : List Nat) : CsI G { s.vars m with ar:=ar } (ρ ++ vs) (ρ' ++ vs):=
  ⟨by simp [Cs.vars,I.l,hm],fun i j h=>by
    simp only [Cs.vars] at h
    by_cases hi : i < s.rs.length
    · rw [List.getElem?_append_left hi] at h
      obtain ⟨d,h1,h2⟩:=I.get h
      rw [List.getElem?_append_left (List.getElem?_eq_some_iff.1 h2).1,List.getElem?_append_left (List.getElem?_eq_some_iff.1 h1).1,h1,h2]
    · have hi : s.rs.length≤i:=by omega
      rw [List.getElem?_append_right hi] at h
      obtain ⟨h3,h4⟩:=List.getElem?_eq_some_iff.1 h
      simp only [List.length_range'] at h3
      rw [List.getElem_range'] at h4
      have e1 : ρ'.length≤j:=by omega
      rw [List.getElem?_append_right e1,List.getElem?_append_right (by rw [← I.l]; exact hi)]
      congr 1
      rw [← I.l]; omega,fun e j h=>(I.more vs).a e j h⟩
def LOK (ar : List Nat) (L L' : List (List D→Option D)) : Prop:=∀ (j m : Nat),ar[j]? = some m→∀ f' : List D→Option D,L'[j]? = some f'→∃ f : List D→Option D,L[j]? = some f∧∀ (vs : List D) (d : D),vs.length = m→f' vs = some d→f vs = some d
theorem LOK.cons {ar : List Nat} {L L' : List (List D→Option D)} (h : LOK ar L L') {m : Nat} {f f' : List D→Option D} (hf : ∀ vs d,vs.length = m→f' vs = some d→f vs = some d) : LOK (m :: ar) (f :: L) (f' :: L'):=fun j k hj g hg=>by
  cases j with
  | zero=>
    simp only [List.getElem?_cons_zero,Option.some.injEq] at hj hg
    subst hj; subst hg
    exact ⟨f,rfl,hf⟩
  | succ j=>exact h j k (by simpa using hj) g (by simpa using hg)
theorem cse_ok : ∀ (t : FT) {s : Cs} {ρ ρ' : List D} {L L' : List (List D→Option D)} {d : D},CsI G s ρ ρ'→s.n = ρ'.length→LOK s.ar L L'→evalFT G N (cse s t) L' ρ' = some d→evalFT G N t L ρ = some d:=by
  intro t
  induction t with
  | ret x=>
    intro s ρ ρ' L L' d I hn hL h
    simp only [cse] at h
    cases hq : namX s x with
    | mk ps y=>
      obtain ⟨p,s1⟩:=ps
      rw [hq] at h
      simp only [eval_wrap,Option.bind_eq_some_iff] at h
      obtain ⟨r2,hp,h⟩:=h
      simp only [evalFT,Option.bind_eq_some_iff] at h ⊢
      obtain ⟨d0,g1,g2⟩:=h
      refine ⟨d0,(nam_ok x I hn hq hp).2.2.2 [] d0 (by simpa using g1),?_⟩
      rw [← nam_tag I hn hq hp d0]; exact g2
  | chk xs k ih=>
    intro s ρ ρ' L L' d I hn hL h
    simp only [cse] at h
    cases hq : namXs s xs with
    | mk ps ys=>
      obtain ⟨p,s1⟩:=ps
      rw [hq] at h
      simp only [eval_wrap,Option.bind_eq_some_iff] at h
      obtain ⟨r2,hp,h⟩:=h
      obtain ⟨h1,⟨h2,_,_⟩,h3⟩:=nams_ok xs I hn hq hp
      rw [eval_chk,Option.bind_eq_some_iff] at h
      obtain ⟨ds,g1,g2⟩:=h
      obtain ⟨ds',g3⟩:=filter_evs h2 g1
      simp only [evalFT,h3 [] ds' (by simpa using g3),Option.bind_some]
      exact ih h1.i h1.n (by rw [h1.ar]; exact hL) g2
  | lets xs k ih=>
    intro s ρ ρ' L L' d I hn hL h
    simp only [cse] at h
    cases hq : namXs s xs with
    | mk ps ys=>
      obtain ⟨p,s1⟩:=ps
      rw [hq] at h
      simp only [eval_wrap,Option.bind_eq_some_iff] at h
      obtain ⟨r2,hp,h⟩:=h
      obtain ⟨h1,⟨h2,_,_⟩,h3⟩:=nams_ok xs I hn hq hp
      obtain ⟨ds,s2,ρ2,k1,k2,k3,k4,⟨t,rfl⟩,k6⟩:=letsY_ok ys h1.i h1.n h2 h
      simp only [evalFT,h3 t ds k6,Option.bind_some]
      exact ih k2 k3 (by rw [k4,h1.ar]; exact hL) k1
  | ite c a b iha ihb=>
    intro s ρ ρ' L L' d I hn hL h
    simp only [cse] at h
    cases hq : namX s c with
    | mk ps y=>
      obtain ⟨p,s1⟩:=ps
      rw [hq] at h
      simp only [eval_wrap,Option.bind_eq_some_iff] at h
      obtain ⟨r2,hp,h⟩:=h
      obtain ⟨h1,_,_,h3⟩:=nam_ok c I hn hq hp
      simp only [evalFT,Option.bind_eq_some_iff] at h ⊢
      obtain ⟨v,g1,x,g2,g3⟩:=h
      refine ⟨v,h3 [] v (by simpa using g1),x,g2,?_⟩
      cases x
      · exact ihb h1.i h1.n (by rw [h1.ar]; exact hL) g3
      · exact iha h1.i h1.n (by rw [h1.ar]; exact hL) g3
  | loop xs b ih=>
    intro s ρ ρ' L L' d I hn hL h
    simp only [cse] at h
    cases hq : namXs s xs with
    | mk ps ys=>
      obtain ⟨p,s1⟩:=ps
      rw [hq] at h
      simp only [eval_wrap,Option.bind_eq_some_iff] at h
      obtain ⟨r2,hp,h⟩:=h
      obtain ⟨h1,⟨_,_,h5⟩,h3⟩:=nams_ok xs I hn hq hp
      simp only [evalFT,Option.bind_eq_some_iff] at h ⊢
      obtain ⟨ds,g1,g2⟩:=h
      refine ⟨ds,h3 [] ds (by simpa using g1),?_⟩
      have hlen:=evs_len g1
      have key : ∀ n vs d,vs.length = ys.length→iter (fun rec vs=>evalFT G N (cse { s1.vars ys.length with ar:=ys.length :: s1.ar } b) (rec :: L') (r2 ++ vs)) n vs = some d→iter (fun rec vs=>evalFT G N b (rec :: L) (ρ ++ vs)) n vs = some d:=by
        intro n
        induction n with
        | zero=>intro vs d _ h; cases h
        | succ n ihn=>
          intro vs d hv h
          simp only [iter] at h ⊢
          exact ih (h1.i.vars h1.n hv _) (by simp [Cs.vars,h1.n,hv]) ((show LOK s1.ar L L' by rw [h1.ar]; exact hL).cons fun vs d hv h=>ihn vs d hv h) h
      exact key N ds d hlen g2
  | next j xs=>
    intro s ρ ρ' L L' d I hn hL h
    simp only [cse] at h
    cases hq : namXs s xs with
    | mk ps ys=>
      obtain ⟨p,s1⟩:=ps
      rw [hq] at h
      simp only [] at h
      split at h
      · rename_i har
        simp only [eval_wrap,Option.bind_eq_some_iff] at h
        obtain ⟨r2,hp,h⟩:=h
        obtain ⟨h1,⟨_,_,h5⟩,h3⟩:=nams_ok xs I hn hq hp
        simp only [evalFT,Option.bind_eq_some_iff] at h ⊢
        obtain ⟨ds,g1,f',g2,g3⟩:=h
        rw [h1.ar] at har
        obtain ⟨f,k1,k2⟩:=hL j _ har f' g2
        exact ⟨ds,h3 [] ds (by simpa using g1),f,k1,k2 ds d (evs_len g1) g3⟩
      · cases h
  | jp k b ihk ihb=>
    intro s ρ ρ' L L' d I hn hL h
    simp only [cse] at h
    split at h
    · rename_i m _
      simp only [evalFT] at h ⊢
      refine ihb (s:={ s with ar:=m :: s.ar }) ⟨I.l,I.v,I.a⟩ hn (hL.cons fun vs d hv h=>?_) h
      exact ihk (s:=s.vars m) (I.vars hn hv s.ar) (by simp [Cs.vars,hn,hv]) hL h
    · simp only [evalFT] at h ⊢
      refine ihb (s:={ s with ar:=0 :: s.ar }) ⟨I.l,I.v,I.a⟩ hn (hL.cons fun vs d hv h=>?_) h
      cases h
  | st Y=>intro s ρ ρ' L L' d I hn hL h; cases h
  | bad w Y=>intro s ρ ρ' L L' d I hn hL h; cases h
theorem cseF_ok {q : Nat × FT} {ds : List D} {d : D} (hl : ds.length = q.1) (h : evalFT G N (cseF q).2 [] ds = some d) : evalFT G N q.2 [] ds = some d:=by
  refine cse_ok q.2 (s:=cs0 q.1) ⟨by simp [cs0,hl],fun i j h=>?_,fun e j h=>by cases h⟩ hl.symm (fun j m h=>by simp [cs0] at h) h
  simp only [cs0] at h
  obtain ⟨h1,h2⟩:=List.getElem?_eq_some_iff.1 h
  simp at h2
  rw [h2]
end
end Go.Proofs.YtkcfpgaepmllhaaGreatDoor
namespace Go.Proofs.YtkcfpgaepmllhaaGreatDoor
open Go.RowKit
def x_pk (k : PK) (ds : List D) : Option D:=(k.run (env0 noG) noMem ds).bind fun d=>if d.noT then some d else none
def x_call (G : FP) (fl : Bool) (f : Nat) (ds : List D) : Option D:=callX G fl f ds
def x_ccall (G : FP) (fl : Bool) (ds : List D) : Option D:=match ds with
    | .clo f caps :: r=>if f < 1000000 then (caps.mapM (viewA noMem)).bind fun cs=>callX G fl f (r ++ cs) else none
    | _=>none
def x_agg (ds : List D) : Option D:=if ds.all D.noTC then some (.agg ds) else none
def x_tup (ds : List D) : Option D:=some (.tup ds)
def x_clo (f : Nat) (ds : List D) : Option D:=if ds.all D.noTC then some (.clo f ds) else none
def x_lptr (ds : List D) : Option D:=some (.lptr ds)
def x_cell (j n : Nat) (ds : List D) : Option D:=match ds with
    | [d]=>if d.cells.length = n∧d.cells.all D.okC = true∧d.cells.all D.noTC = true then d.cells[j]? else none
    | _=>none
def x_okc (ds : List D) : Option D:=match ds with
    | [d]=>if d.okC = true∧d.noT = true then some d else none
    | _=>none
def x_gv (w : Bool) (ds : List D) : Option D:=match ds with
    | [.v (.bool b)]=>some (bv (b == w))
    | [.tup _]=>some (bv false)
    | _=>none
def x_nrm (ds : List D) : Option D:=match ds with
    | [d]=>if d.noT then viewA noMem d else none
    | _=>none
def x_nrmC (ds : List D) : Option D:=match ds with
    | [d]=>if d.noTC then viewC noMem 6 d else none
    | _=>none
def x_app (size : Nat) (ds : List D) : Option D:=match ds with
    | [a,b]=>(lstOf a).bind fun a=>(lstOf b).bind fun b=>if rowsOK size b = true∧a.length + b.length≤maxMade then some (.list (a ++ b)) else none
    | _=>none
def x_lit (size len : Nat) (zero : List D) (places : List (Nat × Nat)) (ds : List D) : Option D:=if ds.all (fun d=>d.cells.all D.okC) then (fillV zero places ds).bind fun cs=>if cs.length = len * size∧rowsOK size (chop size len (cs.map D.nz)) = true then some (.list (chop size len (cs.map D.nz))) else none else none
def x_mks (size : Nat) (zero : List D) (ds : List D) : Option D:=match ds with
    | [.v (.int _ l),.v (.int _ c)]=>if 0≤l∧l≤c∧c≤maxMade∧c.toNat * size≤16777216∧zero.length = size∧zero.all D.nfC = true then some (.list (List.replicate l.toNat zero)) else none
    | _=>none
def x_setl (size j n : Nat) (ds : List D) : Option D:=match ds with
    | [.list es,.v (.int _ i),v]=>if i < 0 then none else (es[i.toNat]?).bind fun c=>if v.cells.length = n∧j + n≤size∧c.length = size∧v.cells.all D.okC = true∧v.cells.all D.nfC = true then some (.list (es.set i.toNat (putAt c j v.cells))) else none
    | _=>none
def x_take (ds : List D) : Option D:=match ds with
    | [.list es,.v (.int _ k)]=>if 0≤k∧k≤es.length then some (.list (es.take k.toNat)) else none
    | _=>none
def x_mget (ks : List Nat) (z : D) (ok : Bool) (ds : List D) : Option D:=match ds with
    | [.list rows,k]=>(unpairR rows).bind fun es=>(mgetV ks z ok es k).bind fun d=>if d.noT then some d else none
    | _=>none
def x_mset (ks : List Nat) (ds : List D) : Option D:=match ds with
    | [.list rows,k,v]=>(unpairR rows).bind fun es=>(msetV ks es k v).map fun es=>.list (pairR es)
    | _=>none
def x_rngi (n : Nat) (ds : List D) : Option D:=match ds with
    | [.v (.int _ i)]=>if 0≤i∧i < n then some (.tup []) else none
    | _=>none
def x_geta (n s j m : Nat) (g : Bool) (ds : List D) : Option D:=match ds with
    | [.agg xs,.v (.int _ i)]=>if 0≤i∧i < n∧j + m≤s∧n * s≤xs.length then (if g then (if ((xs.drop (i.toNat * s + j)).take m).all D.noTC then some (.agg ((xs.drop (i.toNat * s + j)).take m)) else none) else (xs[i.toNat * s + j]?).bind fun d=>if d.noT then some d else none) else none
    | _=>none
def x_seta (n s j m : Nat) (ds : List D) : Option D:=match ds with
    | [.agg xs,.v (.int _ i),v]=>if 0≤i∧i < n∧j + m≤s∧n * s≤xs.length∧v.cells.length = m∧v.cells.all D.okC = true∧v.cells.all D.noTC = true∧xs.all D.noTC = true then some (.agg (putAt xs (i.toNat * s + j) v.cells)) else none
    | _=>none
def x_ecall (G : FP) (k f sz : Nat) (ds : List D) : Option D:=if (ds.set k .nil).all D.noT = true∧f < 1000000 then (match ds[k]? with
    | some (.list es)=>(G (1000000 + (1000000 * k + f)) ds).bind fun r=>match r with
      | .tup [d,.list es']=>if d.noT = true∧es'.length = es.length∧rowsOK sz es' = true then some (.tup [d,.list es']) else none
      | _=>none
    | _=>none) else none
def x_drp (ds : List D) : Option D:=match ds with
    | [.list es,.v (.int _ k)]=>if 0≤k∧k≤es.length then some (.list (es.drop k.toNat)) else none
    | _=>none
def x_clr (zero : List D) (ds : List D) : Option D:=match ds with
    | [.list es,.v (.int _ k)]=>if 0≤k∧k≤es.length then some (.list (es.take k.toNat ++ List.replicate (es.length - k.toNat) zero)) else none
    | _=>none
def x_adn (ds : List D) : Option D:=match ds with
    | [.v (.int _ a),.v (.int q b)]=>if 0≤a∧0≤b then some (.v (.int q (a + b))) else none
    | _=>none
def x_fmk (ds : List D) : Option D:=match ds with
    | [.list rows]=>(unpairR rows).bind fun es=>if es.all (fun p=>p.1.noT && p.2.noT) then some (.fm rows) else none
    | _=>none
def x_mapp (ks : List Nat) (sz : Nat) (ds : List D) : Option D:=match ds with
    | [.list rows,k,b]=>(unpairR rows).bind fun es=>(lstOf b).bind fun b=>(mappV ks sz es k b).map fun es=>.list (pairR es)
    | _=>none
def x_own (ds : List D) : Option D:=match ds with
    | [d]=>some d
    | _=>none
def x_mkl (ds : List D) : Option D:=some (.list (ds.map fun d=>[d]))
def x_isc (f n : Nat) (ds : List D) : Option D:=match ds with
    | [.clo g xs]=>if g = f∧xs.length = n then some (.tup []) else none
    | _=>none
def x_capc (f i n : Nat) (ds : List D) : Option D:=match ds with
    | [.clo g xs]=>if g = f∧xs.length = n then (xs[i]?).bind fun d=>if d.noT then some d else none else none
    | _=>none
def runF (G : FP) : XK→List D→Option D
  | .pk k=>x_pk k
  | .call fl f=>x_call G fl f
  | .ccall fl=>x_ccall G fl
  | .agg=>x_agg
  | .tup=>x_tup
  | .clo f=>x_clo f
  | .lptr=>x_lptr
  | .cell j n=>x_cell j n
  | .okc=>x_okc
  | .gv w=>x_gv w
  | .nrm=>x_nrm
  | .nrmC=>x_nrmC
  | .app size=>x_app size
  | .lit size len zero places=>x_lit size len zero places
  | .mks size zero=>x_mks size zero
  | .setl size j n=>x_setl size j n
  | .take=>x_take
  | .mget ks z ok=>x_mget ks z ok
  | .mset ks=>x_mset ks
  | .rngi n=>x_rngi n
  | .geta n s j m g=>x_geta n s j m g
  | .seta n s j m=>x_seta n s j m
  | .ecall k f sz=>x_ecall G k f sz
  | .drp=>x_drp
  | .clr zero=>x_clr zero
  | .adn=>x_adn
  | .fmk=>x_fmk
  | .mapp ks sz=>x_mapp ks sz
  | .own=>x_own
  | .mkl=>x_mkl
  | .isc f n=>x_isc f n
  | .capc f i n=>x_capc f i n
theorem runF_eq (G : FP) (k : XK) (ds : List D) : runF G k ds = k.run G ds:=by cases k <;> rfl
noncomputable def nth (l : List D) (i : Nat) : Option D:=@Nat.rec (fun _=>List D→Option D) (fun l=>l.casesOn none fun a _=>some a) (fun _ ih l=>l.casesOn none fun _ r=>ih r) i l
theorem nth_eq : ∀ (i : Nat) (l : List D),nth l i = l[i]?
  | 0,[]=>rfl
  | 0,_ :: _=>rfl
  | _ + 1,[]=>rfl
  | i + 1,_ :: r=>nth_eq i r
noncomputable def evx (G : FP) (x : X) : List D→Option D:=
  @X.rec (fun _=>List D→Option D) (fun _=>List D→Option (List D)) (fun i ρ=>nth ρ i) (fun d _=>some d) (fun k _ ih ρ=>(ih ρ).bind (runF G k))
    (fun _ _ _ hc ha hb ρ=>(hc ρ).bind fun v=>v.asBool.bind fun x=>bif x then ha ρ else hb ρ) (fun _=>some []) (fun _ _ hx hr ρ=>(hx ρ).bind fun d=>(hr ρ).bind fun ds=>some (d :: ds)) x
noncomputable def evxs (G : FP) (xs : List X) : List D→Option (List D):=
  @X.rec_1 (fun _=>List D→Option D) (fun _=>List D→Option (List D)) (fun i ρ=>nth ρ i) (fun d _=>some d) (fun k _ ih ρ=>(ih ρ).bind (runF G k))
    (fun _ _ _ hc ha hb ρ=>(hc ρ).bind fun v=>v.asBool.bind fun x=>bif x then ha ρ else hb ρ) (fun _=>some []) (fun _ _ hx hr ρ=>(hx ρ).bind fun d=>(hr ρ).bind fun ds=>some (d :: ds)) xs
mutual
theorem evx_eq (G : FP) (ρ : List D) : ∀ (x : X),evx G x ρ = X.ev G ρ x
  | .t i=>nth_eq i ρ
  | .q _=>rfl
  | .mk k xs=>by
    show (evxs G xs ρ).bind (runF G k) = _
    rw [evxs_eq G ρ xs]
    simp only [X.ev]
    congr 1
    funext ds
    exact runF_eq G k ds
  | .ite c a b=>by
    show (evx G c ρ).bind _ = _
    rw [evx_eq G ρ c]
    simp only [X.ev]
    congr 1
    funext v
    congr 1
    funext x
    cases x
    · exact evx_eq G ρ b
    · exact evx_eq G ρ a
theorem evxs_eq (G : FP) (ρ : List D) : ∀ (xs : List X),evxs G xs ρ = X.evs G ρ xs
  | []=>rfl
  | x :: r=>by
    show (evx G x ρ).bind (fun d=>(evxs G r ρ).bind fun ds=>some (d :: ds)) = _
    rw [evx_eq G ρ x,evxs_eq G ρ r]
    simp only [X.evs]
    congr 1
    funext d
    cases X.evs G ρ r <;> rfl
end
noncomputable def evf (G : FP) (N : Nat) (t : FT) : List (List D→Option D)→List D→Option D:=
  @FT.rec (fun _=>List (List D→Option D)→List D→Option D)
    (fun x _ ρ=>(evx G x ρ).bind fun d=>bif d.noT then some (tagN x d) else none)
    (fun xs _ ih L ρ=>(evxs G xs ρ).bind fun _=>ih L ρ)
    (fun xs _ ih L ρ=>(evxs G xs ρ).bind fun ds=>ih L (ρ ++ ds))
    (fun c _ _ ha hb L ρ=>(evx G c ρ).bind fun v=>v.asBool.bind fun x=>bif x then ha L ρ else hb L ρ)
    (fun xs _ ih L ρ=>(evxs G xs ρ).bind fun ds=>iter (fun rec vs=>ih (rec :: L) (ρ ++ vs)) N ds)
    (fun j xs L ρ=>(evxs G xs ρ).bind fun ds=>(L[j]?).bind fun f=>f ds)
    (fun _ _ hk hb L ρ=>hb ((fun vs=>hk L (ρ ++ vs)) :: L) ρ)
    (fun _ _ _=>none) (fun _ _ _ _=>none) t
theorem evf_eq (G : FP) (N : Nat) : ∀ (t : FT) (L : List (List D→Option D)) (ρ : List D),evf G N t L ρ = evalFT G N t L ρ:=by
  intro t
  induction t with
  | ret x=>
    intro L ρ
    show (evx G x ρ).bind _ = _
    rw [evx_eq]
    simp only [evalFT]
    congr 1
    funext d
    cases d.noT <;> rfl
  | chk xs k ih=>
    intro L ρ
    show (evxs G xs ρ).bind (fun _=>evf G N k L ρ) = _
    simp only [evxs_eq,ih,evalFT]
  | lets xs k ih=>
    intro L ρ
    show (evxs G xs ρ).bind (fun ds=>evf G N k L (ρ ++ ds)) = _
    simp only [evxs_eq,ih,evalFT]
  | ite c a b iha ihb=>
    intro L ρ
    show (evx G c ρ).bind (fun v=>v.asBool.bind fun x=>bif x then evf G N a L ρ else evf G N b L ρ) = _
    simp only [evx_eq,iha,ihb,evalFT]
  | loop xs k ih=>
    intro L ρ
    show (evxs G xs ρ).bind (fun ds=>iter (fun rec vs=>evf G N k (rec :: L) (ρ ++ vs)) N ds) = _
    simp only [evxs_eq,ih,evalFT]
  | next j xs=>
    intro L ρ
    show (evxs G xs ρ).bind _ = _
    simp only [evxs_eq,evalFT]
  | jp k b ihk ihb=>
    intro L ρ
    show evf G N b ((fun vs=>evf G N k L (ρ ++ vs)) :: L) ρ = _
    simp only [ihk,ihb,evalFT]
  | st Y=>intro L ρ; rfl
  | bad w Y=>intro L ρ; rfl
noncomputable def evG (T : Nat→Option (Nat × FT)) (H : FP) (N k : Nat) : FP:=
  @Nat.rec (fun _=>FP) (fun _ _=>none) (fun _ ih f ds=>(H f ds).casesOn ((T f).bind fun q=>bif Nat.beq ds.length q.1 && ds.all D.noT && Nat.blt f 1000000 then evf ih N q.2 [] ds else none) some) k
def isTrueO : Option D→Bool
  | some (.v (.bool true))=>true
  | _=>false
end Go.Proofs.YtkcfpgaepmllhaaGreatDoor
namespace Go.Proofs.YtkcfpgaepmllhaaGreatDoor
open Go.RowKit
def beqFT : FT→FT→Bool
  | .ret x,.ret y=>beqX x y
  | .chk xs k,.chk ys l=>beqXs xs ys && beqFT k l
  | .lets xs k,.lets ys l=>beqXs xs ys && beqFT k l
  | .ite c a b,.ite c' a' b'=>beqX c c' && (beqFT a a' && beqFT b b')
  | .loop xs k,.loop ys l=>beqXs xs ys && beqFT k l
  | .next i xs,.next j ys=>Nat.beq i j && beqXs xs ys
  | .jp a b,.jp a' b'=>beqFT a a' && beqFT b b'
  | .bad w none,.bad w' none=>Nat.beq w w'
  | _,_=>false
theorem beqFT_eq : ∀ (a b : FT),beqFT a b = true→a = b
  | .ret x,b,h=>by cases b <;> simp [beqFT] at h; rw [beqX_eq _ _ h]
  | .chk xs k,b,h=>by cases b <;> simp [beqFT] at h; rw [beqXs_eq _ _ h.1,beqFT_eq _ _ h.2]
  | .lets xs k,b,h=>by cases b <;> simp [beqFT] at h; rw [beqXs_eq _ _ h.1,beqFT_eq _ _ h.2]
  | .ite c x y,b,h=>by cases b <;> simp [beqFT] at h; rw [beqX_eq _ _ h.1,beqFT_eq _ _ h.2.1,beqFT_eq _ _ h.2.2]
  | .loop xs k,b,h=>by cases b <;> simp [beqFT] at h; rw [beqXs_eq _ _ h.1,beqFT_eq _ _ h.2]
  | .next i xs,b,h=>by cases b <;> simp [beqFT] at h; rw [h.1,beqXs_eq _ _ h.2]
  | .jp x y,b,h=>by cases b <;> simp [beqFT] at h; rw [beqFT_eq _ _ h.1,beqFT_eq _ _ h.2]
  | .st Y,b,h=>by cases b <;> simp [beqFT] at h
  | .bad w o,b,h=>by
    cases o with
    | some Y=>cases b <;> simp [beqFT] at h
    | none=>
      cases b with
      | bad w' o'=>
        cases o' with
        | some Y=>simp [beqFT] at h
        | none=>simp [beqFT] at h; rw [h]
      | _=>simp [beqFT] at h
def okF (C : Cx) (f n : Nat) (t : FT) : Bool:=match compF C f with
  | some q=>Nat.beq q.1 n && beqFT (cse (cs0 q.1) q.2) t
  | none=>false
def OKF (C : Cx) (f n : Nat) (t : FT) : Prop:=∃ t0,compF C f = some (n,t0)∧cse (cs0 n) t0 = t
theorem okF_eq {C : Cx} {f n : Nat} {t : FT} (h : okF C f n t = true) : OKF C f n t:=by
  unfold okF at h
  split at h
  · rename_i q hq
    obtain ⟨m,t0⟩:=q
    simp only [Bool.and_eq_true] at h
    obtain rfl:=Nat.eq_of_beq_eq_true h.1
    exact ⟨t0,hq,beqFT_eq _ _ h.2⟩
  · cases h
inductive Tr where
  | no
  | lf (f n : Nat) (t : FT)
  | nd (m : Nat) (a b : Tr)
noncomputable def Tr.get (r : Tr) (f : Nat) : Option (Nat × FT):=
  @Tr.rec (fun _=>Option (Nat × FT)) none (fun g n t=>bif Nat.beq f g then some (n,t) else none) (fun m _ _ a b=>bif Nat.blt f m then a else b) r
def Tr.All (C : Cx) : Tr→Prop
  | .no=>True
  | .lf f n t=>OKF C f n t
  | .nd _ a b=>a.All C∧b.All C
theorem Tr.get_ok {C : Cx} {f n : Nat} {t : FT} : ∀ {r : Tr},r.All C→r.get f = some (n,t)→OKF C f n t
  | .no,_,h=>by cases h
  | .lf g m u,ha,h=>by
    have h : (bif Nat.beq f g then some (m,u) else none) = some (n,t):=h
    cases hb : Nat.beq f g with
    | true=>rw [hb] at h; cases h; rw [Nat.eq_of_beq_eq_true hb]; exact ha
    | false=>rw [hb] at h; cases h
  | .nd m a b,ha,h=>by
    have h : (bif Nat.blt f m then a.get f else b.get f) = some (n,t):=h
    cases hb : Nat.blt f m with
    | true=>rw [hb] at h; exact get_ok ha.1 h
    | false=>rw [hb] at h; exact get_ok ha.2 h
theorem evG_Gs {C : Cx} {H : FP} {N : Nat} {r : Tr} (hr : r.All C) : ∀ (k f : Nat) (ds : List D) (d : D),evG r.get H N k f ds = some d→Gs C H N k f ds = some d
  | 0,f,ds,d,h=>by cases h
  | k + 1,f,ds,d,h=>by
    show (H f ds).or _ = some d
    cases hh : H f ds with
    | some d0=>
      have h : (H f ds).casesOn ((r.get f).bind fun q=>bif Nat.beq ds.length q.1 && ds.all D.noT && Nat.blt f 1000000 then evf (evG r.get H N k) N q.2 [] ds else none) some = some d:=h
      rw [hh] at h
      exact h
    | none=>
      have h : (H f ds).casesOn ((r.get f).bind fun q=>bif Nat.beq ds.length q.1 && ds.all D.noT && Nat.blt f 1000000 then evf (evG r.get H N k) N q.2 [] ds else none) some = some d:=h
      rw [hh] at h
      obtain ⟨⟨n,t⟩,h1,h2⟩:=Option.bind_eq_some_iff.1 (show ((r.get f).bind fun q=>bif Nat.beq ds.length q.1 && ds.all D.noT && Nat.blt f 1000000 then evf (evG r.get H N k) N q.2 [] ds else none) = some d from h)
      simp only [] at h2
      cases hc : (Nat.beq ds.length n && ds.all D.noT && Nat.blt f 1000000) with
      | false=>rw [hc] at h2; cases h2
      | true=>
        rw [hc] at h2
        simp only [Bool.and_eq_true] at hc
        obtain ⟨⟨c1,c2⟩,c3⟩:=hc
        obtain rfl:=Nat.eq_of_beq_eq_true c1
        have c3 : f < 1000000:=by simpa [Nat.blt_eq] using c3
        obtain ⟨t0,k1,k2⟩:=Tr.get_ok hr h1
        rw [Option.none_or,k1,Option.bind_some]
        rw [if_pos ⟨⟨rfl,c2⟩,c3⟩]
        have h2 : evf (evG r.get H N k) N t [] ds = some d:=h2
        rw [evf_eq] at h2
        obtain ⟨k0,hk⟩:=evalFT_tends (G:=evG r.get H N k) (Gk:=fun _=>Gs C H N k) (fun f ds d h=>⟨0,fun _ _=>evG_Gs hr k f ds d h⟩) (Lk:=fun _=>[]) t (fun j f hf=>by simp at hf) h2
        exact cseF_ok (q:=(ds.length,t0)) rfl (by rw [← k2] at hk; exact hk k0 (Nat.le_refl _))
def beqDsR : List D→List D→Bool
  | [],[]=>true
  | a :: r,b :: s=>beqDsR r s && beqD a b
  | _,_=>false
theorem beqDsR_eq : ∀ {a b : List D},beqDsR a b = true→a = b
  | [],[],_=>rfl
  | a :: r,b :: s,h=>by simp only [beqDsR,Bool.and_eq_true] at h; rw [beqD_eq h.2,beqDsR_eq h.1]
  | [],_ :: _,h=>by cases h
  | _ :: _,[],h=>by cases h
def beqR (a b : D) : Bool:=bif a.isOwn then b.isOwn && beqD a.bare b.bare else beqD a b
theorem beqR_eq {a b : D} (h : beqR a b = true) : a = b:=by
  have own : ∀ {x : D},x.isOwn = true→x = x.bare.own:=fun {x} hx=>by
    unfold D.isOwn at hx
    split at hx
    · rfl
    · cases hx
  unfold beqR at h
  cases ha : a.isOwn with
  | true=>
    rw [ha] at h
    simp only [cond_true,Bool.and_eq_true] at h
    rw [own ha,own h.1,beqD_eq h.2]
  | false=>rw [ha] at h; exact beqD_eq h
structure Known where
  ds : List D
  r : D
abbrev KT:=List (Nat × List Known)
def addH (l : KT) (H : FP) : FP:=fun f ds=>match find l f with
  | some es=>(match es.find? (fun e=>beqDsR e.ds ds) with
    | some e=>some e.r
    | none=>H f ds)
  | none=>H f ds
def KT.OK (P : Program) (l : KT) : Prop:=∀ p ∈ l,∀ e ∈ p.2,p.1 < 1000000∧VCr P p.1 e.ds e.r
theorem addH_sound {P : Program} {H : FP} {l : KT} (hH : Sound P (env0 H)) (hl : l.OK P) : Sound P (env0 (addH l H)):=by
  have key : ∀ {f : Nat} {ds : List D} {d : D},addH l H f ds = some d→(f < 1000000∧VCr P f ds d) ∨ H f ds = some d:=fun {f ds d} h=>by
    unfold addH at h
    split at h
    · rename_i es he
      split at h
      · rename_i e hf
        cases h
        have h1:=hl _ (find_mem he) e (List.mem_of_find?_eq_some hf)
        have h2 : beqDsR e.ds ds = true:=List.find?_some (p:=fun e : Known=>beqDsR e.ds ds) hf
        rw [← beqDsR_eq h2]
        exact .inl h1
      · exact .inr h
    · exact .inr h
  refine ⟨fun f ds d hlt h=>?_,fun k f ds r hlt h=>?_⟩
  · rcases key (show addH l H f ds = some d from h) with h | h
    · exact h.2
    · exact hH.p f ds d hlt h
  · rcases key (show addH l H (1000000 + (1000000 * k + f)) ds = some r from h) with h | h
    · omega
    · exact hH.e k f ds r hlt h
def beqO : Option D→D→Bool
  | some a,b=>beqR a b
  | none,_=>false
def allK (G : FP) (l : KT) : Bool:=l.all fun p=>Nat.blt p.1 1000000 && p.2.all fun e=>beqO (G p.1 e.ds) e.r
theorem known_sound {P : Program} {C : Cx} {H : FP} {N k : Nat} {r : Tr} (hP : C.P = P) (hH : Sound P (env0 H)) (hm : P.follows .mixedOrders = true) (hr : r.All C) {l : KT} (h : allK (evG r.get H N k) l = true) : l.OK P:=fun p hp e he=>by
  have h1:=List.all_eq_true.1 h p hp
  simp only [Bool.and_eq_true] at h1
  obtain ⟨h2,h3⟩:=h1
  have h2 : p.1 < 1000000:=by simpa [Nat.blt_eq] using h2
  refine ⟨h2,?_⟩
  have h3:=List.all_eq_true.1 h3 e he
  cases hg : evG r.get H N k p.1 e.ds with
  | none=>rw [hg] at h3; cases h3
  | some d=>
    rw [hg] at h3
    have h3 : beqR d e.r = true:=h3
    rw [beqR_eq h3] at hg
    exact (Gs_sound hP hH hm k).p p.1 e.ds e.r h2 (evG_Gs hr k _ _ _ hg)
theorem KT.OK.append {P : Program} {l m : KT} (h : l.OK P) (k : m.OK P) : KT.OK P (l ++ m):=fun p hp=>(List.mem_append.1 hp).elim (h p) (k p)
end Go.Proofs.YtkcfpgaepmllhaaGreatDoor
