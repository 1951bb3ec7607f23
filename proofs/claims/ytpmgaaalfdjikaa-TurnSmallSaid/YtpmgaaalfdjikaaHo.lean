/- The H semantics: the rules by which a proof reckons. Lemmas; no condition. -/
import Derived.Test.YtpmgaaalfdjikaaHn
namespace Go.Proofs.Ytpmgaaalfdjikaa
open Go.RowKit

attribute [simp] kindNo cruns runs CStm.run VStm.run Eff.run Eff.dst St.void VArg.val VE.thn VE.blk evRoots ev evs PK.run ibinV ishiftV intsV boundsV okExit VRes.val fillV eqCells findV chop St.tok D.renC D.renA D.ren HO.ren up

section
variable {m : Mem} {Γ : Env}
@[simp] theorem cells_v (x : Value) : (D.v x).cells = [.v x] := rfl
@[simp] theorem cells_nil : D.nil.cells = [.nil] := rfl
@[simp] theorem cells_mt : D.mt.cells = [.mt] := rfl
@[simp] theorem cells_list (x : List (List D)) : (D.list x).cells = [.list x] := rfl
@[simp] theorem cells_agg (x : List D) : (D.agg x).cells = x := rfl
@[simp] theorem cells_lptr (x : List D) : (D.lptr x).cells = [.lptr x] := rfl
@[simp] theorem cells_clo (f : Nat) (x : List D) : (D.clo f x).cells = [.clo f x] := rfl
@[simp] theorem cells_sl (t : Tok) (a b c : Nat) (l : Option Nat) : (D.sl t a b c l).cells = [.sl t a b c l] := rfl
@[simp] theorem cells_ptr (t : Tok) (a : Nat) : (D.ptr t a).cells = [.ptr t a] := rfl
@[simp] theorem cells_rptr (t : Tok) (a b c : Nat) : (D.rptr t a b c).cells = [.rptr t a b c] := rfl
@[simp] theorem cells_mp (t : Tok) : (D.mp t).cells = [.mp t] := rfl
@[simp] theorem cells_nilmap : D.nilmap.cells = [.nilmap] := rfl
@[simp] theorem okC_v (x : Value) : (D.v x).okC = true := rfl
@[simp] theorem okC_nil : D.nil.okC = true := rfl
@[simp] theorem okC_mt : D.mt.okC = true := rfl
@[simp] theorem okC_list (x : List (List D)) : (D.list x).okC = true := rfl
@[simp] theorem okC_lptr (x : List D) : (D.lptr x).okC = true := rfl
@[simp] theorem okC_clo (f : Nat) (x : List D) : (D.clo f x).okC = true := rfl
@[simp] theorem okC_sl (t : Tok) (a b c : Nat) (l : Option Nat) : (D.sl t a b c l).okC = true := rfl
@[simp] theorem okC_ptr (t : Tok) (a : Nat) : (D.ptr t a).okC = true := rfl
@[simp] theorem okC_rptr (t : Tok) (a b c : Nat) : (D.rptr t a b c).okC = true := rfl
@[simp] theorem okC_mp (t : Tok) : (D.mp t).okC = true := rfl
@[simp] theorem okC_nilmap : D.nilmap.okC = true := rfl
@[simp] theorem okM_v (x : Value) : (D.v x).okM = true := rfl
@[simp] theorem okM_nil : D.nil.okM = true := rfl
@[simp] theorem okM_list (x : List (List D)) : (D.list x).okM = true := rfl
@[simp] theorem okM_sl (t : Tok) (a b c : Nat) (l : Option Nat) : (D.sl t a b c l).okM = true := rfl
@[simp] theorem okM_agg (x : List D) : (D.agg x).okM = x.all D.okC := rfl
@[simp] theorem isDef_v (x : Value) : (D.v x).isDef = true := rfl
@[simp] theorem isDef_nil : D.nil.isDef = true := rfl
@[simp] theorem isDef_mt : D.mt.isDef = true := rfl
@[simp] theorem isDef_list (x : List (List D)) : (D.list x).isDef = true := rfl
@[simp] theorem isDef_agg (x : List D) : (D.agg x).isDef = true := rfl
@[simp] theorem isDef_lptr (x : List D) : (D.lptr x).isDef = true := rfl
@[simp] theorem isDef_clo (f : Nat) (x : List D) : (D.clo f x).isDef = true := rfl
@[simp] theorem isDef_sl (t : Tok) (a b c : Nat) (l : Option Nat) : (D.sl t a b c l).isDef = true := rfl
@[simp] theorem isDef_ptr (t : Tok) (a : Nat) : (D.ptr t a).isDef = true := rfl
@[simp] theorem isDef_rptr (t : Tok) (a b c : Nat) : (D.rptr t a b c).isDef = true := rfl
@[simp] theorem asBool_b (b : Bool) : (D.v (.bool b)).asBool = some b := rfl
@[simp] theorem lenD_list (x : List (List D)) : (D.list x).lenD = some x.length := rfl
@[simp] theorem lenD_nil : D.nil.lenD = some 0 := rfl
@[simp] theorem lenD_mt : D.mt.lenD = some 0 := rfl
@[simp] theorem lenD_sl (t : Tok) (a b c : Nat) (l : Option Nat) : (D.sl t a b c l).lenD = some c := rfl
@[simp] theorem elems_list (x : List (List D)) : (D.list x).elems m = some x := rfl
@[simp] theorem elems_nil : D.nil.elems m = some [] := rfl
@[simp] theorem elems_mt : D.mt.elems m = some [] := rfl
@[simp] theorem elems_sl (t : Tok) (size off len : Nat) (l : Option Nat) : (D.sl t size off len l).elems m = match m t with
    | some (.row _ _ es) => if off + len ≤ es.length ∧ es.all (fun c => c.length == size) = true then some ((es.drop off).take len) else none
    | some (.box xs) => if size = 1 ∧ off + len ≤ xs.length then some (((xs.drop off).take len).map fun d => [d]) else none
    | _ => none := rfl
theorem elems_row {t : Tok} {size off len : Nat} {l : Option Nat} {g : Tok} {e : Nat} {es : List (List D)} (h : m t = some (.row g e es)) (h1 : off + len ≤ es.length) (h2 : es.all (fun c => c.length == size) = true) : (D.sl t size off len l).elems m = some ((es.drop off).take len) := by
  simp only [D.elems, h]; rw [if_pos ⟨h1, h2⟩]
theorem elems_box {t : Tok} {off len : Nat} {l : Option Nat} {xs : List D} (h : m t = some (.box xs)) (h1 : off + len ≤ xs.length) : (D.sl t 1 off len l).elems m = some (((xs.drop off).take len).map fun d => [d]) := by
  simp only [D.elems, h]; rw [if_pos ⟨trivial, h1⟩]
@[simp] theorem flatC_v (x : Value) : (D.v x).flatC = true := rfl
@[simp] theorem flatC_list (x : List (List D)) : (D.list x).flatC = false := rfl
@[simp] theorem flat_v (x : Value) : (D.v x).flat = true := rfl
@[simp] theorem flat_agg (x : List D) : (D.agg x).flat = x.all D.flatC := rfl
@[simp] theorem flat_tup (x : List D) : (D.tup x).flat = x.all fun d => match d with | .agg ys => ys.all D.flatC | d => d.flatC := rfl
@[simp] theorem flat_list (x : List (List D)) : (D.list x).flat = false := rfl
@[simp] theorem noT_v (x : Value) : (D.v x).noT = true := rfl
@[simp] theorem noT_list (x : List (List D)) : (D.list x).noT = true := rfl
@[simp] theorem noT_agg (x : List D) : (D.agg x).noT = x.all D.noTC := rfl
@[simp] theorem noTC_v (x : Value) : (D.v x).noTC = true := rfl
@[simp] theorem noTC_list (x : List (List D)) : (D.list x).noTC = true := rfl
@[simp] theorem view_v (n : Nat) (x : Value) : viewC m (n + 1) (.v x) = some (.v x) := rfl
@[simp] theorem view_nil (n : Nat) : viewC m (n + 1) .nil = some (.list []) := rfl
@[simp] theorem view_mt (n : Nat) : viewC m (n + 1) .mt = some (.list []) := rfl
@[simp] theorem view_list (n : Nat) (x : List (List D)) : viewC m (n + 1) (.list x) = some (.list x) := rfl
@[simp] theorem view_lptr (n : Nat) (x : List D) : viewC m (n + 1) (.lptr x) = some (.lptr x) := rfl
@[simp] theorem view_sl (n : Nat) (t : Tok) (a b c : Nat) (l : Option Nat) : viewC m (n + 1) (.sl t a b c l) = ((D.sl t a b c l).elems m).bind fun es => (viewRows (viewC m n) es).map .list := rfl
@[simp] theorem view_clo (n f : Nat) (x : List D) : viewC m (n + 1) (.clo f x) = (viewRow (viewC m n) x).map (.clo f) := rfl
theorem view_ptr {n : Nat} {t : Tok} {off : Nat} {xs : List D} (h : m t = some (.box xs)) (h1 : off ≤ xs.length) : viewC m (n + 1) (.ptr t off) = (viewRow (viewC m n) (xs.drop off)).map .lptr := by simp only [viewC, h, if_pos h1]
@[simp] theorem viewA_agg (x : List D) : viewA m (.agg x) = (viewRow (viewC m 6) x).map .agg := rfl
@[simp] theorem viewA_v (x : Value) : viewA m (.v x) = some (.v x) := rfl
@[simp] theorem viewA_nil : viewA m .nil = some (.list []) := rfl
@[simp] theorem viewA_mt : viewA m .mt = some (.list []) := rfl
@[simp] theorem viewA_list (x : List (List D)) : viewA m (.list x) = some (.list x) := rfl
@[simp] theorem viewA_lptr (x : List D) : viewA m (.lptr x) = some (.lptr x) := rfl
@[simp] theorem viewA_clo (f : Nat) (x : List D) : viewA m (.clo f x) = (viewRow (viewC m 5) x).map (.clo f) := rfl
@[simp] theorem viewA_sl (t : Tok) (a b c : Nat) (l : Option Nat) : viewA m (.sl t a b c l) = ((D.sl t a b c l).elems m).bind fun es => (viewRows (viewC m 5) es).map .list := rfl
@[simp] theorem viewC_p (n : Nat) (t : Tok) (off : Nat) : viewC m (n + 1) (.ptr t off) = match m t with
    | some (.box xs) => if off ≤ xs.length then (viewRow (viewC m n) (xs.drop off)).map .lptr else none
    | _ => none := rfl
@[simp] theorem viewC_r (n : Nat) (t : Tok) (size i j : Nat) : viewC m (n + 1) (.rptr t size i j) = match m t with
    | some (.row _ _ es) => (es[i]?).bind fun c => if c.length = size ∧ j ≤ size then (viewRow (viewC m n) (c.drop j)).map .lptr else none
    | _ => none := rfl
@[simp] theorem viewA_p (t : Tok) (off : Nat) : viewA m (.ptr t off) = match m t with
    | some (.box xs) => if off ≤ xs.length then (viewRow (viewC m 5) (xs.drop off)).map .lptr else none
    | _ => none := rfl
@[simp] theorem viewA_r (t : Tok) (size i j : Nat) : viewA m (.rptr t size i j) = match m t with
    | some (.row _ _ es) => (es[i]?).bind fun c => if c.length = size ∧ j ≤ size then (viewRow (viewC m 5) (c.drop j)).map .lptr else none
    | _ => none := rfl
@[simp] theorem noT_ptr (t : Tok) (off : Nat) : (D.ptr t off).noT = false := rfl
@[simp] theorem noT_rptr (t : Tok) (s i j : Nat) : (D.rptr t s i j).noT = false := rfl
@[simp] theorem noT_sl (t : Tok) (a b c : Nat) (l : Option Nat) : (D.sl t a b c l).noT = false := rfl
@[simp] theorem noT_nil : D.nil.noT = true := rfl
@[simp] theorem noT_mt : D.mt.noT = true := rfl
@[simp] theorem noT_lptr (x : List D) : (D.lptr x).noT = true := rfl
@[simp] theorem noTC_nil : D.nil.noTC = true := rfl
@[simp] theorem noTC_mt : D.mt.noTC = true := rfl
@[simp] theorem noTC_lptr (x : List D) : (D.lptr x).noTC = true := rfl
@[simp] theorem noTC_sl (t : Tok) (a b c : Nat) (l : Option Nat) : (D.sl t a b c l).noTC = false := rfl
@[simp] theorem noTC_ptr (t : Tok) (off : Nat) : (D.ptr t off).noTC = false := rfl
theorem viewA_ptr {t : Tok} {off : Nat} {xs : List D} (h : m t = some (.box xs)) (h1 : off ≤ xs.length) : viewA m (.ptr t off) = (viewRow (viewC m 5) (xs.drop off)).map .lptr := view_ptr h h1
@[simp] theorem viewRow_nil (f : D → Option D) : viewRow f [] = some [] := by simp [viewRow]
theorem viewRow_cons (f : D → Option D) (d : D) (l : List D) (hf : ∀ x, f (.v x) = some (.v x)) : viewRow f (d :: l) = (f d).bind fun d' => (viewRow f l).map fun l' => d' :: l' := by
  have key : ∀ l : List D, l.all D.flatC = true → l.mapM f = some l := by
    intro l
    induction l with
    | nil => intro _; rfl
    | cons a l ih =>
      intro h
      simp only [List.all_cons, Bool.and_eq_true] at h
      have ha : f a = some a := by cases a <;> first | exact hf _ | (simp [D.flatC] at h; done)
      simp [List.mapM_cons, ha, ih h.2]
  have h0 : ∀ l : List D, viewRow f l = l.mapM f := fun l => by
    unfold viewRow
    split
    · rename_i h; exact (key l h).symm
    · rfl
  rw [h0, h0]
  simp only [List.mapM_cons, Option.bind_eq_bind, Option.pure_def]
  cases f d with
  | none => rfl
  | some d' => cases l.mapM f <;> rfl
theorem viewRow_flat {f : D → Option D} {l : List D} (h : l.all D.flatC = true) : viewRow f l = some l := by unfold viewRow; rw [if_pos h]
theorem viewRows_flat {f : D → Option D} {l : List (List D)} (h : l.all (fun c => c.all D.flatC) = true) : viewRows f l = some l := by unfold viewRows; rw [if_pos h]
@[simp] theorem viewRow6 (d : D) (l : List D) : viewRow (viewC m 6) (d :: l) = (viewC m 6 d).bind fun d' => (viewRow (viewC m 6) l).map fun l' => d' :: l' := viewRow_cons _ _ _ fun _ => rfl
@[simp] theorem viewRow5 (d : D) (l : List D) : viewRow (viewC m 5) (d :: l) = (viewC m 5 d).bind fun d' => (viewRow (viewC m 5) l).map fun l' => d' :: l' := viewRow_cons _ _ _ fun _ => rfl
@[simp] theorem viewRow4 (d : D) (l : List D) : viewRow (viewC m 4) (d :: l) = (viewC m 4 d).bind fun d' => (viewRow (viewC m 4) l).map fun l' => d' :: l' := viewRow_cons _ _ _ fun _ => rfl

@[simp] theorem mvV_1 (d : D) : mvV [d] = some d := rfl
@[simp] theorem pickV_1 (x : Bool) (a b : D) : pickV [.v (.bool x), a, b] = some (bif x then a else b) := rfl
@[simp] theorem binV_1 (op : BinOp) (k : IntKind) (a b : Int) : binV op [.v (.int k a), .v (.int k b)] = ibinV op k a b := by simp [binV]
@[simp] theorem shiftV_1 (op : BinOp) (k k' : IntKind) (a b : Int) : shiftV op [.v (.int k a), .v (.int k' b)] = ishiftV op k a b := rfl
@[simp] theorem beqV_1 (neg a b : Bool) : beqV neg [.v (.bool a), .v (.bool b)] = some (bv (if neg then !(a == b) else a == b)) := rfl
@[simp] theorem seqV_1 (neg : Bool) (a b : ByteArray) : seqV neg [.v (.string a), .v (.string b)] = some (bv (if neg then !(a.toList == b.toList) else a.toList == b.toList)) := rfl
@[simp] theorem notV_1 (a : Bool) : notV [.v (.bool a)] = some (bv (!a)) := rfl
@[simp] theorem negV_1 (k : IntKind) (a : Int) : negV [.v (.int k a)] = some (.v (.int k (k.wrap (0 - a)))) := rfl
@[simp] theorem lenV_1 (d : D) : lenV [d] = d.lenD.bind fun n => some (iv n) := rfl
@[simp] theorem slenV_1 (a : ByteArray) : slenV [.v (.string a)] = some (iv a.size) := rfl
@[simp] theorem loadV_l (n : Nat) (agg : Bool) (xs : List D) : loadV m n agg [.lptr xs] = if n ≤ xs.length then (if agg then some (.agg (xs.take n)) else xs[0]?) else none := rfl
theorem loadV_p {n : Nat} {agg : Bool} {t : Tok} {off : Nat} {xs : List D} (h : m t = some (.box xs)) (h1 : off + n ≤ xs.length) : loadV m n agg [.ptr t off] = if agg then some (.agg ((xs.drop off).take n)) else xs[off]? := by
  simp only [loadV, h, if_pos h1]
@[simp] theorem loadV_ptr (n : Nat) (agg : Bool) (t : Tok) (off : Nat) : loadV m n agg [.ptr t off] = match m t with
    | some (.box xs) => if off + n ≤ xs.length then (if agg then some (.agg ((xs.drop off).take n)) else xs[off]?) else none
    | _ => none := rfl
@[simp] theorem loadV_rptr (n : Nat) (agg : Bool) (t : Tok) (size i j : Nat) : loadV m n agg [.rptr t size i j] = match m t with
    | some (.row _ _ es) => (es[i]?).bind fun c => if c.length = size ∧ j + n ≤ size then (if agg then some (.agg ((c.drop j).take n)) else c[j]?) else none
    | _ => none := rfl
@[simp] theorem fldV_l (off : Nat) (xs : List D) : fldV off [.lptr xs] = some (.lptr (xs.drop off)) := rfl
@[simp] theorem fldV_p (off : Nat) (t : Tok) (o : Nat) : fldV off [.ptr t o] = some (.ptr t (o + off)) := rfl
@[simp] theorem fldV_r (off : Nat) (t : Tok) (size i j : Nat) : fldV off [.rptr t size i j] = some (.rptr t size i (j + off)) := rfl
@[simp] theorem idxV_l (e size : Nat) (es : List (List D)) (k : IntKind) (n : Int) : idxV e size [.list es, .v (.int k n)] = if n < 0 then none else (es[n.toNat]?).bind fun c => if c.length = size then some (.lptr c) else none := rfl
@[simp] theorem idxV_s (e size : Nat) (t : Tok) (size' off len : Nat) (l : Option Nat) (k : IntKind) (n : Int) : idxV e size [.sl t size' off len l, .v (.int k n)] = if n < 0 then none else if size' = size ∧ n.toNat < len then some (.rptr t size (off + n.toNat) 0) else none := rfl
@[simp] theorem aidxV_l (n size : Nat) (xs : List D) (k : IntKind) (i : Int) : aidxV n size [.lptr xs, .v (.int k i)] = if 0 ≤ i ∧ i < n then some (.lptr (xs.drop (i.toNat * size))) else none := rfl
@[simp] theorem aidxV_p (n size : Nat) (t : Tok) (o : Nat) (k : IntKind) (i : Int) : aidxV n size [.ptr t o, .v (.int k i)] = if 0 ≤ i ∧ i < n then some (.ptr t (o + i.toNat * size)) else none := rfl
@[simp] theorem aidxV_r (n size : Nat) (t : Tok) (sz q j : Nat) (k : IntKind) (i : Int) : aidxV n size [.rptr t sz q j, .v (.int k i)] = if 0 ≤ i ∧ i < n then some (.rptr t sz q (j + i.toNat * size)) else none := rfl
@[simp] theorem extV_1 (k : Nat) (xs : List D) : extV k [.tup xs] = xs[k]? := rfl
@[simp] theorem convV_1 (k k' : IntKind) (a : Int) : convV k [.v (.int k' a)] = some (.v (.int k (k.wrap a))) := rfl
@[simp] theorem afldV_1 (off n : Nat) (agg : Bool) (xs : List D) : afldV off n agg [.agg xs] = if off + n ≤ xs.length then (if agg then some (.agg ((xs.drop off).take n)) else xs[off]?) else none := rfl
@[simp] theorem aixV_1 (n size : Nat) (agg : Bool) (xs : List D) (k : IntKind) (i : Int) : aixV n size agg [.agg xs, .v (.int k i)] = if 0 ≤ i ∧ i < n ∧ i.toNat * size + size ≤ xs.length then (if agg then some (.agg ((xs.drop (i.toNat * size)).take size)) else xs[i.toNat * size]?) else none := rfl
@[simp] theorem buildV_1 (zero : List D) (places : List (Nat × Nat)) (ds : List D) : buildV zero places ds = if ds.all (fun d => d.cells.all D.okC) then (fillV zero places ds).map .agg else none := rfl
@[simp] theorem cloV_1 (f : Nat) (ds : List D) : cloV f ds = if ds.all D.isDef then some (.clo f ds) else none := rfl
@[simp] theorem mx2V_1 (mx : Bool) (k k' : IntKind) (a b : Int) : mx2V mx [.v (.int k a), .v (.int k' b)] = some (.v (.int k (if mx then (if b > a then b else a) else (if b < a then b else a)))) := rfl
@[simp] theorem mx3V_1 (mx : Bool) (k k' k2 : IntKind) (a b c : Int) : mx3V mx [.v (.int k a), .v (.int k' b), .v (.int k2 c)] = some (.v (.int k (if mx then (if c > (if b > a then b else a) then c else (if b > a then b else a)) else (if c < (if b < a then b else a) then c else (if b < a then b else a))))) := rfl
@[simp] theorem aeqV_1 (neg : Bool) (ks : List Nat) (xs ys : List D) : aeqV neg ks [.agg xs, .agg ys] = (eqCells ks xs ys).map fun r => bv (if neg then !r else r) := rfl
@[simp] theorem snilV_n (neg : Bool) : snilV neg [.nil, .nil] = some (bv (!neg)) := rfl
@[simp] theorem snilV_m (neg : Bool) : snilV neg [.mt, .nil] = some (bv neg) := rfl
@[simp] theorem snilV_l (neg : Bool) (c : List D) (r : List (List D)) : snilV neg [.list (c :: r), .nil] = some (bv neg) := rfl
@[simp] theorem snilV_s (neg : Bool) (t : Tok) (a b c : Nat) (l : Option Nat) : snilV neg [.sl t a b c l, .nil] = some (bv neg) := rfl
@[simp] theorem chkV_p (t : Tok) (o : Nat) : chkV [.ptr t o] = some (.ptr t o) := rfl
@[simp] theorem chkV_r (t : Tok) (s i j : Nat) : chkV [.rptr t s i j] = some (.rptr t s i j) := rfl
@[simp] theorem chkV_l (xs : List D) : chkV [.lptr xs] = some (.lptr xs) := rfl
@[simp] theorem chkV_c (f : Nat) (cs : List D) : chkV [.clo f cs] = some (.clo f cs) := rfl
@[simp] theorem slcV_s (size : Nat) (lo hi mx : Bool) (t : Tok) (size' off len : Nat) (lim : Option Nat) (r : List D) : slcV m size lo hi mx (.sl t size' off len lim :: r) = (intsV r).bind fun l => (boundsV len lo hi mx l).bind fun q =>
    if 0 ≤ q.1 ∧ q.1 ≤ q.2.1 ∧ (q.2.1 ≤ len ∨ roomV m t off lim q.2.1 = true) ∧ size' = size then
      match q.2.2 with
      | none => some (.sl t size (off + q.1.toNat) (q.2.1.toNat - q.1.toNat) (lim.map (· - q.1.toNat)))
      | some c => if q.2.1 ≤ c ∧ c ≤ len then some (.sl t size (off + q.1.toNat) (q.2.1.toNat - q.1.toNat) (some (c.toNat - q.1.toNat))) else none
    else none := rfl
@[simp] theorem slcV_l (size : Nat) (lo hi mx : Bool) (es : List (List D)) (r : List D) : slcV m size lo hi mx (.list es :: r) = if es.all (fun c => c.length == size) = false then none else (intsV r).bind fun l => (boundsV es.length lo hi mx l).bind fun q =>
      match q.2.2 with
      | none => cutV es q.1 q.2.1
      | some c => if q.2.1 ≤ c ∧ c ≤ es.length then cutV es q.1 q.2.1 else none := rfl
@[simp] theorem slaV_1 (n : Nat) (lo hi : Bool) (t : Tok) (off : Nat) (r : List D) : slaV n lo hi (.ptr t off :: r) = (intsV r).bind fun l => (boundsV n lo hi false l).bind fun q =>
    if 0 ≤ q.1 ∧ q.1 ≤ q.2.1 ∧ q.2.1 ≤ n then some (.sl t 1 (off + q.1.toNat) (q.2.1.toNat - q.1.toNat) (some (n - q.1.toNat))) else none := rfl
@[simp] theorem lkpV_1 (ks : List Nat) (zero : D) (ok : Bool) (t : Tok) (k : D) : lkpV m ks zero ok [.mp t, k] = match m t with
    | some (.map es) => if k.okM = true then (findV ks k es 0).bind fun r => match r with
      | none => some (if ok then .tup [zero, bv false] else zero)
      | some i => (es[i]?).map fun p => if ok then .tup [p.2, bv true] else p.2
      else none
    | _ => none := rfl
@[simp] theorem entV_1 (t : Tok) : entV m [.ptr t 0] = match m t with
    | some (.iter u n seen) => match m u with
      | some (.map es) => if es.length = n then (seen.getLast?).bind fun i => (es[i]?).map fun p => .tup [p.1, p.2] else none
      | _ => none
    | _ => none := rfl
@[simp] theorem ccallV_1 (f : Nat) (caps ds : List D) : ccallV Γ m (.clo f caps :: ds) = callV Γ m f (ds ++ caps) := rfl
@[simp] theorem callV_1 (f : Nat) (ds : List D) : callV Γ m f ds = (ds.mapM (viewA m)).bind fun as => (Γ.p f as).bind fun d => if d.flat || ds.all D.noT && d.noT then some d else none := rfl
end

section
variable {σ : St} {Γ : Env}
@[simp] theorem opV_1 (x : Nat) (k : PK) (args : List VArg) : opV Γ x k args σ = (k.run Γ σ.m (args.map (VArg.val σ.s))).map (σ.set x) := rfl
@[simp] theorem guardV_n : guardV σ none = some true := rfl
theorem guardV_b {j : Nat} {want b : Bool} (h : σ.s j = bv b) : guardV σ (some (j, want)) = some (b == want) := by simp only [guardV, h]
@[simp] theorem guardV_s (j : Nat) (want : Bool) : guardV σ (some (j, want)) = match σ.s j with
  | .v (.bool b) => some (b == want)
  | .tup _ => some false
  | _ => none := rfl
@[simp] theorem boxV_1 (x : Nat) (d : D) : boxV x d σ = if d.cells.all D.okC then some (σ.new x (.box d.cells) (.ptr (σ.tok x) 0)) else none := rfl
@[simp] theorem storeV_p (n : Nat) (t : Tok) (off : Nat) (v : D) : storeV n (.ptr t off) v σ = match σ.m t with
    | some (.box xs) => if v.cells.length = n ∧ off + n ≤ xs.length ∧ v.cells.all D.okC = true then some (σ.put t (some (.box (putAt xs off v.cells)))) else none
    | _ => none := rfl
@[simp] theorem storeV_r (n : Nat) (t : Tok) (size i j : Nat) (v : D) : storeV n (.rptr t size i j) v σ = match σ.m t with
    | some (.row g e es) => (es[i]?).bind fun c => if v.cells.length = n ∧ j + n ≤ size ∧ c.length = size ∧ v.cells.all D.okC = true then
        some ((σ.strike g i).put t (some (.row g e (es.set i (putAt c j v.cells))))) else none
    | _ => none := rfl
@[simp] theorem appV_nil (x e size : Nat) (b : D) : appV x e size .nil b σ = (b.elems σ.m).bind fun es2 => if es2.all (fun c => c.length == size) = false then none else
  if es2.isEmpty then some (σ.set x .nil) else if es2.length ≤ maxMade then some (σ.new x (.row (σ.tok x) e es2) (.sl (σ.tok x) size 0 es2.length none)) else none := rfl
@[simp] theorem appV_sl (x e size : Nat) (t : Tok) (size' off len : Nat) (lim : Option Nat) (b : D) : appV x e size (.sl t size' off len lim) b σ = (b.elems σ.m).bind fun es2 => if es2.all (fun c => c.length == size) = false then none else
  if es2.isEmpty then some (σ.set x (.sl t size' off len lim)) else match σ.m t with
    | some (.row g e' es1) => if e' = e ∧ size' = size ∧ len + es2.length ≤ maxMade ∧ off + len ≤ es1.length then
        match lim with
        | none => if off = 0 then some ((σ.strike g len).new x (.row g e (es1.take len ++ es2)) (.sl (σ.tok x) size 0 (len + es2.length) none)) else none
        | some c => if c < len + es2.length then some (σ.new x (.row (σ.tok x) e ((es1.drop off).take len ++ es2)) (.sl (σ.tok x) size 0 (len + es2.length) none)) else none
      else none
    | _ => none := rfl
@[simp] theorem mksV_1 (x e size : Nat) (zero : List D) (k k' : IntKind) (l c : Int) : mksV x e size zero (.v (.int k l)) (.v (.int k' c)) σ = if 0 ≤ l ∧ l ≤ c ∧ c ≤ maxMade then some (σ.new x (.row (σ.tok x) e (List.replicate l.toNat zero)) (.sl (σ.tok x) size 0 l.toNat none)) else none := rfl
@[simp] theorem litV_1 (x e size len : Nat) (zero : List D) (places : List (Nat × Nat)) (ds : List D) : litV x e size len zero places ds σ = if ds.all (fun d => d.cells.all D.okC) then (fillV zero places ds).bind fun cs => if cs.length = len * size then
    some (σ.new x (.row (σ.tok x) e (chop size len cs)) (.sl (σ.tok x) size 0 len none)) else none else none := rfl
@[simp] theorem callqV_1 (x f : Nat) (ds : List D) : callqV Γ x f ds σ = (ds.mapM (viewA σ.m)).bind fun as => (Γ.q f as).map fun q => σ.adopt x q.1 q.2 := rfl
@[simp] theorem callmV_1 (x f : Nat) (ds : List D) : callmV Γ x f ds σ = if ds.all D.isDef then (Γ.m f σ.m ds).map fun q => σ.adoptM x q.1 q.2 else none := rfl
@[simp] theorem mkmV_1 (x : Nat) : mkmV x σ = some (σ.new x (.map []) (.mp (σ.tok x))) := rfl
@[simp] theorem rngV_1 (x : Nat) (t : Tok) : rngV x (.mp t) σ = match σ.m t with
    | some (.map es) => some (σ.new x (.iter t es.length []) (.ptr (σ.tok x) 0))
    | _ => none := rfl
@[simp] theorem mupdV_1 (ks : List Nat) (t : Tok) (k v : D) : mupdV ks (.mp t) k v σ = match σ.m t with
    | some (.map es) => if v.okM = true ∧ k.okM = true then (findV ks k es 0).bind fun r => match r with
      | some i => (es[i]?).map fun p => σ.put t (some (.map (es.set i (p.1, v))))
      | none => if es.length < maxMade then some (σ.put t (some (.map (es ++ [(k, v)])))) else none
      else none
    | _ => none := rfl
@[simp] theorem resV_1 (r : VRes) : resV [r] σ = r.val σ := rfl
@[simp] theorem resV_2 (r r' : VRes) : resV [r, r'] σ = ([r, r'].mapM (VRes.val σ)).map .tup := rfl
@[simp] theorem resV_0 : resV [] σ = some (.tup []) := rfl
@[simp] theorem struck_box (g : Tok) (k : Nat) (xs : List D) : HO.struck g k (some (.box xs)) = some (.box xs) := rfl
@[simp] theorem struck_none (g : Tok) (k : Nat) : HO.struck g k none = none := rfl
@[simp] theorem struck_map (g : Tok) (k : Nat) (es : List (D × D)) : HO.struck g k (some (.map es)) = some (.map es) := rfl
@[simp] theorem struck_iter (g : Tok) (k : Nat) (t : Tok) (n : Nat) (s : List Nat) : HO.struck g k (some (.iter t n s)) = some (.iter t n s) := rfl
@[simp] theorem struck_row (g : Tok) (k : Nat) (g' : Tok) (e : Nat) (es : List (List D)) : HO.struck g k (some (.row g' e es)) = if g' = g ∧ k < es.length then none else some (.row g' e es) := rfl
@[simp] theorem nat_neg (k : Nat) : ((k : Int) < 0) = False := by simp
end

section
variable {σ : St}
@[simp] theorem set_s (i : Nat) (d : D) (j : Nat) : (σ.set i d).s j = if j = i then d else σ.s j := rfl
@[simp] theorem put_m (t : Tok) (o : Option HO) (τ : Tok) : (σ.put t o).m τ = if τ = t then o else σ.m τ := rfl
@[simp] theorem strike_m (g : Tok) (k : Nat) (τ : Tok) : (σ.strike g k).m τ = HO.struck g k (σ.m τ) := rfl
@[simp] theorem new_s (x : Nat) (o : HO) (d : D) (j : Nat) : (σ.new x o d).s j = if j = x then d else σ.s j := rfl
@[simp] theorem new_m (x : Nat) (o : HO) (d : D) (τ : Tok) : (σ.new x o d).m τ = if τ = [x + 1, σ.c x] then some o else σ.m τ := rfl
@[simp] theorem new_c (x : Nat) (o : HO) (d : D) (y : Nat) : (σ.new x o d).c y = if y = x then σ.c y + 1 else σ.c y := rfl
@[simp] theorem adopt_s (x : Nat) (d : D) (m' : Mem) (j : Nat) : (σ.adopt x d m').s j = if j = x then d.ren (fun t => (x + 1) :: σ.c x :: t) else σ.s j := rfl
@[simp] theorem adopt_c (x : Nat) (d : D) (m' : Mem) (y : Nat) : (σ.adopt x d m').c y = if y = x then σ.c y + 1 else σ.c y := rfl
@[simp] theorem adopt_m (x : Nat) (d : D) (m' : Mem) (a b : Nat) (r : Tok) : (σ.adopt x d m').m (a :: b :: r) = if a = x + 1 ∧ b = σ.c x then (m' r).map (HO.ren fun t => (x + 1) :: σ.c x :: t) else σ.m (a :: b :: r) := rfl
@[simp] theorem initM_s (m : Mem) (ds : List D) (i : Nat) : (initM m ds).s i = (ds.map (D.ren up)).getD i .undef := rfl
@[simp] theorem initM_m (m : Mem) (ds : List D) (t : Tok) : (initM m ds).m (0 :: t) = (m t).map (HO.ren up) := rfl
@[simp] theorem initM_c (m : Mem) (ds : List D) (x : Nat) : (initM m ds).c x = 0 := rfl
@[simp] theorem adoptM_s (x : Nat) (d : D) (m' : Mem) (j : Nat) : (σ.adoptM x d m').s j = if j = x then d.ren (dnTok x (σ.c x)) else σ.s j := rfl
@[simp] theorem adoptM_c (x : Nat) (d : D) (m' : Mem) (y : Nat) : (σ.adoptM x d m').c y = if y = x then σ.c y + 1 else σ.c y := rfl
@[simp] theorem havoc_s (l : List Nat) (j : Nat) : (havoc l σ).s j = if l.contains j then .undef else σ.s j := rfl
@[simp] theorem havoc_m (l : List Nat) : (havoc l σ).m = σ.m := rfl
@[simp] theorem havoc_c (l : List Nat) : (havoc l σ).c = σ.c := rfl
@[simp] theorem initV_s (ds : List D) (i : Nat) : (initV ds).s i = ds.getD i .undef := rfl
@[simp] theorem initV_m (ds : List D) : (initV ds).m = noMem := rfl
@[simp] theorem initV_c (ds : List D) (x : Nat) : (initV ds).c x = 0 := rfl
@[simp] theorem noMem_at (t : Tok) : noMem t = none := rfl

/-- A live token is not the one that is made next. -/
theorem WF.ne (W : WF σ) {t : Tok} {o : HO} (h : σ.m t = some o) (x k : Nat) (r : Tok) (hk : σ.c x ≤ k := by simp) : t ≠ (x + 1) :: k :: r := fun e => by
  rw [e, W x k r hk] at h; cases h
theorem adopt_old (W : WF σ) {t : Tok} {o : HO} (h : σ.m t = some o) (x : Nat) (d : D) (m' : Mem) : (σ.adopt x d m').m t = some o := MSub.adopt W x d m' t o h
end

@[simp] theorem cond_or (a b : Bool) : (bif a then some (D.v (.bool true)) else some (D.v (.bool b))) = some (D.v (.bool (a || b))) := by cases a <;> rfl
@[simp] theorem cond_and (a b : Bool) : (bif a then some (D.v (.bool b)) else some (D.v (.bool false))) = some (D.v (.bool (a && b))) := by cases a <;> rfl

/-- A run, and what comes behind it. -/
def runK (o : Option St) (K : St → Prop) : Prop := ∃ s', o = some s' ∧ K s'
@[simp] theorem runK_some (s : St) (K : St → Prop) : runK (some s) K = K s := by simp [runK]
def condK (d : D) (A B : St → Prop) (s : St) : Prop := ∃ x, d = .v (.bool x) ∧ (x = true → A s) ∧ (x = false → B s)
@[simp] theorem condK_true (A B : St → Prop) (s : St) : condK (.v (.bool true)) A B s = A s := by simp [condK]
@[simp] theorem condK_false (A B : St → Prop) (s : St) : condK (.v (.bool false)) A B s = B s := by simp [condK]
theorem condK_dec {p : Prop} [Decidable p] {A B : St → Prop} {s : St} (h1 : p → A s) (h2 : ¬ p → B s) : condK (.v (.bool (decide p))) A B s := ⟨_, rfl, fun h => h1 (by simpa using h), fun h => h2 (by simpa using h)⟩
theorem condK_b {x : Bool} {A B : St → Prop} {s : St} (h1 : x = true → A s) (h2 : x = false → B s) : condK (.v (.bool x)) A B s := ⟨_, rfl, h1, h2⟩

section
variable {Γ : Env} {Q : VE → St → Prop} {s : St}
@[simp] theorem wwp_skip : wwp Γ .skip Q s = Q .normal s := rfl
@[simp] theorem wwp_reg (cs : List CStm) : wwp Γ (.reg cs) Q s = runK (cruns Γ cs s) (Q .normal) := rfl
/-- The slots that statements write. -/
def dsts (sts : List VStm) : List Nat := sts.filterMap VStm.dst
theorem eff_frame {e : Eff} {s s' : St} (h : e.run Γ s = some s') (j : Nat) (hj : e.dst ≠ some j) : s'.s j = s.s j := by
  have new : ∀ x o d, some (s.new x o d) = some s' → x ≠ j → s'.s j = s.s j := fun x o d he hx => by
    cases he; exact St.new_s fun e => hx e.symm
  have ne : ∀ x, e.dst = some x → x ≠ j := fun x hx e2 => hj (by rw [hx, e2])
  cases e with
  | box x a =>
    simp only [Eff.run] at h
    unfold boxV at h
    split at h
    · exact new _ _ _ h (ne x rfl)
    · cases h
  | store n a v =>
    simp only [Eff.run] at h
    unfold storeV at h
    split at h
    · split at h
      · split at h <;> cases h
        rfl
      · cases h
    · split at h
      · rw [Option.bind_eq_some_iff] at h
        obtain ⟨c, _, h⟩ := h
        split at h <;> cases h
        rfl
      · cases h
    · cases h
  | app x e size a b =>
    have hx := ne x rfl
    simp only [Eff.run] at h
    unfold appV at h
    rw [Option.bind_eq_some_iff] at h
    obtain ⟨es, _, h⟩ := h
    split at h
    · cases h
    split at h
    · split at h
      · cases h; exact St.set_ne _ _ fun e => hx e.symm
      · split at h
        · exact new _ _ _ h hx
        · cases h
    · split at h
      · cases h; exact St.set_ne _ _ fun e => hx e.symm
      · split at h
        · split at h
          · split at h
            · split at h <;> cases h
              exact St.new_s fun e => hx e.symm
            · split at h
              · exact new _ _ _ h hx
              · cases h
          · cases h
        · cases h
    · cases h
  | mks x e size zero a b =>
    simp only [Eff.run] at h
    unfold mksV at h
    split at h
    · split at h
      · exact new _ _ _ h (ne x rfl)
      · cases h
    · cases h
  | lit x e size len zero places args =>
    simp only [Eff.run] at h
    unfold litV at h
    split at h
    · rw [Option.bind_eq_some_iff] at h
      obtain ⟨cs, _, h⟩ := h
      split at h
      · exact new _ _ _ h (ne x rfl)
      · cases h
    · cases h
  | callq x f args =>
    simp only [Eff.run] at h
    unfold callqV at h
    rw [Option.bind_eq_some_iff] at h
    obtain ⟨as, _, h⟩ := h
    obtain ⟨q, _, rfl⟩ := Option.map_eq_some_iff.1 h
    exact if_neg fun e => ne x rfl e.symm
  | callm x f args =>
    simp only [Eff.run] at h
    unfold callmV at h
    split at h
    · obtain ⟨q, _, rfl⟩ := Option.map_eq_some_iff.1 h
      exact if_neg fun e => ne x rfl e.symm
    · cases h
  | mkm x => exact new _ _ _ h (ne x rfl)
  | rng x a =>
    simp only [Eff.run] at h
    unfold rngV at h
    split at h
    · split at h
      · exact new _ _ _ h (ne x rfl)
      · cases h
    · cases h
  | mupd ks a k v =>
    simp only [Eff.run] at h
    unfold mupdV at h
    split at h
    · split at h
      · split at h
        · rw [Option.bind_eq_some_iff] at h
          obtain ⟨r, _, h⟩ := h
          split at h
          · obtain ⟨p, _, rfl⟩ := Option.map_eq_some_iff.1 h; rfl
          · split at h <;> cases h
            rfl
        · cases h
      · cases h
    · cases h
theorem run_frame {st : VStm} {s s' : St} (h : st.run Γ s = some s') (j : Nat) (hj : st.dst ≠ some j) : s'.s j = s.s j := by
  cases st with
  | op x k args g =>
    obtain ⟨d, rfl, _⟩ := op_run_congr h
    exact St.set_ne _ _ fun e => hj (by simp [VStm.dst, e])
  | eff e g =>
    simp only [VStm.run] at h
    rw [Option.bind_eq_some_iff] at h
    obtain ⟨c, _, h⟩ := h
    cases c
    · simp only [cond_false, Option.some.injEq] at h
      subst h
      cases hd : e.dst with
      | none => rfl
      | some x => exact St.set_ne _ _ fun e2 => hj (show e.dst = some j by rw [hd, e2])
    · exact eff_frame h j hj
  | nxt => cases h
  | bad => cases h
theorem runs_frame : ∀ {sts : List VStm} {s s' : St}, runs Γ sts s = some s' → ∀ j, j ∉ dsts sts → s'.s j = s.s j
  | [], s, s', h, j, _ => by cases h; rfl
  | st :: r, s, s', h, j, hj => by
    simp only [runs] at h
    rw [Option.bind_eq_some_iff] at h
    obtain ⟨s1, h1, h2⟩ := h
    have h3 : j ∉ dsts r := fun hm => hj (by simp only [dsts, List.filterMap_cons]; split <;> simp_all [dsts])
    have h4 : st.dst ≠ some j := fun e => hj (by simp [dsts, e])
    rw [runs_frame h2 j h3, run_frame h1 j h4]
/-- A region in several orders: what it leaves of memory is the same; 'R': the slots that are looked at later. -/
theorem wwp_drw_of {ss : List (List VStm)} (T : List Nat) (R : List (Nat × D)) (m' : Mem) (c' : Nat → Nat) (hT : (ss.all fun sts => (dsts sts).all T.contains) = true)
    (h : ∀ sts ∈ ss, ∃ s', runs Γ sts s = some s' ∧ s'.m = m' ∧ s'.c = c' ∧ ∀ p ∈ R, s'.s p.1 = p.2)
    (hQ : Q .normal ⟨fun j => match R.find? (fun p => p.1 == j) with | some p => p.2 | none => if T.contains j then .undef else s.s j, m', c'⟩) : wwp Γ (.drw ss) Q s := by
  refine ⟨_, fun sts hs => ?_, hQ⟩
  obtain ⟨s', h1, h2, h3, h4⟩ := h sts hs
  refine ⟨s', h1, fun j => ?_, h2.symm, h3.symm⟩
  simp only
  cases hf : R.find? (fun p => p.1 == j) with
  | some p =>
    right
    have hp := List.mem_of_find?_eq_some hf
    have hj : p.1 = j := by simpa using List.find?_some hf
    rw [← hj]
    exact (h4 p hp).symm
  | none =>
    simp only
    split
    · exact .inl rfl
    · rename_i hn
      right
      refine (runs_frame h1 j fun hd => hn ?_).symm
      rw [List.all_eq_true] at hT
      have := hT sts hs
      rw [List.all_eq_true] at this
      exact this j hd
def okO (s0 : St) : Option St → Prop
  | none => False
  | some s' => (∀ τ, s'.m τ = s0.m τ) ∧ ∀ x, s'.c x = s0.c x
@[simp] theorem okO_some (s0 s' : St) : okO s0 (some s') = ((∀ τ, s'.m τ = s0.m τ) ∧ ∀ x, s'.c x = s0.c x) := rfl
@[simp] theorem okO_none (s0 : St) : okO s0 none = False := rfl
/-- The first order's run, and what the others have in common with it. -/
def drwK (o : Option St) (os : List (Option St)) (T : List Nat) (s : St) (K : St → Prop) : Prop := ∃ s0, o = some s0 ∧ (∀ o' ∈ os, okO s0 o') ∧ K ⟨fun j => if T.contains j then .undef else s.s j, s0.m, s0.c⟩
@[simp] theorem drwK_some (T : List Nat) (s : St) (K : St → Prop) (s0 : St) (os : List (Option St)) : drwK (some s0) os T s K = ((∀ o' ∈ os, okO s0 o') ∧ K ⟨fun j => if T.contains j then .undef else s.s j, s0.m, s0.c⟩) := by simp [drwK]
theorem wwp_drw_h {sts0 : List VStm} {rest : List (List VStm)} (T : List Nat) (hT : ((sts0 :: rest).all fun sts => (dsts sts).all T.contains) = true)
    (h : drwK (runs Γ sts0 s) (rest.map fun sts => runs Γ sts s) T s (Q .normal)) : wwp Γ (.drw (sts0 :: rest)) Q s := by
  obtain ⟨s0, h0, h1, h2⟩ := h
  refine wwp_drw_of T [] s0.m s0.c hT (fun sts hs => ?_) (by simpa using h2)
  rcases List.mem_cons.1 hs with rfl | hs
  · exact ⟨s0, h0, rfl, rfl, by simp⟩
  · have := h1 _ (List.mem_map.2 ⟨sts, hs, rfl⟩)
    cases hr : runs Γ sts s with
    | none => rw [hr] at this; exact this.elim
    | some s' => rw [hr] at this; exact ⟨s', rfl, funext this.1, funext this.2, by simp⟩
@[simp] theorem wwp_nxt (x : Nat) (a : VArg) : wwp Γ (.nxt x a) Q s = nxtOK x (a.val s.s) (Q .normal) s := rfl
@[simp] theorem wwp_seq (a b : WC) : wwp Γ (.seq a b) Q s = wwp Γ a (VE.thn (wwp Γ b Q) Q) s := rfl
@[simp] theorem wwp_cond (c : VArg) (a b : WC) : wwp Γ (.cond c a b) Q s = condK (c.val s.s) (wwp Γ a Q) (wwp Γ b Q) s := rfl
@[simp] theorem wwp_block (id : Nat) (c : WC) : wwp Γ (.block id c) Q s = wwp Γ c (VE.blk id Q) s := rfl
@[simp] theorem wwp_exit (id : Nat) : wwp Γ (.exit id) Q s = Q (.exit id) s := rfl
@[simp] theorem wwp_ret : wwp Γ .ret Q s = Q .ret s := rfl
end

theorem wrap_in {x : Int} (h1 : -9223372036854775808 ≤ x) (h2 : x ≤ 9223372036854775807) : IntKind.i64.wrap x = x := by
  rw [IntKind.wrap_i64]; omega

theorem wwp_loop {Γ : Env} {c : WC} {Q : VE → St → Prop} {s : St} (I : St → Prop) (μ : St → Nat) (h0 : I s) (hr : ∀ s, WF s → I s → wwp Γ c (VE.thn (fun s' => I s' ∧ μ s' < μ s) Q) s) : wwp Γ (.loop c) Q s := ⟨I, μ, h0, hr⟩

theorem wwp_mono {Γ : Env} : ∀ (c : WC) {Q Q' : VE → St → Prop} {s : St}, wwp Γ c Q s → (∀ e s, Q e s → Q' e s) → wwp Γ c Q' s
  | .skip, _, _, _, h, hq => hq _ _ h
  | .reg sts, _, _, _, ⟨s', h1, h2⟩, hq => ⟨s', h1, hq _ _ h2⟩
  | .drw ss, _, _, _, ⟨s2, h1, h2⟩, hq => ⟨s2, h1, hq _ _ h2⟩
  | .nxt x a, _, _, _, h, hq => nxtOK_mono h fun s hs => hq _ _ hs
  | .bad, _, _, _, h, _ => h.elim
  | .seq a b, Q, Q', s, h, hq => wwp_mono a h fun e s hs => by
      cases e with
      | normal => exact wwp_mono b hs hq
      | exit i => exact hq _ _ hs
      | ret => exact hq _ _ hs
  | .cond c a b, _, _, _, ⟨x, h1, h2, h3⟩, hq => ⟨x, h1, fun h => wwp_mono a (h2 h) hq, fun h => wwp_mono b (h3 h) hq⟩
  | .block id c, _, _, _, h, hq => wwp_mono c h fun e s hs => by
      cases e with
      | normal => exact hq _ _ hs
      | exit i =>
        simp only [VE.blk] at hs ⊢
        split at hs
        · rename_i hi; rw [if_pos hi]; exact hq _ _ hs
        · rename_i hi; rw [if_neg hi]; exact hq _ _ hs
      | ret => exact hq _ _ hs
  | .loop c, _, _, _, ⟨I, μ, h0, hr⟩, hq => ⟨I, μ, h0, fun s hw hs => wwp_mono c (hr s hw hs) fun e s' h => by
      cases e with
      | normal => exact h
      | exit i => exact hq _ _ h
      | ret => exact hq _ _ h⟩
  | .exit id, _, _, _, h, hq => hq _ _ h
  | .ret, _, _, _, h, hq => hq _ _ h

def noEnv : Env := ⟨fun _ _ => none, fun _ _ => none, fun _ _ _ => none⟩
theorem sound0 {P : Program} : Sound P noEnv := ⟨fun _ _ _ h => (by cases h), fun _ _ _ _ h => (by cases h), fun _ _ _ _ _ h => (by cases h)⟩
theorem Out.flat {σ : St} {d : D} (h : d.noF = true) (hr : d.ren (fun t => t) = d) : Out σ d d noMem :=
  ⟨fun t => t, hr.symm, h, fun t o h => (by cases h), fun t t' o o' h => (by cases h)⟩
end Go.Proofs.Ytpmgaaalfdjikaa
