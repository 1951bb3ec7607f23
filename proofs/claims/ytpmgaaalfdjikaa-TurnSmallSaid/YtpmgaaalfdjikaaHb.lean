/- The H semantics: what one operation makes of data; which operations of the model it speaks of. Plain definitions; no condition. -/
import Derived.Test.YtpmgaaalfdjikaaHa
namespace Go.Proofs.Ytpmgaaalfdjikaa
open Go.RowKit

inductive PK where
  | mv
  | pick
  | ibin (op : BinOp)
  | ishift (op : BinOp)
  | beq (neg : Bool)
  | seq (neg : Bool)
  | aeq (neg : Bool) (ks : List Nat)
  | snil (neg : Bool)
  | sop (op : BinOp)
  | inot
  | ineg
  | llen
  | slen
  | load (n : Nat) (agg : Bool)
  | fld (off : Nat)
  | idx (e size : Nat)
  | aidx (n size : Nat)
  | ext (k : Nat)
  | conv (k : IntKind)
  | afld (off n : Nat) (agg : Bool)
  | build (zero : List D) (places : List (Nat × Nat))
  | clo (f : Nat)
  | mx2 (mx : Bool)
  | mx3 (mx : Bool)
  | aix (n size : Nat) (agg : Bool)
  | chk
  | slc (size : Nat) (lo hi mx : Bool)
  | sla (n : Nat) (lo hi : Bool)
  | lkp (ks : List Nat) (zero : D) (ok : Bool)
  | ent
  | call (f : Nat)
  | ccall
  deriving Inhabited

def D.asInt : D → Option Int
  | .v (.int _ n) => some n
  | _ => none
def D.asBool : D → Option Bool
  | .v (.bool b) => some b
  | _ => none
/-- What a slice's elements are. -/
def D.elems (m : Mem) : D → Option (List (List D))
  | .list es => some es
  | .nil | .mt => some []
  | .sl t size off len _ => match m t with
    | some (.row _ _ es) => if off + len ≤ es.length ∧ es.all (fun c => c.length == size) = true then some ((es.drop off).take len) else none
    | some (.box xs) => if size = 1 ∧ off + len ≤ xs.length then some (((xs.drop off).take len).map fun d => [d]) else none
    | _ => none
  | _ => none
def D.lenD : D → Option Nat
  | .list es => some es.length
  | .nil | .mt => some 0
  | .sl _ _ _ len _ => some len
  | _ => none

abbrev bv (b : Bool) : D := .v (.bool b)
abbrev iv (n : Int) : D := .v (.int .i64 n)

def ibinV (op : BinOp) (k : IntKind) (a b : Int) : Option D :=
  match op with
  | .add => some (.v (.int k (k.wrap (a + b))))
  | .sub => some (.v (.int k (k.wrap (a - b))))
  | .mul => some (.v (.int k (k.wrap (a * b))))
  | .quo => if b = 0 then none else some (.v (.int k (k.wrap (a.tdiv b))))
  | .rem => if b = 0 then none else some (.v (.int k (a.tmod b)))
  | .eql => some (bv (a == b))
  | .neq => some (bv (a != b))
  | .lss => some (bv (decide (a < b)))
  | .leq => some (bv (decide (a ≤ b)))
  | .gtr => some (bv (decide (a > b)))
  | .geq => some (bv (decide (a ≥ b)))
  | .and | .or | .xor | .andNot => some (.v (.int k (bits op k a b)))
  | _ => none

def ishiftV (op : BinOp) (k : IntKind) (a b : Int) : Option D :=
  if b < 0 then none else
  match op with
  | .shl => some (.v (.int k (k.wrap (a * 2 ^ (min b.toNat k.bits)))))
  | .shr => some (.v (.int k (a.fdiv (2 ^ (min b.toNat k.bits)))))
  | _ => none

/-- No memory behind it. -/
def D.flatC : D → Bool
  | .v _ => true
  | _ => false
def D.flat : D → Bool
  | .agg xs => xs.all D.flatC
  | .tup xs => xs.all fun d => match d with
    | .agg ys => ys.all D.flatC
    | d => d.flatC
  | d => d.flatC
/-- No token in it. -/
def D.noTC : D → Bool
  | .v _ | .nil | .mt | .list _ | .lptr _ | .nilmap => true
  | _ => false
def D.noT : D → Bool
  | .agg xs => xs.all D.noTC
  | .clo _ xs => xs.all D.noTC
  | .tup xs => xs.all fun d => match d with
    | .agg ys => ys.all D.noTC
    | d => d.noTC
  | d => d.noTC

/-- A datum as one that is handed to a function: with what stands behind its tokens. -/
def viewRow (f : D → Option D) (c : List D) : Option (List D) := if c.all D.flatC then some c else c.mapM f
def viewRows (f : D → Option D) (es : List (List D)) : Option (List (List D)) := if es.all (fun c => c.all D.flatC) then some es else es.mapM (viewRow f)
def viewC (m : Mem) : Nat → D → Option D
  | 0, _ => none
  | n + 1, d => match d with
    | .v x => some (.v x)
    | .nil | .mt => some (.list [])
    | .list es => some (.list es)
    | .lptr xs => some (.lptr xs)
    | .nilmap => some .nilmap
    | .sl t size off len lim => ((D.sl t size off len lim).elems m).bind fun es => (viewRows (viewC m n) es).map .list
    | .ptr t off => match m t with
      | some (.box xs) => if off ≤ xs.length then (viewRow (viewC m n) (xs.drop off)).map .lptr else none
      | _ => none
    | .rptr t size i j => match m t with
      | some (.row _ _ es) => (es[i]?).bind fun c => if c.length = size ∧ j ≤ size then (viewRow (viewC m n) (c.drop j)).map .lptr else none
      | _ => none
    | .clo f xs => (viewRow (viewC m n) xs).map (.clo f)
    | _ => none
def viewA (m : Mem) : D → Option D
  | .agg xs => (viewRow (viewC m 6) xs).map .agg
  | d => viewC m 6 d

/-- Parts written over cells. -/
def putAt (cells : List D) (off : Nat) (xs : List D) : List D := cells.take off ++ xs ++ cells.drop (off + xs.length)
def D.cells : D → List D
  | .agg xs => xs
  | d => [d]
def fillV : List D → List (Nat × Nat) → List D → Option (List D)
  | cells, [], [] => some cells
  | cells, (off, n) :: ps, d :: ds => if d.cells.length = n ∧ off + n ≤ cells.length then fillV (putAt cells off d.cells) ps ds else none
  | _, _, _ => none

def chop (size : Nat) : Nat → List D → List (List D)
  | 0, _ => []
  | n + 1, l => l.take size :: chop size n (l.drop size)

/-- A bound for what may be made: far below what the model bears. -/
def maxMade : Nat := 1048576

/-- What is known of functions: those whose results are no memory of their own; those that hand back memory; those that are handed memory. -/
structure Env where
  p : Nat → List D → Option D
  q : Nat → List D → Option (D × Mem)
  m : Nat → Mem → List D → Option (D × Mem)

section
variable (Γ : Env) (m : Mem)

def callV (f : Nat) (ds : List D) : Option D :=
  (ds.mapM (viewA m)).bind fun as => (Γ.p f as).bind fun d => if d.flat || ds.all D.noT && d.noT then some d else none

def mvV : List D → Option D | [d] => some d | _ => none
def pickV : List D → Option D | [c, a, b] => c.asBool.bind fun x => some (bif x then a else b) | _ => none
def binV (op : BinOp) : List D → Option D | [.v (.int k a), .v (.int k' b)] => if k = k' then ibinV op k a b else none | _ => none
def shiftV (op : BinOp) : List D → Option D | [.v (.int k a), .v (.int _ b)] => ishiftV op k a b | _ => none
def beqV (neg : Bool) : List D → Option D | [.v (.bool a), .v (.bool b)] => some (bv (if neg then !(a == b) else a == b)) | _ => none
def seqV (neg : Bool) : List D → Option D | [.v (.string a), .v (.string b)] => some (bv (if neg then !(a.toList == b.toList) else a.toList == b.toList)) | _ => none
def notV : List D → Option D | [.v (.bool a)] => some (bv (!a)) | _ => none
def negV : List D → Option D | [.v (.int k a)] => some (.v (.int k (k.wrap (0 - a)))) | _ => none
def lenV : List D → Option D | [d] => d.lenD.bind fun n => some (iv n) | _ => none
def slenV : List D → Option D | [.v (.string a)] => some (iv a.size) | _ => none
def loadV (n : Nat) (agg : Bool) : List D → Option D
  | [.lptr xs] => if n ≤ xs.length then (if agg then some (.agg (xs.take n)) else xs[0]?) else none
  | [.ptr t off] => match m t with
    | some (.box xs) => if off + n ≤ xs.length then (if agg then some (.agg ((xs.drop off).take n)) else xs[off]?) else none
    | _ => none
  | [.rptr t size i j] => match m t with
    | some (.row _ _ es) => (es[i]?).bind fun c => if c.length = size ∧ j + n ≤ size then (if agg then some (.agg ((c.drop j).take n)) else c[j]?) else none
    | _ => none
  | _ => none
def fldV (off : Nat) : List D → Option D
  | [.lptr xs] => some (.lptr (xs.drop off))
  | [.ptr t o] => some (.ptr t (o + off))
  | [.rptr t size i j] => some (.rptr t size i (j + off))
  | _ => none
def idxV (e size : Nat) : List D → Option D
  | [.list es, .v (.int _ n)] => if n < 0 then none else (es[n.toNat]?).bind fun c => if c.length = size then some (.lptr c) else none
  | [.sl t size' off len _, .v (.int _ n)] => if n < 0 then none else if size' = size ∧ n.toNat < len then some (.rptr t size (off + n.toNat) 0) else none
  | _ => none
def aidxV (n size : Nat) : List D → Option D
  | [.lptr xs, .v (.int _ i)] => if 0 ≤ i ∧ i < n then some (.lptr (xs.drop (i.toNat * size))) else none
  | [.ptr t o, .v (.int _ i)] => if 0 ≤ i ∧ i < n then some (.ptr t (o + i.toNat * size)) else none
  | [.rptr t sz k j, .v (.int _ i)] => if 0 ≤ i ∧ i < n then some (.rptr t sz k (j + i.toNat * size)) else none
  | _ => none
def extV (k : Nat) : List D → Option D | [.tup xs] => xs[k]? | _ => none
def convV (k : IntKind) : List D → Option D | [.v (.int _ a)] => some (.v (.int k (k.wrap a))) | _ => none
def afldV (off n : Nat) (agg : Bool) : List D → Option D
  | [.agg xs] => if off + n ≤ xs.length then (if agg then some (.agg ((xs.drop off).take n)) else xs[off]?) else none
  | _ => none
def buildV (zero : List D) (places : List (Nat × Nat)) (ds : List D) : Option D := if ds.all (fun d => d.cells.all D.okC) then (fillV zero places ds).map .agg else none
def D.isDef : D → Bool
  | .undef => false
  | _ => true
def cloV (f : Nat) (ds : List D) : Option D := if ds.all D.isDef then some (.clo f ds) else none
def mx2V (mx : Bool) : List D → Option D | [.v (.int k a), .v (.int _ b)] => some (.v (.int k (if mx then (if b > a then b else a) else (if b < a then b else a)))) | _ => none
def mx3V (mx : Bool) : List D → Option D
  | [.v (.int k a), .v (.int _ b), .v (.int _ c)] => some (.v (.int k (if mx then (if c > (if b > a then b else a) then c else (if b > a then b else a)) else (if c < (if b < a then b else a) then c else (if b < a then b else a)))))
  | _ => none
def aixV (n size : Nat) (agg : Bool) : List D → Option D
  | [.agg xs, .v (.int _ i)] => if 0 ≤ i ∧ i < n ∧ i.toNat * size + size ≤ xs.length then (if agg then some (.agg ((xs.drop (i.toNat * size)).take size)) else xs[i.toNat * size]?) else none
  | _ => none
/-- Cells of plain kinds: 0 to 7 the integers, 8 bool, 9 string. -/
def kindNo : IntKind → Nat
  | .i8 => 0 | .i16 => 1 | .i32 => 2 | .i64 => 3 | .u8 => 4 | .u16 => 5 | .u32 => 6 | .u64 => 7
def eqCells : List Nat → List D → List D → Option Bool
  | [], [], [] => some true
  | n :: ks, .v (.int k a) :: xs, .v (.int k' b) :: ys => if n = kindNo k ∧ n = kindNo k' then (eqCells ks xs ys).map fun r => (a == b) && r else none
  | 8 :: ks, .v (.bool a) :: xs, .v (.bool b) :: ys => (eqCells ks xs ys).map fun r => (a == b) && r
  | 9 :: ks, .v (.string a) :: xs, .v (.string b) :: ys => (eqCells ks xs ys).map fun r => (a.toList == b.toList) && r
  | _, _, _ => none
def aeqV (neg : Bool) (ks : List Nat) : List D → Option D
  | [.agg xs, .agg ys] => (eqCells ks xs ys).map fun r => bv (if neg then !r else r)
  | _ => none
def snilV (neg : Bool) : List D → Option D
  | [d, .nil] => match d with
    | .nil => some (bv (!neg))
    | .mt => some (bv neg)
    | .list (_ :: _) => some (bv neg)
    | .sl .. => some (bv neg)
    | _ => none
  | _ => none
def chkV : List D → Option D
  | [.ptr t o] => some (.ptr t o)
  | [.rptr t size i j] => some (.rptr t size i j)
  | [.lptr xs] => some (.lptr xs)
  | [.clo f cs] => some (.clo f cs)
  | _ => none
/-- 'x[lo:hi:mx]' -/
def cutV (es : List (List D)) (lo hi : Int) : Option D :=
  if 0 ≤ lo ∧ lo ≤ hi ∧ hi ≤ es.length then some (.list ((es.drop lo.toNat).take (hi.toNat - lo.toNat))) else none
def intsV : List D → Option (List Int)
  | [] => some []
  | .v (.int _ n) :: r => (intsV r).map (n :: ·)
  | _ => none
/-- The bounds of a cut of so many elements. -/
def boundsV (n : Nat) (lo hi mx : Bool) (l : List Int) : Option (Int × Int × Option Int) :=
  match lo, hi, mx, l with
  | false, false, false, [] => some (0, n, none)
  | true, false, false, [a] => some (a, n, none)
  | false, true, false, [b] => some (0, b, none)
  | true, true, false, [a, b] => some (a, b, none)
  | false, true, true, [b, c] => some (0, b, some c)
  | true, true, true, [a, b, c] => some (a, b, some c)
  | _, _, _, _ => none
/-- There is room for so many elements. -/
def roomV (t : Tok) (off : Nat) (lim : Option Nat) (h : Int) : Bool :=
  match lim, m t with
  | none, some (.row _ _ es) => decide ((off : Int) + h ≤ es.length)
  | _, _ => false
def slcV (size : Nat) (lo hi mx : Bool) : List D → Option D
  | .sl t size' off len lim :: r => (intsV r).bind fun l => (boundsV len lo hi mx l).bind fun q =>
    if 0 ≤ q.1 ∧ q.1 ≤ q.2.1 ∧ (q.2.1 ≤ len ∨ roomV m t off lim q.2.1 = true) ∧ size' = size then
      match q.2.2 with
      | none => some (.sl t size (off + q.1.toNat) (q.2.1.toNat - q.1.toNat) (lim.map (· - q.1.toNat)))
      | some c => if q.2.1 ≤ c ∧ c ≤ len then some (.sl t size (off + q.1.toNat) (q.2.1.toNat - q.1.toNat) (some (c.toNat - q.1.toNat))) else none
    else none
  | d :: r => (match d with | .list es => some es | .mt => some [] | .nil => some [] | _ => none).bind fun es =>
    if es.all (fun c => c.length == size) = false then none else (intsV r).bind fun l => (boundsV es.length lo hi mx l).bind fun q =>
      match q.2.2 with
      | none => cutV es q.1 q.2.1
      | some c => if q.2.1 ≤ c ∧ c ≤ es.length then cutV es q.1 q.2.1 else none
  | _ => none
/-- 'a[lo:hi]' of a variable that is an array of single cells. -/
def slaV (n : Nat) (lo hi : Bool) : List D → Option D
  | .ptr t off :: r => (intsV r).bind fun l => (boundsV n lo hi false l).bind fun q =>
    if 0 ≤ q.1 ∧ q.1 ≤ q.2.1 ∧ q.2.1 ≤ n then some (.sl t 1 (off + q.1.toNat) (q.2.1.toNat - q.1.toNat) (some (n - q.1.toNat))) else none
  | _ => none
/-- What may stand in a map. -/
def D.okM : D → Bool
  | .tup _ | .undef | .clo .. => false
  | .agg xs => xs.all D.okC
  | _ => true
/-- Keys: '99' ahead of the kinds says that they are structs. -/
def eqKey : List Nat → D → D → Option Bool
  | 99 :: ks, .agg xs, .agg ys => eqCells ks xs ys
  | [n], x, y => eqCells [n] [x] [y]
  | _, _, _ => none
/-- Where a key is. -/
def findV (ks : List Nat) (k : D) : List (D × D) → Nat → Option (Option Nat)
  | [], _ => some none
  | p :: r, i => (eqKey ks k p.1).bind fun b => if b then some (some i) else findV ks k r (i + 1)
def lkpV (ks : List Nat) (zero : D) (ok : Bool) : List D → Option D
  | [.mp t, k] => match m t with
    | some (.map es) => if k.okM = true then (findV ks k es 0).bind fun r => match r with
      | none => some (if ok then .tup [zero, bv false] else zero)
      | some i => (es[i]?).map fun p => if ok then .tup [p.2, bv true] else p.2
      else none
    | _ => none
  | _ => none
def entV : List D → Option D
  | [.ptr t 0] => match m t with
    | some (.iter u n seen) => match m u with
      | some (.map es) => if es.length = n then (seen.getLast?).bind fun i => (es[i]?).map fun p => .tup [p.1, p.2] else none
      | _ => none
    | _ => none
  | _ => none
def ccallV : List D → Option D | .clo f caps :: ds => callV Γ m f (ds ++ caps) | _ => none

def PK.run : PK → List D → Option D
  | .mv => mvV
  | .pick => pickV
  | .ibin op => binV op
  | .ishift op => shiftV op
  | .beq neg => beqV neg
  | .seq neg => seqV neg
  | .inot => notV
  | .ineg => negV
  | .llen => lenV
  | .slen => slenV
  | .load n agg => loadV m n agg
  | .fld off => fldV off
  | .idx e size => idxV e size
  | .aidx n size => aidxV n size
  | .ext k => extV k
  | .conv k => convV k
  | .afld off n agg => afldV off n agg
  | .build zero places => buildV zero places
  | .clo f => cloV f
  | .mx2 mx => mx2V mx
  | .mx3 mx => mx3V mx
  | .aix n size agg => aixV n size agg
  | .aeq neg ks => aeqV neg ks
  | .snil neg => snilV neg
  | .chk => chkV
  | .slc size lo hi mx => slcV m size lo hi mx
  | .sla n lo hi => slaV n lo hi
  | .lkp ks zero ok => lkpV m ks zero ok
  | .ent => entV m
  | .call f => callV Γ m f
  | .ccall => ccallV Γ m
  | .sop _ => fun _ => none
end


def isAggT (P : Program) (t : Nat) : Option Bool :=
  match P.underlying t with
  | some (.struct _) | some (.array _ _) => some true
  | some _ => some false
  | none => none

def fieldOff (P : Program) (t f : Nat) : Option (Nat × Nat × Bool) :=
  match P.underlying t with
  | some (.struct fs) => (fs[f]?).bind fun x => (isAggT P x.type).bind fun g => if P.cellsOf x.type = 0 then none else some (x.offset, P.cellsOf x.type, g)
  | _ => none

/-- A value of the text as a datum. -/
def dVal : Value → Option D
  | .slice none 0 0 => some .nil
  | .bool b => some (.v (.bool b))
  | .int k n => some (.v (.int k n))
  | .string s => some (.v (.string s))
  | .nilIface => some (.v .nilIface)
  | .nilFunc => some (.v .nilFunc)
  | .pointer none => some (.v (.pointer none))
  | .map none => some .nilmap
  | _ => none
def dZero (P : Program) (t : Nat) : Option (List D) := ((P.info? t).bind (·.zero)).bind fun z => z.cells.toList.mapM dVal

def dBuild (P : Program) (t : Nat) (idx : List Nat) : Option (List D × List (Nat × Nat)) :=
  (dZero P t).bind fun z => match P.underlying t with
  | some (.struct fs) => (fs.toList.mapM (fun f => (P.info? f.type).map fun i => (f.offset, i.size))).bind fun pl => (idx.mapM (fun i => pl.toArray[i]?)).map fun ps => (z, ps)
  | some (.array _ e) => (P.info? e).map fun i => (z, idx.map (fun k => (k * i.size, i.size)))
  | _ => none
def dBslice (P : Program) (t len : Nat) (idx : List Nat) : Option (Nat × Nat × List D × List (Nat × Nat)) :=
  match P.underlying t with
  | some (.slice e) => (P.info? e).bind fun i => if len * i.size ≤ 65536 ∧ 0 < i.size then
      (dZero P e).bind fun z => if z.length = i.size then
        some (e, i.size, (List.range (len * i.size)).map fun j => z.getD (j % i.size) .undef, idx.map fun k => (k * i.size, i.size)) else none
    else none
  | _ => none
/-- A type's zero as one datum. -/
def dZeroD (P : Program) (t : Nat) : Option D :=
  ((P.info? t).bind (·.zero)).bind fun z => match z with
    | .agg cs => (cs.toList.mapM dVal).map .agg
    | v => dVal v
/-- The kinds of the cells of a struct of plain parts. -/
def kindOf1 (P : Program) (t : Nat) : Option Nat :=
  match P.underlying t with
  | some (.int k) => some (kindNo k)
  | some .bool => some 8
  | some .string => some 9
  | _ => none
def kindsOfFs (P : Program) : Nat → List Field → Option (List Nat)
  | _, [] => some []
  | i, f :: fs => if f.name ≠ "_" ∧ f.offset = i then (kindOf1 P f.type).bind fun k => (kindsOfFs P (i + 1) fs).map (k :: ·) else none
def kindsOf (P : Program) (t : Nat) : Option (List Nat) :=
  match P.underlying t with
  | some (.struct fs) => if P.stoodInHeld t then none else kindsOfFs P 0 fs.toList
  | _ => none
/-- The kinds of a map's key. -/
def dKey (P : Program) (t : Nat) : Option (List Nat × Nat) :=
  match P.underlying t with
  | some (.map k e) => (kindOf1 P k).map fun n => ([n], e)
  | _ => none
def dAeq (P : Program) (op : BinOp) (t : Nat) : Option PK :=
  if P.eqGuardType P.depth t then none else
  match op with
  | .eql => (kindsOf P t).map (.aeq false)
  | .neq => (kindsOf P t).map (.aeq true)
  | _ => none
def dSnil (P : Program) (op : BinOp) (t : Nat) : Option PK :=
  match P.underlying t, op with
  | some (.slice _), .eql => some (.snil false)
  | some (.slice _), .neq => some (.snil true)
  | _, _ => none
def dAix (P : Program) (t : Nat) : Option PK :=
  match P.underlying t with
  | some (.array n e) => (isAggT P e).bind fun g => if (P.info? e).isSome ∧ (g = true ∨ P.cellsOf e = 1) then some (.aix n (P.cellsOf e) g) else none
  | _ => none
def dSlc (P : Program) (t : Nat) (x : Operand) (lo hi mx : Option Operand) : Option (PK × List Operand) :=
  match P.underlying t with
  | some (.array n e) => if (P.info? e).isSome ∧ P.cellsOf e = 1 ∧ mx.isSome = false then some (.sla n lo.isSome hi.isSome, x :: (lo.toList ++ hi.toList)) else none
  | some (.slice e) => if (P.info? e).isSome then some (.slc (P.cellsOf e) lo.isSome hi.isSome mx.isSome, x :: (lo.toList ++ hi.toList ++ mx.toList)) else none
  | _ => none

def dBin (P : Program) (op : BinOp) (t : Nat) : Option PK :=
  match P.underlying t with
  | some (.int _) => match op with
    | .shl | .shr => some (.ishift op)
    | _ => some (.ibin op)
  | some .bool => match op with
    | .eql => some (.beq false)
    | .neq => some (.beq true)
    | _ => none
  | some .string => match op with
    | .eql => some (.seq false)
    | .neq => some (.seq true)
    | _ => none
  | _ => none
def dIdx (P : Program) (t : Nat) : Option PK :=
  match P.underlying t with
  | some (.slice e) => if (P.info? e).isSome then some (.idx e (P.cellsOf e)) else none
  | some (.array n e) => if (P.info? e).isSome then some (.aidx n (P.cellsOf e)) else none
  | _ => none
def dUn : UnOp → Option PK
  | .not => some .inot
  | .neg => some .ineg
  | _ => none
def dConv (P : Program) (src dst : Nat) : Option PK :=
  match P.underlying src, P.underlying dst with
  | some (.int _), some (.int k) => some (.conv k)
  | _, _ => none
def dLoad (P : Program) (t : Nat) : Option PK :=
  (isAggT P t).bind fun g => if (P.info? t).isSome ∧ (g = true ∨ P.cellsOf t = 1) then some (.load (P.cellsOf t) g) else none
def dBuiltin (P : Program) (b : Builtin) (ts : List Nat) (n : Nat) : Option PK :=
  match b, ts, n with
  | .len, [t], 1 => match P.underlying t with
    | some (.slice _) => some .llen
    | some .string => some .slen
    | _ => none
  | .max, _, 2 => some (.mx2 true)
  | .min, _, 2 => some (.mx2 false)
  | .max, _, 3 => some (.mx3 true)
  | .min, _, 3 => some (.mx3 false)
  | _, _, _ => none
def dCall (P : Program) (fr : Nat → Nat) (c : Call) : Option (PK × List Operand) :=
  match c.callee with
  | .builtin b => (dBuiltin P b c.argTypes.toList c.args.size).map fun k => (k, c.args.toList)
  | .value (.func f) => if fr f = 0 then some (.call f, c.args.toList) else none
  | .value (.tmp t) => some (.ccall, .tmp t :: c.args.toList)
  | _ => none
def dPure (P : Program) (fr : Nat → Nat) : Op → Option (PK × List Operand)
  | .move x => some (.mv, [x])
  | .assign x => some (.mv, [x])
  | .pick c a b => some (.pick, [c, a, b])
  | .load t a => (dLoad P t).map fun k => (k, [a])
  | .fieldAddr t x f => (fieldOff P t f).map fun q => (.fld q.1, [x])
  | .indexAddr t x i => (dIdx P t).map fun k => (k, [x, i])
  | .binOp op t x y _ => (((dBin P op t).or (dSnil P op t)).or (dAeq P op t)).map fun k => (k, [x, y])
  | .unOp op _ x => (dUn op).map fun k => (k, [x])
  | .convert src dst x => (dConv P src dst).map fun k => (k, [x])
  | .extract t k => some (.ext k, [t])
  | .call c => dCall P fr c
  | .build t parts => (dBuild P t (parts.toList.map (·.1))).map fun q => (.build q.1 q.2, parts.toList.map (·.2))
  | .makeFunc (.func f) first captured => if first.size = 0 then some (.clo f, captured.toList) else none
  | .nilCheck x => some (.chk, [x])
  | .index t x i => (dAix P t).map fun k => (k, [x, i])
  | .field t x f => (fieldOff P t f).bind fun q => if q.2.2 = true ∨ q.2.1 = 1 then some (.afld q.1 q.2.1 q.2.2, [x]) else none
  | .slice t x lo hi mx => dSlc P t x lo hi mx
  | .lookup t x k ok => (dKey P t).bind fun q => (dZeroD P q.2).map fun z => (.lkp q.1 z ok, [x, k])
  | .entry x => some (.ent, [x])
  | _ => none

def isMv : Op → Bool
  | .assign _ => true
  | _ => false
end Go.Proofs.Ytpmgaaalfdjikaa
