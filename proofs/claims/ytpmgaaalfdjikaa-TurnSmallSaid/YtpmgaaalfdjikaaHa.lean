/- The H semantics: data, objects, states, and how they stand to the model's worlds. Plain definitions and lemmas; no condition. -/
import Derived.WalkKit
import Derived.WalkSpells
import Derived.WalkLawsBesides
namespace Go.Proofs.Ytpmgaaalfdjikaa
open Go.RowKit

abbrev Tok := List Nat

inductive D where
  | undef
  | v (x : Value)
  | nil
  | mt
  | list (es : List (List D))
  | agg (xs : List D)
  | tup (xs : List D)
  | lptr (xs : List D)
  | clo (f : Nat) (caps : List D)
  | sl (t : Tok) (size off len : Nat) (lim : Option Nat)
  | ptr (t : Tok) (off : Nat)
  | rptr (t : Tok) (size i j : Nat)
  | mp (t : Tok)
  | nilmap
  deriving Inhabited

inductive HO where
  | box (xs : List D)
  | row (g : Tok) (e : Nat) (es : List (List D))
  | map (es : List (D × D))
  | iter (t : Tok) (n : Nat) (seen : List Nat)
  deriving Inhabited

def HO.grp : HO → Option Tok
  | .row g _ _ => some g
  | _ => none

abbrev Mem := Tok → Option HO

structure St where
  s : Nat → D
  m : Mem
  c : Nat → Nat

def St.set (σ : St) (i : Nat) (d : D) : St := ⟨fun j => if j = i then d else σ.s j, σ.m, σ.c⟩
def St.put (σ : St) (t : Tok) (o : Option HO) : St := ⟨σ.s, fun τ => if τ = t then o else σ.m τ, σ.c⟩
def St.inc (σ : St) (x : Nat) : St := ⟨σ.s, σ.m, fun y => if y = x then σ.c y + 1 else σ.c y⟩
/-- Those of a group that are longer than k are struck out. -/
def HO.struck (g : Tok) (k : Nat) : Option HO → Option HO
  | some (.row g' e es) => if g' = g ∧ k < es.length then none else some (.row g' e es)
  | o => o
def St.strike (σ : St) (g : Tok) (k : Nat) : St := ⟨σ.s, fun τ => HO.struck g k (σ.m τ), σ.c⟩
/-- The token that a step at slot x makes. -/
def St.tok (σ : St) (x : Nat) : Tok := [x + 1, σ.c x]
/-- .. and makes it stand for an object. -/
def St.new (σ : St) (x : Nat) (o : HO) (d : D) : St := ((σ.put (σ.tok x) (some o)).set x d).inc x

@[simp] theorem St.set_m (σ : St) (i : Nat) (d : D) : (σ.set i d).m = σ.m := rfl
@[simp] theorem St.set_c (σ : St) (i : Nat) (d : D) : (σ.set i d).c = σ.c := rfl
@[simp] theorem St.put_s (σ : St) (t : Tok) (o : Option HO) : (σ.put t o).s = σ.s := rfl
@[simp] theorem St.put_c (σ : St) (t : Tok) (o : Option HO) : (σ.put t o).c = σ.c := rfl
@[simp] theorem St.inc_s (σ : St) (x : Nat) : (σ.inc x).s = σ.s := rfl
@[simp] theorem St.inc_m (σ : St) (x : Nat) : (σ.inc x).m = σ.m := rfl
@[simp] theorem St.strike_s (σ : St) (g : Tok) (k : Nat) : (σ.strike g k).s = σ.s := rfl
@[simp] theorem St.strike_c (σ : St) (g : Tok) (k : Nat) : (σ.strike g k).c = σ.c := rfl
theorem St.set_same (σ : St) (i : Nat) (d : D) : (σ.set i d).s i = d := by simp [St.set]
theorem St.set_ne (σ : St) {i j : Nat} (d : D) (h : j ≠ i) : (σ.set i d).s j = σ.s j := by simp [St.set, h]

def plainV : Value → Bool
  | .bool _ | .int _ _ | .string _ | .nilIface | .nilFunc | .pointer none => true
  | _ => false

theorem plainV_oneCell {x : Value} (h : plainV x = true) : x.oneCell' = true := by
  cases x <;> simp_all [plainV, Value.oneCell']

/-- Which cells a datum may lean on. -/
abbrev Prot := Nat → Nat → Prop
/-- Where a token lies: its block, and how many elements it has room for. -/
abbrev Places := Tok → Option (Nat × Nat)

abbrev noTok : Places := fun _ => none

inductive Rep (w : World) (pr : Prot) : Places → Value → D → Prop
  | undef {tk : Places} {v : Value} : Rep w pr tk v .undef
  | v {tk : Places} {x : Value} (h : plainV x = true) : Rep w pr tk x (.v x)
  | nil {tk : Places} : Rep w pr tk (.slice none 0 0) .nil
  | nil' {tk : Places} : Rep w pr tk (.slice none 0 0) (.list [])
  | mt {tk : Places} {a : Addr} {cap : Nat} : Rep w pr tk (.slice (some a) 0 cap) .mt
  | emp {tk : Places} {a : Addr} {cap : Nat} : Rep w pr tk (.slice (some a) 0 cap) (.list [])
  | list {tk : Places} {b off cap size : Nat} {es : List (List D)} (us : Nat → Value) (hes : ∀ e ∈ es, e.length = size) (hcap : es.length ≤ cap)
      (hc : ∀ j, j < es.length * size → w.cell? ⟨b, off + j, none⟩ = some (us j) ∧ pr b (off + j) ∧ (us j).oneCell' = true)
      (hr : ∀ (i : Nat) (e : List D), es[i]? = some e → ∀ (j : Nat) (d : D), e[j]? = some d → Rep w pr noTok (us (i * size + j)) d) :
      Rep w pr tk (.slice (some ⟨b, off, none⟩) es.length cap) (.list es)
  | agg {tk : Places} {cs : Array Value} {xs : List D} (hs : cs.size = xs.length) (h1 : ∀ (i : Nat) (c : Value), cs[i]? = some c → c.oneCell' = true)
      (hr : ∀ (i : Nat) (c : Value) (x : D), cs[i]? = some c → xs[i]? = some x → Rep w pr tk c x) : Rep w pr tk (.agg cs) (.agg xs)
  | tup {tk : Places} {cs : Array Value} {xs : List D} (hs : cs.size = xs.length)
      (hr : ∀ (i : Nat) (c : Value) (x : D), cs[i]? = some c → xs[i]? = some x → Rep w pr tk c x) : Rep w pr tk (.tuple cs) (.tup xs)
  | lptr {tk : Places} {b off : Nat} {xs : List D} (us : Nat → Value)
      (hc : ∀ j, j < xs.length → w.cell? ⟨b, off + j, none⟩ = some (us j) ∧ pr b (off + j) ∧ (us j).oneCell' = true)
      (hr : ∀ (j : Nat) (d : D), xs[j]? = some d → Rep w pr noTok (us j) d) : Rep w pr tk (.pointer (some ⟨b, off, none⟩)) (.lptr xs)
  | clo {tk : Places} {f : Nat} {cv : Array Value} {caps : List D} (hs : cv.size = caps.length)
      (hr : ∀ (i : Nat) (c : Value) (x : D), cv[i]? = some c → caps[i]? = some x → Rep w pr tk c x) : Rep w pr tk (.func (.func f) #[] cv) (.clo f caps)
  | sl {tk : Places} {t : Tok} {b cap size off len c o : Nat} {lim : Option Nat} (ht : tk t = some (b, cap)) (hc : c = lim.getD (cap - off)) (hl : len ≤ c) (ho : o = off * size ∨ (c = 0 ∧ 0 < off)) :
      Rep w pr tk (.slice (some ⟨b, o, none⟩) len c) (.sl t size off len lim)
  | ptr {tk : Places} {t : Tok} {b cap off : Nat} (ht : tk t = some (b, cap)) : Rep w pr tk (.pointer (some ⟨b, off, none⟩)) (.ptr t off)
  | rptr {tk : Places} {t : Tok} {b cap size i j : Nat} (ht : tk t = some (b, cap)) : Rep w pr tk (.pointer (some ⟨b, i * size + j, none⟩)) (.rptr t size i j)
  | mp {tk : Places} {t : Tok} {b cap : Nat} (ht : tk t = some (b, cap)) : Rep w pr tk (.map (some b)) (.mp t)
  | nilmap {tk : Places} : Rep w pr tk (.map none) .nilmap

/-- What a step leaves: the cells that data lean on, and where tokens lie. -/
structure Keeps (w w' : World) (pr pr' : Prot) (tk tk' : Places) : Prop where
  cell : ∀ b o, pr b o → w'.cell? ⟨b, o, none⟩ = w.cell? ⟨b, o, none⟩ ∧ pr' b o
  tok : ∀ t p, tk t = some p → tk' t = some p

theorem Keeps.refl (w : World) (pr : Prot) (tk : Places) : Keeps w w pr pr tk tk := ⟨fun _ _ h => ⟨rfl, h⟩, fun _ _ h => h⟩

theorem Rep.keeps {w w' : World} {pr pr' : Prot} {tk tk' : Places} {v : Value} {d : D} (h : Rep w pr tk v d) (K : Keeps w w' pr pr' tk tk') : Rep w' pr' tk' v d := by
  have hc := K.cell
  have ht := K.tok
  clear K
  induction h generalizing tk' with
  | undef => exact .undef
  | v h => exact .v h
  | nil => exact .nil
  | nil' => exact .nil'
  | mt => exact .mt
  | emp => exact .emp
  | list us hes hcap hcell hr ih =>
    exact .list us hes hcap (fun j hj => let ⟨h1, h2, h3⟩ := hcell j hj; ⟨(hc _ _ h2).1.trans h1, (hc _ _ h2).2, h3⟩) (fun i e he j d hd => ih i e he j d hd (fun _ _ h => h))
  | agg hs h1 hr ih => exact .agg hs h1 (fun i c x h1 h2 => ih i c x h1 h2 ht)
  | tup hs hr ih => exact .tup hs (fun i c x h1 h2 => ih i c x h1 h2 ht)
  | lptr us hcell hr ih =>
    exact .lptr us (fun j hj => let ⟨h1, h2, h3⟩ := hcell j hj; ⟨(hc _ _ h2).1.trans h1, (hc _ _ h2).2, h3⟩) (fun j d hd => ih j d hd (fun _ _ h => h))
  | clo hs hr ih => exact .clo hs (fun i c x h1 h2 => ih i c x h1 h2 ht)
  | sl h hc' hl ho => exact .sl (ht _ _ h) hc' hl ho
  | ptr h => exact .ptr (ht _ _ h)
  | rptr h => exact .rptr (ht _ _ h)
  | mp h => exact .mp (ht _ _ h)
  | nilmap => exact .nilmap

/-- What may stand in a cell. -/
def D.okC : D → Bool
  | .agg _ | .tup _ | .undef => false
  | _ => true

theorem Rep.oneCell {w : World} {pr : Prot} {tk : Places} {v : Value} {d : D} (h : Rep w pr tk v d) (hd : d.okC = true) : v.oneCell' = true := by
  cases h <;> first | rfl | (simp [D.okC] at hd; done) | (rename_i h; exact plainV_oneCell h)

def RepCs (w : World) (pr : Prot) (tk : Places) (cs : Array Value) (xs : List D) : Prop :=
  cs.size = xs.length ∧ (∀ (i : Nat) (c : Value), cs[i]? = some c → c.oneCell' = true) ∧ ∀ (i : Nat) (c : Value) (x : D), cs[i]? = some c → xs[i]? = some x → Rep w pr tk c x

theorem RepCs.keeps {w w' : World} {pr pr' : Prot} {tk tk' : Places} {cs : Array Value} {xs : List D} (h : RepCs w pr tk cs xs) (K : Keeps w w' pr pr' tk tk') : RepCs w' pr' tk' cs xs :=
  ⟨h.1, h.2.1, fun i c x hc hx => (h.2.2 i c x hc hx).keeps K⟩

theorem rep_agg {w : World} {pr : Prot} {tk : Places} {v : Value} {xs : List D} : Rep w pr tk v (.agg xs) ↔ ∃ cs, v = .agg cs ∧ RepCs w pr tk cs xs := by
  constructor
  · intro h; cases h with | agg a b c => exact ⟨_, rfl, a, b, c⟩
  · rintro ⟨cs, rfl, a, b, c⟩; exact .agg a b c

/-- What stands in a row: its cells, from the first one on. -/
def RepRow (P : Program) (w : World) (pr : Prot) (tk : Places) (C : Array Value) (e : Nat) (es : List (List D)) : Prop :=
  (∀ c ∈ es, c.length = P.cellsOf e) ∧ ∀ (i : Nat) (c : List D), es[i]? = some c → ∀ (j : Nat) (d : D), c[j]? = some d → ∃ u, C[i * P.cellsOf e + j]? = some u ∧ u.oneCell' = true ∧ Rep w pr tk u d

theorem RepRow.keeps {P : Program} {w w' : World} {pr pr' : Prot} {tk tk' : Places} {C : Array Value} {e : Nat} {es : List (List D)} (h : RepRow P w pr tk C e es) (K : Keeps w w' pr pr' tk tk') : RepRow P w' pr' tk' C e es :=
  ⟨h.1, fun i c hc j d hd => let ⟨u, h1, h2, h3⟩ := h.2 i c hc j d hd; ⟨u, h1, h2, h3.keeps K⟩⟩

/-- An object's block. -/
def RepO (P : Program) (w : World) (pr : Prot) (tk : Places) (t : Tok) : HO → Prop
  | .box xs => ∃ b cap C ty, tk t = some (b, cap) ∧ w.heap[b]? = some (.cells C ty (0, 0)) ∧ RepCs w pr tk C xs
  | .row _ e es => ∃ b cap C, tk t = some (b, cap) ∧ w.heap[b]? = some (.cells C e (0, 0)) ∧ es.length ≤ cap ∧ cap ≤ maxLen ∧ C.size = cap * P.cellsOf e ∧ RepRow P w pr tk C e es
  | .map es => ∃ b cap ents, tk t = some (b, cap) ∧ w.heap[b]? = some (.map ents es.length) ∧ ents.size = es.length ∧ es.length ≤ maxLen ∧
      ∀ (i : Nat) (en : MapEntry) (p : D × D), ents[i]? = some en → es[i]? = some p → en.born = i ∧ Rep w pr tk en.key p.1 ∧ Rep w pr tk en.val p.2
  | .iter u n seen => ∃ b cap b' cap', tk t = some (b, cap) ∧ tk u = some (b', cap') ∧ w.heap[b]? = some (.mapIter (some b') n seen.toArray n)

theorem RepO.keeps {P : Program} {w w' : World} {pr pr' : Prot} {tk tk' : Places} {t : Tok} {o : HO} (h : RepO P w pr tk t o) (K : Keeps w w' pr pr' tk tk') (hb : ∀ b cap, tk t = some (b, cap) → w'.heap[b]? = w.heap[b]?) : RepO P w' pr' tk' t o := by
  cases o with
  | box xs =>
    obtain ⟨b, cap, C, ty, h1, h2, h3⟩ := h
    exact ⟨b, cap, C, ty, K.tok _ _ h1, (hb b cap h1).trans h2, h3.keeps K⟩
  | row g e es =>
    obtain ⟨b, cap, C, h1, h2, h3, h4, h5, h6⟩ := h
    exact ⟨b, cap, C, K.tok _ _ h1, (hb b cap h1).trans h2, h3, h4, h5, h6.keeps K⟩
  | map es =>
    obtain ⟨b, cap, ents, h1, h2, h3, h4, h5⟩ := h
    exact ⟨b, cap, ents, K.tok _ _ h1, (hb b cap h1).trans h2, h3, h4, fun i en p he hp => let ⟨g1, g2, g3⟩ := h5 i en p he hp; ⟨g1, g2.keeps K, g3.keeps K⟩⟩
  | iter u n seen =>
    obtain ⟨b, cap, b', cap', h1, h2, h3⟩ := h
    exact ⟨b, cap, b', cap', K.tok _ _ h1, K.tok _ _ h2, (hb b cap h1).trans h3⟩

theorem RepO.place {P : Program} {w : World} {pr : Prot} {tk : Places} {t : Tok} {o : HO} (h : RepO P w pr tk t o) : ∃ b cap, tk t = some (b, cap) ∧ b < w.heap.size := by
  have lt : ∀ {b : Nat} {x : Obj}, w.heap[b]? = some x → b < w.heap.size := fun h => (Array.getElem?_eq_some_iff.1 h).1
  cases o with
  | box xs => obtain ⟨b, cap, C, ty, h1, h2, _⟩ := h; exact ⟨b, cap, h1, lt h2⟩
  | row g e es => obtain ⟨b, cap, C, h1, h2, _⟩ := h; exact ⟨b, cap, h1, lt h2⟩
  | map es => obtain ⟨b, cap, ents, h1, h2, _⟩ := h; exact ⟨b, cap, h1, lt h2⟩
  | iter u n seen => obtain ⟨b, cap, b', cap', h1, _, h2⟩ := h; exact ⟨b, cap, h1, lt h2⟩

/-- The memory: each object stands in its block; no two in one, but for those of a group. -/
structure MemOK (P : Program) (w : World) (pr : Prot) (tk : Places) (m : Mem) : Prop where
  obj : ∀ t o, m t = some o → RepO P w pr tk t o
  inj : ∀ t t' o o' b c c', m t = some o → m t' = some o' → tk t = some (b, c) → tk t' = some (b, c') → t = t' ∨ (o.grp.isSome = true ∧ o.grp = o'.grp)

theorem MemOK.keeps {P : Program} {w w' : World} {pr pr' : Prot} {tk tk' : Places} {m : Mem} (M : MemOK P w pr tk m) (K : Keeps w w' pr pr' tk tk') (hb : ∀ t o b c, m t = some o → tk t = some (b, c) → w'.heap[b]? = w.heap[b]?) : MemOK P w' pr' tk' m := by
  refine ⟨fun t o h => (M.obj t o h).keeps K fun b c hc => hb t o b c h hc, fun t t' o o' b c c' h h' ht ht' => ?_⟩
  obtain ⟨b1, c1, h1, _⟩ := (M.obj t o h).place
  obtain ⟨b2, c2, h2, _⟩ := (M.obj t' o' h').place
  have e1 := K.tok _ _ h1
  have e2 := K.tok _ _ h2
  rw [ht] at e1
  rw [ht'] at e2
  cases e1
  cases e2
  exact M.inj t t' o o' b c c' h h' h1 h2

/-- The blocks of a memory. -/
def blocksOf (tk : Places) (m : Mem) (b : Nat) : Prop := ∃ t o c, m t = some o ∧ tk t = some (b, c)

/-- A step of the world: all blocks but those in A are as they were. -/
structure Chg (A : Nat → Prop) (w w' : World) : Prop where
  os : w'.os = w.os
  tape : w'.tape = w.tape
  output : w'.output = w.output
  size : w.heap.size ≤ w'.heap.size
  block : ∀ k, k < w.heap.size → ¬ A k → w'.heap[k]? = w.heap[k]?

theorem Chg.refl (A : Nat → Prop) (w : World) : Chg A w w := ⟨rfl, rfl, rfl, Nat.le_refl _, fun _ _ _ => rfl⟩
theorem Chg.trans {A B : Nat → Prop} {a b c : World} (h : Chg A a b) (k : Chg B b c) (hB : ∀ x, x < a.heap.size → B x → A x) : Chg A a c :=
  ⟨k.os.trans h.os, k.tape.trans h.tape, k.output.trans h.output, Nat.le_trans h.size k.size, fun x hx hA =>
    (k.block x (Nat.lt_of_lt_of_le hx h.size) fun hb => hA (hB x hx hb)).trans (h.block x hx hA)⟩
theorem Chg.mono {A B : Nat → Prop} {a b : World} (h : Chg A a b) (hB : ∀ x, x < a.heap.size → A x → B x) : Chg B a b :=
  ⟨h.os, h.tape, h.output, h.size, fun x hx hb => h.block x hx fun ha => hb (hB x hx ha)⟩
theorem Chg.alloc (A : Nat → Prop) (w : World) (o : Obj) : Chg A w (w.alloc o) :=
  ⟨rfl, rfl, rfl, by simp, fun k hk _ => (Go.MapKept.heap_alloc w o).2 k hk⟩
theorem Chg.of_below {a b : World} {n : Nat} (h : Below n a b) (hn : a.heap.size ≤ n) (A : Nat → Prop) : Chg A a b := ⟨h.os, h.tape, h.output, h.size, fun k hk _ => h.block k (by omega)⟩
theorem Chg.of_grown {a b : World} {row : Option Nat} (h : a.grownBy b row) (A : Nat → Prop) (hA : ∀ k, row = some k → A k) : Chg A a b :=
  ⟨h.os, h.tape, h.output, h.size, fun k hk hn => h.block k hk fun e => hn (hA k e.symm)⟩

theorem Chg.cell {A : Nat → Prop} {w w' : World} (h : Chg A w w') {b : Nat} (o : Nat) (hb : b < w.heap.size) (hA : ¬ A b) : w'.cell? ⟨b, o, none⟩ = w.cell? ⟨b, o, none⟩ := World.cell?_of_block (w := w) (h.block b hb hA)

end Go.Proofs.Ytpmgaaalfdjikaa
