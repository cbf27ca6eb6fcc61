/- The abstract states of this seat's own logic: data as trees, owned blocks by small numbers, and how they stand for values in a world. -/
import Derived.RangeFuncRecord
import Derived.RangeFuncLeaves
import Derived.OrdersIn
import Derived.Laws.Cells
import Derived.Laws.Rows
set_option linter.unusedSimpArgs false
set_option linter.unusedVariables false
namespace Go.Abs
open Go

/-- Data that nobody writes any more. -/
inductive D where
  | int (k : IntKind) (n : Int)
  | bool (b : Bool)
  | sl (rows : List (List D))

/-- What one cell holds. -/
inductive C where
  | any
  | d (x : D)
  | ptr (id off : Nat)
  | nilp
  | dp (ds : List D)
  | full (rows : List (List D))
  | own (id : Nat) (rows : List (List D))
  | ms (id off n cap : Nat)
  | fn (f : Fn) (caps : List C)
  | mp (id : Nat)
  | yd (id : Nat)

/-- What a slot holds. -/
inductive V where
  | c (x : C)
  | agg (cs : List C)
  | tup (vs : List V)

def getS : List (Nat × V) → Nat → V
  | [], _ => .c .any
  | (i, v) :: r, j => if i = j then v else getS r j

/-- The record of a range over a function. -/
structure LR where
  state : LoopState
  pend : Option Code
  slots : List (Nat × V)
  nt : Nat
  ps : Array Tmp
  assign : Code
  body : Code
  D : Nat

/-- An owned block. -/
inductive AB where
  | gone
  | cells (cs : List C)
  | grow (n sz : Nat)
  | mp (es : List (V × V))
  | lp (r : LR)
  | df

structure Gh where
  S : Nat → Nat → Prop
  rho : Nat → Nat
  g : Nat → Option Addr × Nat
  role : Nat → Option Nat

/-- The greatest length of a slice that is spoken of. -/
def lim : Nat := 140737488355328

inductive DRel (w : World) (S : Nat → Nat → Prop) : D → Value → Prop
  | int (k : IntKind) (n : Int) : DRel w S (.int k n) (.int k n)
  | bool (b : Bool) : DRel w S (.bool b) (.bool b)
  | emp (a : Option Addr) (cap : Nat) : DRel w S (.sl []) (.slice a 0 cap)
  | sl (rows : List (List D)) (b o cap sz : Nat) (f : Nat → Nat → Value) (hcap : rows.length ≤ cap) (hlim : rows.length ≤ lim) (hsz : ∀ (i : Nat) (r : List D), rows[i]? = some r → r.length = sz)
      (hcell : ∀ i j, i < rows.length → j < sz → S b (o + i * sz + j) ∧ w.cell? ⟨b, o + i * sz + j, none⟩ = some (f i j))
      (hrel : ∀ (i j : Nat) (r : List D) (x : D), rows[i]? = some r → r[j]? = some x → DRel w S x (f i j)) :
      DRel w S (.sl rows) (.slice (some ⟨b, o, none⟩) rows.length cap)

inductive CRel (w : World) (G : Gh) (H : List AB) : C → Value → Prop
  | any (v : Value) : CRel w G H .any v
  | d (x : D) (v : Value) (h : DRel w G.S x v) : CRel w G H (.d x) v
  | ptr (id off : Nat) (h : id < H.length) : CRel w G H (.ptr id off) (.pointer (some ⟨G.rho id, off, none⟩))
  | nilp : CRel w G H .nilp (.pointer none)
  | dp (ds : List D) (b o : Nat) (f : Nat → Value) (hcell : ∀ j, j < ds.length → G.S b (o + j) ∧ w.cell? ⟨b, o + j, none⟩ = some (f j))
      (hrel : ∀ (j : Nat) (x : D), ds[j]? = some x → DRel w G.S x (f j)) : CRel w G H (.dp ds) (.pointer (some ⟨b, o, none⟩))
  | full (rows : List (List D)) (a : Option Addr) (n : Nat) (hn : n = rows.length) (h : DRel w G.S (.sl rows) (.slice a n n)) : CRel w G H (.full rows) (.slice a n n)
  | own (id : Nat) (rows : List (List D)) (a : Option Addr) (n cap : Nat) (hid : id < H.length) (hn : n = rows.length) (h : DRel w G.S (.sl rows) (.slice a n cap))
      (hg : ∀ m sz, H[id]? = some (.grow m sz) → rows.length ≤ m ∧ (rows.length = m → G.g id = (a, cap))) : CRel w G H (.own id rows) (.slice a n cap)
  | ms (id off n cap : Nat) (h : id < H.length) : CRel w G H (.ms id off n cap) (.slice (some ⟨G.rho id, off, none⟩) n cap)
  | fn (f : Fn) (caps : List C) (arr : Array Value) (hs : arr.size = caps.length) (h : ∀ (i : Nat) (x : C) (v : Value), caps[i]? = some x → arr[i]? = some v → CRel w G H x v) :
      CRel w G H (.fn f caps) (.func f #[] arr)
  | mp (id : Nat) (h : id < H.length) : CRel w G H (.mp id) (.map (some (G.rho id)))
  | yd (id : Nat) (h : id < H.length) : CRel w G H (.yd id) (.func (.yield (G.rho id)) #[] #[])

def CsRel (w : World) (G : Gh) (H : List AB) (cs : List C) (vs : List Value) : Prop :=
  cs.length = vs.length ∧ ∀ (i : Nat) (x : C) (v : Value), cs[i]? = some x → vs[i]? = some v → CRel w G H x v ∧ v.oneCell' = true

inductive VRel (w : World) (G : Gh) (H : List AB) : V → Value → Prop
  | c (x : C) (v : Value) (h : CRel w G H x v) : VRel w G H (.c x) v
  | agg (cs : List C) (arr : Array Value) (h : CsRel w G H cs arr.toList) : VRel w G H (.agg cs) (.agg arr)
  | tup (vs : List V) (arr : Array Value) (hs : arr.size = vs.length) (h : ∀ (i : Nat) (x : V) (v : Value), vs[i]? = some x → arr[i]? = some v → VRel w G H x v) : VRel w G H (.tup vs) (.tuple arr)

def EsRel (w : World) (G : Gh) (H : List AB) (es : List (V × V)) (rs : List MapEntry) : Prop :=
  es.length = rs.length ∧ ∀ (i : Nat) (e : V × V) (r : MapEntry), es[i]? = some e → rs[i]? = some r → VRel w G H e.1 r.key ∧ VRel w G H e.2 r.val

/-- An owned block stands for a block of the heap that nobody else speaks of. -/
inductive ABRel (w : World) (G : Gh) (H : List AB) (id : Nat) : AB → Prop
  | gone : ABRel w G H id .gone
  | cells (cs : List C) (arr : Array Value) (t : TypeId) (hb : w.heap[G.rho id]? = some (.cells arr t (0, 0))) (hr : CsRel w G H cs arr.toList) (hrole : G.role (G.rho id) = some id)
      (hS : ∀ o, ¬ G.S (G.rho id) o) : ABRel w G H id (.cells cs)
  | grow (n sz : Nat) (a : Option Addr) (cap : Nat) (hg : G.g id = (a, cap)) (hcap : n ≤ cap)
      (h : ∀ x, a = some x → n < cap → ∃ b o, x = ⟨b, o, none⟩ ∧ G.role b = some id ∧ (∃ arr t, w.heap[b]? = some (.cells arr t (0, 0)) ∧ o + cap * sz ≤ arr.size) ∧ ∀ j, o + n * sz ≤ j → ¬ G.S b j)
      (hnil : a = none → cap = 0) : ABRel w G H id (.grow n sz)
  | mp (es : List (V × V)) (rs : Array MapEntry) (clock : Nat) (hb : w.heap[G.rho id]? = some (.map rs clock)) (hr : EsRel w G H es rs.toList) (hrole : G.role (G.rho id) = some id) :
      ABRel w G H id (.mp es)
  | lp (r : LR) (fn : FuncId) (tmps : Array Value) (hb : w.heap[G.rho id]? = some (.loop { state := r.state, pending := r.pend, fn := fn, tmps := tmps, params := r.ps, assign := r.assign, body := r.body, defers := G.rho r.D }))
      (hsz : tmps.size = r.nt) (hD : r.D < H.length) (hs : ∀ i, VRel w G H (getS r.slots i) (tmps.getD i undef)) (hrole : G.role (G.rho id) = some id) : ABRel w G H id (.lp r)
  | df (hb : w.heap[G.rho id]? = some (.deferred (some []))) (hrole : G.role (G.rho id) = some id) : ABRel w G H id .df

structure Rel (w : World) (G : Gh) (H : List AB) : Prop where
  sex : ∀ b o, G.S b o → ∃ v, w.cell? ⟨b, o, none⟩ = some v
  roleLt : ∀ b id, G.role b = some id → b < w.heap.size
  ab : ∀ id x, H[id]? = some x → ABRel w G H id x

/-- What stands at a later moment. -/
structure Later (w : World) (G : Gh) (H : List AB) (w' : World) (G' : Gh) (H' : List AB) : Prop where
  size : w.heap.size ≤ w'.heap.size
  S : ∀ b o, G.S b o → G'.S b o ∧ w'.cell? ⟨b, o, none⟩ = w.cell? ⟨b, o, none⟩
  Snew : ∀ b o, b < w.heap.size → G.role b = none → G'.S b o → G.S b o
  len : H.length ≤ H'.length
  rho : ∀ id, id < H.length → G'.rho id = G.rho id
  grow : ∀ id n sz, id < H.length → H'[id]? = some (.grow n sz) → ∃ m, H[id]? = some (.grow m sz) ∧ (m < n ∨ (m = n ∧ G'.g id = G.g id))
  role : ∀ b, b < w.heap.size → G'.role b = G.role b
  frame : ∀ b, b < w.heap.size → G.role b = none → w'.heap[b]? = w.heap[b]?
  os : w'.os = w.os
  out : w'.output = w.output

theorem Later.refl (w : World) (G : Gh) (H : List AB) : Later w G H w G H where
  size := Nat.le_refl _
  S := fun _ _ h => ⟨h, rfl⟩
  Snew := fun _ _ _ _ h => h
  len := Nat.le_refl _
  rho := fun _ _ => rfl
  grow := fun _ n _ _ h => ⟨n, h, .inr ⟨rfl, rfl⟩⟩
  role := fun _ _ => rfl
  frame := fun _ _ _ => rfl
  os := rfl
  out := rfl

theorem Later.trans {w w1 w2 : World} {G G1 G2 : Gh} {H H1 H2 : List AB} (a : Later w G H w1 G1 H1) (b : Later w1 G1 H1 w2 G2 H2) : Later w G H w2 G2 H2 where
  size := Nat.le_trans a.size b.size
  S := fun x o h => ⟨(b.S x o (a.S x o h).1).1, ((b.S x o (a.S x o h).1).2).trans (a.S x o h).2⟩
  Snew := fun x o hx hr h => a.Snew x o hx hr (b.Snew x o (Nat.lt_of_lt_of_le hx a.size) ((a.role x hx).trans hr) h)
  len := Nat.le_trans a.len b.len
  rho := fun id h => (b.rho id (Nat.lt_of_lt_of_le h a.len)).trans (a.rho id h)
  grow := fun id n sz hid h => by
    obtain ⟨m, hm, hc⟩ := b.grow id n sz (Nat.lt_of_lt_of_le hid a.len) h
    obtain ⟨m', hm', hc'⟩ := a.grow id m sz hid hm
    refine ⟨m', hm', ?_⟩
    rcases hc with hc | ⟨rfl, hc⟩ <;> rcases hc' with hc' | ⟨rfl, hc'⟩
    · exact .inl (Nat.lt_trans hc' hc)
    · exact .inl hc
    · exact .inl hc'
    · exact .inr ⟨rfl, hc.trans hc'⟩
  role := fun x hx => (b.role x (Nat.lt_of_lt_of_le hx a.size)).trans (a.role x hx)
  frame := fun x hx hr => (b.frame x (Nat.lt_of_lt_of_le hx a.size) ((a.role x hx).trans hr)).trans (a.frame x hx hr)
  os := b.os.trans a.os
  out := b.out.trans a.out

theorem DRel.mono {w w' : World} {S S' : Nat → Nat → Prop} (h : ∀ b o, S b o → S' b o ∧ w'.cell? ⟨b, o, none⟩ = w.cell? ⟨b, o, none⟩) {x : D} {v : Value} (hr : DRel w S x v) : DRel w' S' x v := by
  induction hr with
  | int k n => exact .int k n
  | bool b => exact .bool b
  | emp a cap => exact .emp a cap
  | sl rows b o cap sz f hcap hlim hsz hcell _ ih =>
    refine .sl rows b o cap sz f hcap hlim hsz (fun i j hi hj => ?_) ih
    obtain ⟨h1, h2⟩ := hcell i j hi hj
    exact ⟨(h _ _ h1).1, ((h _ _ h1).2).trans h2⟩

section
variable {w w' : World} {G G' : Gh} {H H' : List AB} (L : Later w G H w' G' H')
include L
theorem CRel.mono {x : C} {v : Value} (hr : CRel w G H x v) : CRel w' G' H' x v := by
  induction hr with
  | any v => exact .any v
  | d x v h => exact .d x v (h.mono L.S)
  | ptr id off h => have := CRel.ptr (w := w') (G := G') (H := H') id off (Nat.lt_of_lt_of_le h L.len); rwa [L.rho id h] at this
  | nilp => exact .nilp
  | dp ds b o f hcell hrel =>
    refine .dp ds b o f (fun j hj => ?_) (fun j x hx => (hrel j x hx).mono L.S)
    obtain ⟨h1, h2⟩ := hcell j hj
    exact ⟨(L.S _ _ h1).1, ((L.S _ _ h1).2).trans h2⟩
  | full rows a n hn h => exact .full rows a n hn (h.mono L.S)
  | own id rows a n cap hid hn h hg =>
    refine .own id rows a n cap (Nat.lt_of_lt_of_le hid L.len) hn (h.mono L.S) (fun m sz hm => ?_)
    obtain ⟨m', hm', hc⟩ := L.grow id m sz hid hm
    obtain ⟨h1, h2⟩ := hg m' sz hm'
    rcases hc with hc | ⟨rfl, hc⟩
    · exact ⟨by omega, fun e => by omega⟩
    · exact ⟨h1, fun e => hc.trans (h2 e)⟩
  | ms id off n cap h => have := CRel.ms (w := w') (G := G') (H := H') id off n cap (Nat.lt_of_lt_of_le h L.len); rwa [L.rho id h] at this
  | fn f caps arr hs _ ih => exact .fn f caps arr hs ih
  | mp id h => have := CRel.mp (w := w') (G := G') (H := H') id (Nat.lt_of_lt_of_le h L.len); rwa [L.rho id h] at this
  | yd id h => have := CRel.yd (w := w') (G := G') (H := H') id (Nat.lt_of_lt_of_le h L.len); rwa [L.rho id h] at this

theorem CsRel.mono {cs : List C} {vs : List Value} (hr : CsRel w G H cs vs) : CsRel w' G' H' cs vs := ⟨hr.1, fun i x v hx hv => ⟨(hr.2 i x v hx hv).1.mono L, (hr.2 i x v hx hv).2⟩⟩

theorem VRel.mono {x : V} {v : Value} (hr : VRel w G H x v) : VRel w' G' H' x v := by
  induction hr with
  | c x v h => exact .c x v (h.mono L)
  | agg cs arr h => exact .agg cs arr (h.mono L)
  | tup vs arr hs _ ih => exact .tup vs arr hs ih

theorem EsRel.mono {es : List (V × V)} {rs : List MapEntry} (hr : EsRel w G H es rs) : EsRel w' G' H' es rs :=
  ⟨hr.1, fun i e r he hr' => ⟨(hr.2 i e r he hr').1.mono L, (hr.2 i e r he hr').2.mono L⟩⟩
end
end Go.Abs
