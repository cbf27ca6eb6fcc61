/- The abstract states of this seat's own logic: data as trees, owned blocks by small numbers, and how they stand for values in a world. -/
import Derived.RangeFuncRecord
import Derived.RangeFuncLeaves
import Derived.OrdersIn
import Derived.Laws.Cells
import Derived.Laws.Rows
set_option linter.unusedSimpArgs false
set_option linter.unusedVariables false
namespace Go.Abs
open Go
inductive D where
 | int (k : IntKind) (n : Int)
 | bool (b : Bool)
 | sl (rows : List (List D))
 | ptr (ds : List D)
inductive C where
 | any
 | d (x : D)
 | ptr (id off : Nat)
 | nilp
 | dp (ds : List D)
 | full (rows : List (List D))
 | own (id : Nat) (rows : List (List D))
 | ms (id off n cap : Nat)
 | fn (f : Fn) (caps : List C)
 | mv (f : Fn) (x : C)
 | ma (f : Fn) (cs : List C)
 | mp (id : Nat)
 | gp (g : Nat)
 | yd (id : Nat)
 | vs (id n : Nat)
 | vc (id n : Nat)
 | vp (id n off : Nat)
 | fs (n sz : Nat) (cs : List C)
inductive V where
 | c (x : C)
 | agg (cs : List C)
 | tup (vs : List V)
def Aw : List (Nat × V) → Nat → V
 | [], _ => .c .any
 | (i, v) :: r, j => if i = j then v else Aw r j
structure LR where
 state : LoopState
 pend : Option Code
 slots : List (Nat × V)
 nt : Nat
 ps : Array Tmp
 assign : Code
 body : Code
 D : Nat
inductive AB where
 | gone
 | cells (cs : List C)
 | grow (n sz : Nat)
 | vec (n sz : Nat) (cs : List C)
 | mp (es : List (V × V))
 | mpg (es : List (List Int × List Int))
 | mpb (es : List (V × V × Nat)) (clock : Nat)
 | gl (g : Nat) (ds : List D)
 | lp (r : LR)
 | df
structure Gh where
 S : Nat → Nat → Prop
 rho : Nat → Nat
 g : Nat → Option Addr × Nat
 role : Nat → Option Nat
def lim : Nat := 140737488355328
inductive Br (w : World) (S : Nat → Nat → Prop) : D → Value → Prop
 | int (k : IntKind) (n : Int) : Br w S (.int k n) (.int k n)
 | bool (b : Bool) : Br w S (.bool b) (.bool b)
 | emp (a : Option Addr) (cap : Nat) : Br w S (.sl []) (.slice a 0 cap)
 | sl (rows : List (List D)) (b o cap sz : Nat) (f : Nat → Nat → Value) (hcap : rows.length ≤ cap) (hlim : rows.length ≤ lim) (hsz : ∀ (i : Nat) (r : List D), rows[i]? = some r → r.length = sz)
   (hcell : ∀ i j, i < rows.length → j < sz → S b (o + i * sz + j) ∧ w.cell? ⟨b, o + i * sz + j, none⟩ = some (f i j))
   (hrel : ∀ (i j : Nat) (r : List D) (x : D), rows[i]? = some r → r[j]? = some x → Br w S x (f i j)) :
   Br w S (.sl rows) (.slice (some ⟨b, o, none⟩) rows.length cap)
 | ptr (ds : List D) (b o : Nat) (f : Nat → Value) (hcell : ∀ j, j < ds.length → S b (o + j) ∧ w.cell? ⟨b, o + j, none⟩ = some (f j))
   (hrel : ∀ (j : Nat) (x : D), ds[j]? = some x → Br w S x (f j)) : Br w S (.ptr ds) (.pointer (some ⟨b, o, none⟩))
inductive Ap (w : World) (G : Gh) (H : List AB) : C → Value → Prop
 | any (v : Value) : Ap w G H .any v
 | d (x : D) (v : Value) (h : Br w G.S x v) : Ap w G H (.d x) v
 | ptr (id off : Nat) (h : id < H.length) : Ap w G H (.ptr id off) (.pointer (some ⟨G.rho id, off, none⟩))
 | nilp : Ap w G H .nilp (.pointer none)
 | dp (ds : List D) (b o : Nat) (f : Nat → Value) (hcell : ∀ j, j < ds.length → G.S b (o + j) ∧ w.cell? ⟨b, o + j, none⟩ = some (f j))
   (hrel : ∀ (j : Nat) (x : D), ds[j]? = some x → Br w G.S x (f j)) : Ap w G H (.dp ds) (.pointer (some ⟨b, o, none⟩))
 | full (rows : List (List D)) (a : Option Addr) (n : Nat) (hn : n = rows.length) (h : Br w G.S (.sl rows) (.slice a n n)) : Ap w G H (.full rows) (.slice a n n)
 | own (id : Nat) (rows : List (List D)) (a : Option Addr) (n cap : Nat) (hid : id < H.length) (hn : n = rows.length) (h : Br w G.S (.sl rows) (.slice a n cap))
   (hg : ∀ m sz, H[id]? = some (.grow m sz) → rows.length ≤ m ∧ (rows.length = m → G.g id = (a, cap))) : Ap w G H (.own id rows) (.slice a n cap)
 | ms (id off n cap : Nat) (h : id < H.length) : Ap w G H (.ms id off n cap) (.slice (some ⟨G.rho id, off, none⟩) n cap)
 | fn (f : Fn) (caps : List C) (arr : Array Value) (hs : arr.size = caps.length) (h : ∀ (i : Nat) (x : C) (v : Value), caps[i]? = some x → arr[i]? = some v → Ap w G H x v) :
   Ap w G H (.fn f caps) (.func f #[] arr)
 | mv (f : Fn) (x : C) (v : Value) (h : Ap w G H x v) : Ap w G H (.mv f x) (.func f #[v] #[])
 | ma (f : Fn) (cs : List C) (arr : Array Value) (hs : arr.size = cs.length) (ho : ∀ (i : Nat) (v : Value), arr[i]? = some v → v.oneCell' = true) (h : ∀ (i : Nat) (x : C) (v : Value), cs[i]? = some x → arr[i]? = some v → Ap w G H x v) :
   Ap w G H (.ma f cs) (.func f #[.agg arr] #[])
 | mp (id : Nat) (h : id < H.length) : Ap w G H (.mp id) (.map (some (G.rho id)))
 | gp (g : Nat) : Ap w G H (.gp g) (.pointer (some ⟨g, 0, none⟩))
 | yd (id : Nat) (h : id < H.length) : Ap w G H (.yd id) (.func (.yield (G.rho id)) #[] #[])
 | vs (id n : Nat) (a : Option Addr) (cap : Nat) (hid : id < H.length) (ha : n ≤ cap ∧ (n ≠ 0 → ∃ x, a = some x)) (hg : ∀ m sz cs, H[id]? = some (.vec m sz cs) → n ≤ m ∧ (n = m → G.g id = (a, cap))) : Ap w G H (.vs id n) (.slice a n cap)
 | vc (id n : Nat) (a : Option Addr) (hid : id < H.length) (ha : n ≠ 0 → ∃ x, a = some x) (hg : ∀ m sz cs, H[id]? = some (.vec m sz cs) → n ≤ m ∧ (n = m → (G.g id).1 = a)) : Ap w G H (.vc id n) (.slice a n n)
 | fs (n sz : Nat) (cs : List C) (b o : Nat) (vs : List Value) (hl : cs.length = vs.length) (hn : cs.length = n * sz) (hcell : ∀ j v, vs[j]? = some v → (G.S b (o + j) ∧ w.cell? ⟨b, o + j, none⟩ = some v) ∧ v.oneCell' = true)
   (h : ∀ (i : Nat) (x : C) (v : Value), cs[i]? = some x → vs[i]? = some v → Ap w G H x v) : Ap w G H (.fs n sz cs) (.slice (some ⟨b, o, none⟩) n n)
 | vp (id n off : Nat) (a : Addr) (hid : id < H.length) (hg : ∀ m sz cs, H[id]? = some (.vec m sz cs) → n ≤ m ∧ (n = m → ∃ x, (G.g id).1 = some x ∧ a = x.add off)) : Ap w G H (.vp id n off) (.pointer (some a))
def An (w : World) (G : Gh) (H : List AB) (cs : List C) (vs : List Value) : Prop :=
 cs.length = vs.length ∧ ∀ (i : Nat) (x : C) (v : Value), cs[i]? = some x → vs[i]? = some v → Ap w G H x v ∧ v.oneCell' = true
inductive Ag (w : World) (G : Gh) (H : List AB) : V → Value → Prop
 | c (x : C) (v : Value) (h : Ap w G H x v) : Ag w G H (.c x) v
 | agg (cs : List C) (arr : Array Value) (h : An w G H cs arr.toList) : Ag w G H (.agg cs) (.agg arr)
 | tup (vs : List V) (arr : Array Value) (hs : arr.size = vs.length) (h : ∀ (i : Nat) (x : V) (v : Value), vs[i]? = some x → arr[i]? = some v → Ag w G H x v) : Ag w G H (.tup vs) (.tuple arr)
def Cq (w : World) (G : Gh) (H : List AB) (es : List (V × V)) (rs : List MapEntry) : Prop :=
 es.length = rs.length ∧ ∀ (i : Nat) (e : V × V) (r : MapEntry), es[i]? = some e → rs[i]? = some r → Ag w G H e.1 r.key ∧ Ag w G H e.2 r.val
def aHJ (w : World) (G : Gh) (id : Nat) (l : List Int) (v : Value) : Prop :=
 ∃ a cap, v = .slice a l.length cap ∧ l.length ≤ cap ∧ Br w G.S (.sl (l.map fun n => [D.int .i64 n])) v ∧ (a = none → cap = 0) ∧
  (∀ x, a = some x → l.length < cap → ∃ b o, x = ⟨b, o, none⟩ ∧ G.role b = some id ∧ (∃ arr t, w.heap[b]? = some (.cells arr t (0, 0)) ∧ o + cap ≤ arr.size) ∧ ∀ j, o + l.length ≤ j → ¬ G.S b j)
def U7 : Value → Option Nat
 | .slice (some x) n c => if n < c then some x.block else none
 | _ => none
structure SQ (w : World) (G : Gh) (id : Nat) (es : List (List Int × List Int)) (rs : Array MapEntry) (clock : Nat) : Prop where
 len : es.length = rs.size
 ent : ∀ (i : Nat) (e : List Int × List Int) (r : MapEntry), es[i]? = some e → rs[i]? = some r → r.key = .agg (e.1.map (Value.int .i64)).toArray ∧ aHJ w G id e.2 r.val
 born : ∀ (i j : Nat) (r s : MapEntry), rs[i]? = some r → rs[j]? = some s → r.born = s.born → i = j
 clk : ∀ (i : Nat) (r : MapEntry), rs[i]? = some r → r.born < clock
 dist : ∀ (i j : Nat) (r s : MapEntry) (b : Nat), rs[i]? = some r → rs[j]? = some s → U7 r.val = some b → U7 s.val = some b → i = j
def mpE (es : List (V × V × Nat)) : List (V × V) := es.map fun e => (e.1, e.2.1)
inductive AW (w : World) (G : Gh) (H : List AB) (id : Nat) : AB → Prop
 | gone : AW w G H id .gone
 | cells (cs : List C) (arr : Array Value) (t : TypeId) (hb : w.heap[G.rho id]? = some (.cells arr t (0, 0))) (hr : An w G H cs arr.toList) (hrole : G.role (G.rho id) = some id)
   (hS : ∀ o, ¬ G.S (G.rho id) o) : AW w G H id (.cells cs)
 | grow (n sz : Nat) (a : Option Addr) (cap : Nat) (hg : G.g id = (a, cap)) (hcap : n ≤ cap)
   (h : ∀ x, a = some x → n < cap → ∃ b o, x = ⟨b, o, none⟩ ∧ G.role b = some id ∧ (∃ arr t, w.heap[b]? = some (.cells arr t (0, 0)) ∧ o + cap * sz ≤ arr.size) ∧ ∀ j, o + n * sz ≤ j → ¬ G.S b j)
   (hnil : a = none → cap = 0) : AW w G H id (.grow n sz)
 | vec (n sz : Nat) (cs : List C) (a : Option Addr) (cap : Nat) (hg : G.g id = (a, cap)) (hcap : n ≤ cap) (hl : cs.length = n * sz)
   (h : cap ≠ 0 → ∃ b arr t, a = some ⟨b, 0, none⟩ ∧ G.role b = some id ∧ w.heap[b]? = some (.cells arr t (0, 0)) ∧ cap * sz ≤ arr.size ∧ An w G H cs (arr.toList.take cs.length) ∧ ∀ o, ¬ G.S b o) : AW w G H id (.vec n sz cs)
 | mp (es : List (V × V)) (rs : Array MapEntry) (clock : Nat) (hb : w.heap[G.rho id]? = some (.map rs clock)) (hr : Cq w G H es rs.toList) (hrole : G.role (G.rho id) = some id) :
   AW w G H id (.mp es)
 | mpg (es : List (List Int × List Int)) (rs : Array MapEntry) (clock : Nat) (hb : w.heap[G.rho id]? = some (.map rs clock)) (hok : SQ w G id es rs clock) (hrole : G.role (G.rho id) = some id) : AW w G H id (.mpg es)
 | mpb (es : List (V × V × Nat)) (clock : Nat) (rs : Array MapEntry) (hb : w.heap[G.rho id]? = some (.map rs clock)) (hr : Cq w G H (mpE es) rs.toList) (hbn : rs.toList.map (·.born) = es.map (·.2.2)) (hrole : G.role (G.rho id) = some id) : AW w G H id (.mpb es clock)
 | lp (r : LR) (fn : FuncId) (tmps : Array Value) (hb : w.heap[G.rho id]? = some (.loop { state := r.state, pending := r.pend, fn := fn, tmps := tmps, params := r.ps, assign := r.assign, body := r.body, defers := G.rho r.D }))
   (hsz : tmps.size = r.nt) (hD : r.D < H.length) (hs : ∀ i, Ag w G H (Aw r.slots i) (tmps.getD i undef)) (hrole : G.role (G.rho id) = some id) : AW w G H id (.lp r)
 | df (hb : w.heap[G.rho id]? = some (.deferred (some []))) (hrole : G.role (G.rho id) = some id) : AW w G H id .df
 | gl (g : Nat) (ds : List D) (f : Nat → Value) (hcell : ∀ j, j < ds.length → G.S g j ∧ w.cell? ⟨g, j, none⟩ = some (f j)) (hrel : ∀ (j : Nat) (x : D), ds[j]? = some x → Br w G.S x (f j)) : AW w G H id (.gl g ds)
structure Rel (w : World) (G : Gh) (H : List AB) : Prop where
 sex : ∀ b o, G.S b o → ∃ v, w.cell? ⟨b, o, none⟩ = some v
 roleLt : ∀ b id, G.role b = some id → b < w.heap.size
 ab : ∀ id x, H[id]? = some x → AW w G H id x
structure Am (w : World) (G : Gh) (H : List AB) (w' : World) (G' : Gh) (H' : List AB) : Prop where
 size : w.heap.size ≤ w'.heap.size
 S : ∀ b o, G.S b o → G'.S b o ∧ w'.cell? ⟨b, o, none⟩ = w.cell? ⟨b, o, none⟩
 Snew : ∀ b o, b < w.heap.size → G.role b = none → G'.S b o → G.S b o
 len : H.length ≤ H'.length
 rho : ∀ id, id < H.length → G'.rho id = G.rho id
 grow : ∀ id n sz, id < H.length → H'[id]? = some (.grow n sz) → ∃ m, H[id]? = some (.grow m sz) ∧ (m < n ∨ (m = n ∧ G'.g id = G.g id))
 vec : ∀ id n sz cs, id < H.length → H'[id]? = some (.vec n sz cs) → ∃ m sz0 cs0, H[id]? = some (.vec m sz0 cs0) ∧ (m < n ∨ (m = n ∧ G'.g id = G.g id))
 role : ∀ b, b < w.heap.size → G'.role b = G.role b
 frame : ∀ b, b < w.heap.size → G.role b = none → w'.heap[b]? = w.heap[b]?
 os : w'.os = w.os
 out : w'.output = w.output
theorem Am.refl (w : World) (G : Gh) (H : List AB) : Am w G H w G H where
 size := Nat.le_refl _
 S := fun _ _ h => ⟨h, rfl⟩
 Snew := fun _ _ _ _ h => h
 len := Nat.le_refl _
 rho := fun _ _ => rfl
 grow := fun _ n _ _ h => ⟨n, h, .inr ⟨rfl, rfl⟩⟩
 vec := fun _ n sz cs _ h => ⟨n, sz, cs, h, .inr ⟨rfl, rfl⟩⟩
 role := fun _ _ => rfl
 frame := fun _ _ _ => rfl
 os := rfl
 out := rfl
theorem Am.trans {w w1 w2 : World} {G G1 G2 : Gh} {H H1 H2 : List AB} (a : Am w G H w1 G1 H1) (b : Am w1 G1 H1 w2 G2 H2) : Am w G H w2 G2 H2 where
 size := Nat.le_trans a.size b.size
 S := fun x o h => ⟨(b.S x o (a.S x o h).1).1, ((b.S x o (a.S x o h).1).2).trans (a.S x o h).2⟩
 Snew := fun x o hx hr h => a.Snew x o hx hr (b.Snew x o (Nat.lt_of_lt_of_le hx a.size) ((a.role x hx).trans hr) h)
 len := Nat.le_trans a.len b.len
 rho := fun id h => (b.rho id (Nat.lt_of_lt_of_le h a.len)).trans (a.rho id h)
 grow := fun id n sz hid h => by
  obtain ⟨m, hm, hc⟩ := b.grow id n sz (Nat.lt_of_lt_of_le hid a.len) h
  obtain ⟨m', hm', hc'⟩ := a.grow id m sz hid hm
  refine ⟨m', hm', ?_⟩
  rcases hc with hc | ⟨rfl, hc⟩ <;> rcases hc' with hc' | ⟨rfl, hc'⟩
  ·exact .inl (Nat.lt_trans hc' hc)
  ·exact .inl hc
  ·exact .inl hc'
  ·exact .inr ⟨rfl, hc.trans hc'⟩
 vec := fun id n sz cs hid h => by
  obtain ⟨m, sz1, cs1, hm, hc⟩ := b.vec id n sz cs (Nat.lt_of_lt_of_le hid a.len) h
  obtain ⟨m', sz2, cs2, hm', hc'⟩ := a.vec id m sz1 cs1 hid hm
  refine ⟨m', sz2, cs2, hm', ?_⟩
  rcases hc with hc | ⟨rfl, hc⟩ <;> rcases hc' with hc' | ⟨rfl, hc'⟩
  ·exact .inl (Nat.lt_trans hc' hc)
  ·exact .inl hc
  ·exact .inl hc'
  ·exact .inr ⟨rfl, hc.trans hc'⟩
 role := fun x hx => (b.role x (Nat.lt_of_lt_of_le hx a.size)).trans (a.role x hx)
 frame := fun x hx hr => (b.frame x (Nat.lt_of_lt_of_le hx a.size) ((a.role x hx).trans hr)).trans (a.frame x hx hr)
 os := b.os.trans a.os
 out := b.out.trans a.out
theorem Br.mono {w w' : World} {S S' : Nat → Nat → Prop} (h : ∀ b o, S b o → S' b o ∧ w'.cell? ⟨b, o, none⟩ = w.cell? ⟨b, o, none⟩) {x : D} {v : Value} (hr : Br w S x v) : Br w' S' x v := by
 induction hr with
 | int k n => exact .int k n
 | bool b => exact .bool b
 | emp a cap => exact .emp a cap
 | sl rows b o cap sz f hcap hlim hsz hcell _ ih =>
  refine .sl rows b o cap sz f hcap hlim hsz (fun i j hi hj => ?_) ih
  obtain ⟨h1, h2⟩ := hcell i j hi hj
  exact ⟨(h _ _ h1).1, ((h _ _ h1).2).trans h2⟩
 | ptr ds b o f hcell _ ih =>
  refine .ptr ds b o f (fun j hj => ?_) ih
  obtain ⟨h1, h2⟩ := hcell j hj
  exact ⟨(h _ _ h1).1, ((h _ _ h1).2).trans h2⟩
theorem SQ.mono {w w' : World} {G G' : Gh} {id id' : Nat} {es : List (List Int × List Int)} {rs : Array MapEntry} {clock : Nat} (h : SQ w G id es rs clock) (h1 : ∀ (x : D) (v : Value), Br w G.S x v → Br w' G'.S x v)
  (h2 : ∀ b, G.role b = some id → G'.role b = some id' ∧ w'.heap[b]? = w.heap[b]? ∧ ∀ o, G'.S b o → G.S b o) : SQ w' G' id' es rs clock where
 len := h.len
 ent := fun i e r he hr => by
  obtain ⟨e1, a, cap, e2, e3, e4, e5, e6⟩ := h.ent i e r he hr
  refine ⟨e1, a, cap, e2, e3, h1 _ _ e4, e5, fun x hx hn => ?_⟩
  obtain ⟨b, o, f1, f2, f3, f4⟩ := e6 x hx hn
  obtain ⟨g1, g2, g3⟩ := h2 b f2
  exact ⟨b, o, f1, g1, by rw [g2]; exact f3, fun j hj hs => f4 j hj (g3 j hs)⟩
 born := h.born
 clk := h.clk
 dist := h.dist
section
variable {w w' : World} {G G' : Gh} {H H' : List AB} (L : Am w G H w' G' H')
include L
theorem Ap.mono {x : C} {v : Value} (hr : Ap w G H x v) : Ap w' G' H' x v := by
 induction hr with
 | any v => exact .any v
 | d x v h => exact .d x v (h.mono L.S)
 | ptr id off h => have := Ap.ptr (w := w') (G := G') (H := H') id off (Nat.lt_of_lt_of_le h L.len); rwa [L.rho id h] at this
 | nilp => exact .nilp
 | dp ds b o f hcell hrel =>
  refine .dp ds b o f (fun j hj => ?_) (fun j x hx => (hrel j x hx).mono L.S)
  obtain ⟨h1, h2⟩ := hcell j hj
  exact ⟨(L.S _ _ h1).1, ((L.S _ _ h1).2).trans h2⟩
 | full rows a n hn h => exact .full rows a n hn (h.mono L.S)
 | own id rows a n cap hid hn h hg =>
  refine .own id rows a n cap (Nat.lt_of_lt_of_le hid L.len) hn (h.mono L.S) (fun m sz hm => ?_)
  obtain ⟨m', hm', hc⟩ := L.grow id m sz hid hm
  obtain ⟨h1, h2⟩ := hg m' sz hm'
  rcases hc with hc | ⟨rfl, hc⟩
  ·exact ⟨by omega, fun e => by omega⟩
  ·exact ⟨h1, fun e => hc.trans (h2 e)⟩
 | ms id off n cap h => have := Ap.ms (w := w') (G := G') (H := H') id off n cap (Nat.lt_of_lt_of_le h L.len); rwa [L.rho id h] at this
 | fn f caps arr hs _ ih => exact .fn f caps arr hs ih
 | ma f cs arr hs ho _ ih => exact .ma f cs arr hs ho ih
 | mv f x v _ ih => exact .mv f x v ih
 | mp id h => have := Ap.mp (w := w') (G := G') (H := H') id (Nat.lt_of_lt_of_le h L.len); rwa [L.rho id h] at this
 | gp g => exact .gp g
 | fs n sz cs b o vs hl hn hcell _ ih =>
  refine .fs n sz cs b o vs hl hn (fun j v hj => ?_) ih
  obtain ⟨⟨h1, h2⟩, h3⟩ := hcell j v hj
  exact ⟨⟨(L.S _ _ h1).1, ((L.S _ _ h1).2).trans h2⟩, h3⟩
 | vc id n a hid ha hg =>
  refine .vc id n a (Nat.lt_of_lt_of_le hid L.len) ha (fun m sz cs hm => ?_)
  obtain ⟨m', sz', cs', hm', hc⟩ := L.vec id m sz cs hid hm
  obtain ⟨h1, h2⟩ := hg m' sz' cs' hm'
  rcases hc with hc | ⟨rfl, hc⟩
  ·exact ⟨by omega, fun e => by omega⟩
  ·exact ⟨h1, fun e => by rw [hc]; exact h2 e⟩
 | vs id n a cap hid ha hg =>
  refine .vs id n a cap (Nat.lt_of_lt_of_le hid L.len) ha (fun m sz cs hm => ?_)
  obtain ⟨m', sz', cs', hm', hc⟩ := L.vec id m sz cs hid hm
  obtain ⟨h1, h2⟩ := hg m' sz' cs' hm'
  rcases hc with hc | ⟨rfl, hc⟩
  ·exact ⟨by omega, fun e => by omega⟩
  ·exact ⟨h1, fun e => hc.trans (h2 e)⟩
 | vp id n off a hid hg =>
  refine .vp id n off a (Nat.lt_of_lt_of_le hid L.len) (fun m sz cs hm => ?_)
  obtain ⟨m', sz', cs', hm', hc⟩ := L.vec id m sz cs hid hm
  obtain ⟨h1, h2⟩ := hg m' sz' cs' hm'
  rcases hc with hc | ⟨rfl, hc⟩
  ·exact ⟨by omega, fun e => by omega⟩
  ·exact ⟨h1, fun e => by rw [hc]; exact h2 e⟩
 | yd id h => have := Ap.yd (w := w') (G := G') (H := H') id (Nat.lt_of_lt_of_le h L.len); rwa [L.rho id h] at this
theorem An.mono {cs : List C} {vs : List Value} (hr : An w G H cs vs) : An w' G' H' cs vs := ⟨hr.1, fun i x v hx hv => ⟨(hr.2 i x v hx hv).1.mono L, (hr.2 i x v hx hv).2⟩⟩
theorem Ag.mono {x : V} {v : Value} (hr : Ag w G H x v) : Ag w' G' H' x v := by
 induction hr with
 | c x v h => exact .c x v (h.mono L)
 | agg cs arr h => exact .agg cs arr (h.mono L)
 | tup vs arr hs _ ih => exact .tup vs arr hs ih
theorem Cq.mono {es : List (V × V)} {rs : List MapEntry} (hr : Cq w G H es rs) : Cq w' G' H' es rs :=
 ⟨hr.1, fun i e r he hr' => ⟨(hr.2 i e r he hr').1.mono L, (hr.2 i e r he hr').2.mono L⟩⟩
end
end Go.Abs
namespace Go.Abs
open Go
theorem AQ {w w' : World} {b : Nat} (h : w'.heap[b]? = w.heap[b]?) (o : Nat) : w'.cell? ⟨b, o, none⟩ = w.cell? ⟨b, o, none⟩ := by
 simp only [World.cell?, h]
theorem Br.one {w : World} {S : Nat → Nat → Prop} {x : D} {v : Value} (h : Br w S x v) : v.oneCell' = true := by cases h <;> rfl
theorem Ap.one {w : World} {G : Gh} {H : List AB} {x : C} {v : Value} (h : Ap w G H x v) (hx : x ≠ .any) : v.oneCell' = true := by
 cases h with
 | any => exact absurd rfl hx
 | d x v h => exact h.one
 | _ => rfl
theorem Nw {v : Value} (h : v.oneCell' = true) : v.cells = #[v] := by
 cases v <;> first | rfl | (simp [Value.oneCell'] at h)
theorem Rel.of_heap {w w' : World} {G : Gh} {H : List AB} (e : w'.heap = w.heap) (h : Rel w G H) (eo : w'.os = w.os := by rfl) (eu : w'.output = w.output := by rfl) : Rel w' G H ∧ Am w G H w' G H := by
 have L : Am w G H w' G H :=
  {size := by rw [e]; exact Nat.le_refl _
   S := fun b o h => ⟨h, AQ (by rw [e]) o⟩
   Snew := fun _ _ _ _ h => h
   len := Nat.le_refl _
   rho := fun _ _ => rfl
   grow := fun id n sz _ h => ⟨n, h, .inr ⟨rfl, rfl⟩⟩
   vec := fun _ n sz cs _ h => ⟨n, sz, cs, h, .inr ⟨rfl, rfl⟩⟩
   role := fun _ _ => rfl
   frame := fun b _ _ => by rw [e]
   os := eo
   out := eu }
 refine ⟨⟨fun b o hs => ?_, fun b id hr => by rw [e]; exact h.roleLt b id hr, fun id x hx => ?_⟩, L⟩
 ·obtain ⟨v, hv⟩ := h.sex b o hs
  exact ⟨v, by rw [AQ (w := w) (by rw [e])]; exact hv⟩
 ·cases h.ab id x hx with
  | gone => exact .gone
  | cells cs arr t hb hr hrole hS => exact .cells cs arr t (by rw [e]; exact hb) (hr.mono L) hrole hS
  | grow n sz a cap hg hcap h hnil => exact .grow n sz a cap hg hcap (fun x hx hn => by obtain ⟨b, o, h1, h2, h3, h4⟩ := h x hx hn; exact ⟨b, o, h1, h2, by rw [e]; exact h3, h4⟩) hnil
  | vec n sz cs a cap hg hcap hl h => exact .vec n sz cs a cap hg hcap hl (fun hz => by obtain ⟨b, arr, t, h1, h2, h3, h4, h5, h6⟩ := h hz; exact ⟨b, arr, t, h1, h2, by rw [e]; exact h3, h4, h5.mono L, h6⟩)
  | mp es rs clock hb hr hrole => exact .mp es rs clock (by rw [e]; exact hb) (hr.mono L) hrole
  | mpg es rs clock hb hok hrole => exact .mpg es rs clock (by rw [e]; exact hb) (hok.mono (fun _ _ h => h.mono L.S) (fun b hb => ⟨hb, by rw [e], fun _ h => h⟩)) hrole
  | mpb es clock rs hb hr hbn hrole => exact .mpb es clock rs (by rw [e]; exact hb) (hr.mono L) hbn hrole
  | lp r fn tmps hb hsz hD hs hrole => exact .lp r fn tmps (by rw [e]; exact hb) hsz hD (fun i => (hs i).mono L) hrole
  | df hb hrole => exact .df (by rw [e]; exact hb) hrole
  | gl g ds f hc hr => exact .gl g ds f (fun j hj => ⟨(L.S _ _ (hc j hj).1).1, by rw [(L.S _ _ (hc j hj).1).2]; exact (hc j hj).2⟩) (fun j x hx => (hr j x hx).mono L.S)
theorem AW.mono {w w' : World} {G G' : Gh} {H H' : List AB} (R : Rel w G H) (L : Am w G H w' G' H') {id : Nat} {x : AB} (hid : id < H.length) (h : AW w G H id x)
  (hb : ∀ b, G.role b = some id → w'.heap[b]? = w.heap[b]?) (hS : ∀ b o, G.role b = some id → G'.S b o → G.S b o) (hg : G'.g id = G.g id) : AW w' G' H' id x := by
 have er := L.rho id hid
 have hrole : ∀ b, G.role b = some id → G'.role b = some id := fun b h => (L.role b (R.roleLt b id h)).trans h
 cases h with
 | gone => exact .gone
 | cells cs arr t hb' hr hro hS' => exact .cells cs arr t (by rw [er, hb _ hro]; exact hb') (hr.mono L) (by rw [er]; exact hrole _ hro) (fun o ho => hS' o (hS _ o hro (by rw [← er]; exact ho)))
 | grow n sz a cap hg' hcap h hnil =>
  refine .grow n sz a cap (hg.trans hg') hcap (fun x hx hn => ?_) hnil
  obtain ⟨b, o, h1, h2, h3, h4⟩ := h x hx hn
  exact ⟨b, o, h1, hrole b h2, by rw [hb b h2]; exact h3, fun j hj hs => h4 j hj (hS b j h2 hs)⟩
 | vec n sz cs a cap hg' hcap hl h =>
  refine .vec n sz cs a cap (hg.trans hg') hcap hl (fun hz => ?_)
  obtain ⟨b, arr, t, h1, h2, h3, h4, h5, h6⟩ := h hz
  exact ⟨b, arr, t, h1, hrole b h2, by rw [hb b h2]; exact h3, h4, h5.mono L, fun o hs => h6 o (hS b o h2 hs)⟩
 | mp es rs clock hb' hr hro => exact .mp es rs clock (by rw [er, hb _ hro]; exact hb') (hr.mono L) (by rw [er]; exact hrole _ hro)
 | mpg es rs clock hb' hok hro => exact .mpg es rs clock (by rw [er, hb _ hro]; exact hb') (hok.mono (fun _ _ h => h.mono L.S) (fun b h => ⟨hrole b h, hb b h, fun o hs => hS b o h hs⟩)) (by rw [er]; exact hrole _ hro)
 | mpb es clock rs hb' hr hbn hro => exact .mpb es clock rs (by rw [er, hb _ hro]; exact hb') (hr.mono L) hbn (by rw [er]; exact hrole _ hro)
 | lp r fn tmps hb' hsz hD hs hro => exact .lp r fn tmps (by rw [er, hb _ hro, L.rho _ hD]; exact hb') hsz (Nat.lt_of_lt_of_le hD L.len) (fun i => (hs i).mono L) (by rw [er]; exact hrole _ hro)
 | df hb' hro => exact .df (by rw [er, hb _ hro]; exact hb') (by rw [er]; exact hrole _ hro)
 | gl g ds f hc hr => exact .gl g ds f (fun j hj => ⟨(L.S _ _ (hc j hj).1).1, by rw [(L.S _ _ (hc j hj).1).2]; exact (hc j hj).2⟩) (fun j x hx => (hr j x hx).mono L.S)
def upd {α : Type} (f : Nat → α) (i : Nat) (x : α) : Nat → α := fun j => if j = i then x else f j
theorem Ao {α : Type} (f : Nat → α) (i : Nat) (x : α) : upd f i x i = x := by simp [upd]
theorem AJ {α : Type} (f : Nat → α) {i j : Nat} (x : α) (h : j ≠ i) : upd f i x j = f j := by simp [upd, h]
theorem AU (w : World) (o : Obj) {b : Nat} (h : b < w.heap.size) : (w.alloc o).heap[b]? = w.heap[b]? := heap_alloc_old w o b h
theorem Bx (w : World) (o : Obj) : (w.alloc o).heap[w.heap.size]? = some o := heap_alloc_new w o
def Gh.own (G : Gh) (id b : Nat) : Gh := { G with rho := upd G.rho id b, role := upd G.role b (some id) }
theorem Am.alloc_own {w : World} {G : Gh} {H : List AB} (R : Rel w G H) (o : Obj) (y : AB) : Am w G H (w.alloc o) (G.own H.length w.heap.size) (H ++ [y]) where
 size := by simp
 S := fun b o' h => ⟨h, by
  obtain ⟨v, hv⟩ := R.sex b o' h
  exact AQ (AU w o (World.block_lt_of_cell? w _ hv)) o'⟩
 Snew := fun _ _ _ _ h => h
 len := by simp
 rho := fun id h => AJ _ _ (Nat.ne_of_lt h)
 grow := fun id n sz hid h => ⟨n, by rwa [List.getElem?_append_left hid] at h, .inr ⟨rfl, rfl⟩⟩
 vec := fun id n sz cs hid h => ⟨n, sz, cs, by rwa [List.getElem?_append_left hid] at h, .inr ⟨rfl, rfl⟩⟩
 role := fun b h => AJ _ _ (Nat.ne_of_lt h)
 frame := fun b h _ => AU w o h
 os := rfl
 out := rfl
theorem Rel.alloc_own {w : World} {G : Gh} {H : List AB} (R : Rel w G H) (o : Obj) (y : AB)
  (hy : AW (w.alloc o) (G.own H.length w.heap.size) (H ++ [y]) H.length y) : Rel (w.alloc o) (G.own H.length w.heap.size) (H ++ [y]) := by
 have L := Am.alloc_own R o y
 refine ⟨fun b o' hs => ?_, fun b id hr => ?_, fun id x hx => ?_⟩
 ·obtain ⟨v, hv⟩ := R.sex b o' hs
  exact ⟨v, ((L.S b o' hs).2).trans hv⟩
 ·simp only [World.size_alloc]
  by_cases e : b = w.heap.size
  ·omega
  ·have := R.roleLt b id (by simpa [Gh.own, AJ _ _ e] using hr)
   omega
 ·by_cases e : id < H.length
  ·rw [List.getElem?_append_left e] at hx
   refine (R.ab id x hx).mono R L e (fun b hb => AU w o (R.roleLt b id hb)) (fun b o hb h => h) rfl
  ·have : id = H.length := by
    have := (List.getElem?_eq_some_iff.1 hx).1
    simp at this
    omega
   subst this
   simp at hx
   rw [← hx]
   exact hy
theorem Rel.noS_new {w : World} {G : Gh} {H : List AB} (R : Rel w G H) (o : Nat) : ¬ G.S w.heap.size o := fun h => by
 obtain ⟨v, hv⟩ := R.sex _ o h
 have := World.block_lt_of_cell? w _ hv
 simp at this
theorem Rel.alloc_cells {w : World} {G : Gh} {H : List AB} (R : Rel w G H) {cs : List C} {arr : Array Value} (t : TypeId) (h : An w G H cs arr.toList) :
  Rel (w.alloc (.cells arr t)) (G.own H.length w.heap.size) (H ++ [.cells cs]) := by
 refine R.alloc_own _ _ (.cells cs arr t ?_ (h.mono (Am.alloc_own R _ _)) ?_ ?_)
 ·simp only [Gh.own, Ao]; exact Bx w _
 ·simp [Gh.own, Ao]
 ·intro o; simp only [Gh.own, Ao]; exact R.noS_new o
theorem Rel.alloc_map {w : World} {G : Gh} {H : List AB} (R : Rel w G H) (clock : Nat) : Rel (w.alloc (.map #[] clock)) (G.own H.length w.heap.size) (H ++ [.mp []]) := by
 refine R.alloc_own _ _ (.mp [] #[] clock ?_ ⟨rfl, fun i e r he => by simp at he⟩ ?_)
 ·simp only [Gh.own, Ao]; exact Bx w _
 ·simp [Gh.own, Ao]
def Gh.lay (G : Gh) (b n : Nat) : Gh := { G with S := fun b' o => G.S b' o ∨ (b' = b ∧ o < n) }
theorem Am.alloc_data {w : World} {G : Gh} {H : List AB} (R : Rel w G H) (o : Obj) (n : Nat) : Am w G H (w.alloc o) (G.lay w.heap.size n) H where
 size := by simp
 S := fun b o' h => ⟨.inl h, by
  obtain ⟨v, hv⟩ := R.sex b o' h
  exact AQ (AU w o (World.block_lt_of_cell? w _ hv)) o'⟩
 Snew := fun b o' hb _ h => by
  rcases h with h | ⟨h, _⟩
  ·exact h
  ·omega
 len := Nat.le_refl _
 rho := fun _ _ => rfl
 grow := fun id n sz _ h => ⟨n, h, .inr ⟨rfl, rfl⟩⟩
 vec := fun _ n sz cs _ h => ⟨n, sz, cs, h, .inr ⟨rfl, rfl⟩⟩
 role := fun _ _ => rfl
 frame := fun b h _ => AU w o h
 os := rfl
 out := rfl
theorem Rel.alloc_data {w : World} {G : Gh} {H : List AB} (R : Rel w G H) (arr : Array Value) (t : TypeId) : Rel (w.alloc (.cells arr t)) (G.lay w.heap.size arr.size) H := by
 have L := Am.alloc_data R (.cells arr t) arr.size
 refine ⟨fun b o' hs => ?_, fun b id hr => ?_, fun id x hx => ?_⟩
 ·rcases hs with hs | ⟨rfl, ho⟩
  ·obtain ⟨v, hv⟩ := R.sex b o' hs
   exact ⟨v, ((L.S b o' hs).2).trans hv⟩
  ·exact ⟨arr[o'], by rw [World.cell?_alloc_new]; simp [ho]⟩
 ·simp only [World.size_alloc]
  have := R.roleLt b id hr
  omega
 ·refine (R.ab id x hx).mono R L (List.getElem?_eq_some_iff.1 hx).1 (fun b hb => AU w _ (R.roleLt b id hb)) (fun b o hb h => ?_) rfl
  rcases h with h | ⟨rfl, _⟩
  ·exact h
  ·have := R.roleLt _ _ hb; omega
theorem Do {w : World} {b k : Nat} {o : Obj} (h : k ≠ b) : (w.putObj b o).heap[k]? = w.heap[k]? := World.putObj_heap_other h
theorem DH {w : World} {b : Nat} {o x : Obj} (h : w.heap[b]? = some x) : (w.putObj b o).heap[b]? = some o :=
 World.putObj_heap_same (Array.getElem?_eq_some_iff.1 h).1
theorem Am.put_own {w : World} {G : Gh} {H : List AB} {id b : Nat} {o : Obj} {y : AB} (hb : G.role b = some id)
  (hS : ∀ j, G.S b j → (w.putObj b o).cell? ⟨b, j, none⟩ = w.cell? ⟨b, j, none⟩) (hy : ∀ n sz, y = .grow n sz → id < H.length → ∃ m, H[id]? = some (.grow m sz) ∧ (m < n ∨ m = n))
  (hv : ∀ n sz cs, y = .vec n sz cs → id < H.length → ∃ m sz0 cs0, H[id]? = some (.vec m sz0 cs0) ∧ (m < n ∨ m = n)) :
  Am w G H (w.putObj b o) G (H.set id y) where
 size := by simp
 S := fun b' o' h => ⟨h, by
  by_cases e : b' = b
  ·subst e; exact hS o' h
  ·exact AQ (Do e) o'⟩
 Snew := fun _ _ _ _ h => h
 len := by simp
 rho := fun _ _ => rfl
 grow := fun id' n sz hid h => by
  by_cases e : id = id'
  ·subst e
   simp [hid] at h
   obtain ⟨m, hm, hc⟩ := hy n sz h hid
   exact ⟨m, hm, hc.imp (fun e => e) (fun e => ⟨e, rfl⟩)⟩
  ·rw [List.getElem?_set_ne e] at h
   exact ⟨n, h, .inr ⟨rfl, rfl⟩⟩
 vec := fun id' n sz cs hid h => by
  by_cases e : id = id'
  ·subst e
   simp [hid] at h
   obtain ⟨m, sz0, cs0, hm, hc⟩ := hv n sz cs h hid
   exact ⟨m, sz0, cs0, hm, hc.imp (fun e => e) (fun e => ⟨e, rfl⟩)⟩
  ·rw [List.getElem?_set_ne e] at h
   exact ⟨n, sz, cs, h, .inr ⟨rfl, rfl⟩⟩
 role := fun _ _ => rfl
 frame := fun b' _ hr => Do (fun e => by rw [e, hb] at hr; cases hr)
 os := rfl
 out := rfl
theorem Rel.put_own {w : World} {G : Gh} {H : List AB} {id b : Nat} {o : Obj} {y : AB} (R : Rel w G H) (hb : G.role b = some id) (L : Am w G H (w.putObj b o) G (H.set id y))
  (hy : id < H.length → AW (w.putObj b o) G (H.set id y) id y) : Rel (w.putObj b o) G (H.set id y) := by
 refine ⟨fun b' o' hs => ?_, fun b' i hr => by simpa using R.roleLt b' i hr, fun i x hx => ?_⟩
 ·obtain ⟨v, hv⟩ := R.sex b' o' hs
  exact ⟨v, ((L.S b' o' hs).2).trans hv⟩
 ·by_cases e : id = i
  ·subst e
   have hlt : id < H.length := by have := (List.getElem?_eq_some_iff.1 hx).1; simpa using this
   simp [hlt] at hx
   rw [← hx]; exact hy hlt
  ·rw [List.getElem?_set_ne e] at hx
   exact (R.ab i x hx).mono R L (List.getElem?_eq_some_iff.1 hx).1 (fun b' hb' => Do (fun e' => by rw [e', hb] at hb'; exact e (Option.some.inj hb'))) (fun _ _ _ h => h) rfl
theorem Rel.put_cells {w : World} {G : Gh} {H : List AB} {id : Nat} {cs cs' : List C} {arr arr' : Array Value} {t : TypeId} (R : Rel w G H) (hid : H[id]? = some (.cells cs))
  (hb : w.heap[G.rho id]? = some (.cells arr t (0, 0))) (h : An w G H cs' arr'.toList) :
  Rel (w.putObj (G.rho id) (.cells arr' t (0, 0))) G (H.set id (.cells cs')) ∧ Am w G H (w.putObj (G.rho id) (.cells arr' t (0, 0))) G (H.set id (.cells cs')) := by
 cases R.ab id _ hid with
 | cells _ arr0 t0 hb0 hr0 hrole hS =>
  have L : Am w G H (w.putObj (G.rho id) (.cells arr' t (0, 0))) G (H.set id (.cells cs')) :=
   Am.put_own hrole (fun j hj => absurd hj (hS j)) (fun n sz e => by cases e) (fun n sz cs e => by cases e)
  exact ⟨R.put_own hrole L (fun _ => .cells cs' arr' t (DH hb) (h.mono L) hrole hS), L⟩
end Go.Abs
namespace Go.Abs
open Go
structure TI where
 desc : TypeDesc
 size : Nat
 bytes : Nat
 zero : V
def V.cs : V → List C
 | .c x => [x]
 | .agg cs => cs
 | .tup _ => []
def V.solid : V → Bool
 | .c .any => false
 | .c _ => true
 | .agg _ => true
 | .tup _ => false
def SR : C → Value → Bool
 | .d (.int k n), .int k' n' => k == k' && n == n'
 | .d (.bool b), .bool b' => b == b'
 | .full [], .slice none 0 0 => true
 | .nilp, .pointer none => true
 | .any, v => v.oneCell'
 | _, _ => false
def E3 : List C → List Value → Bool
 | [], [] => true
 | c :: cs, v :: vs => SR c v && E3 cs vs
 | _, _ => false
def JZ : V → Value → Bool
 | .c x, v => x matches .any || SR x v
 | .agg cs, .agg arr => E3 cs arr.toList
 | _, _ => false
def BS : TypeDesc → Bool
 | .struct _ | .array _ _ => true
 | _ => false
def fld (t o : Nat) : Field := { name := "", type := t, offset := o, embedded := false, tag := "", pkgPath := "", byteOffset := 0 }
def OH : TypeDesc → TypeDesc
 | .struct fs => .struct (fs.map fun f => fld f.type f.offset)
 | .func _ _ _ => .func #[] #[] false
 | d => d
def Nx : TypeDesc → Bool
 | .struct _ => false
 | .func _ _ _ => false
 | _ => true
structure By (P : Program) (tt : Nat → Option TI) : Prop where
 desc : ∀ t i, tt t = some i → ∃ d, P.underlying t = some d ∧ OH d = i.desc
 info : ∀ t i, tt t = some i → ∃ inf, P.info? t = some inf ∧ inf.size = i.size ∧ inf.bytes = i.bytes ∧ ∃ z, inf.zero = some z ∧ JZ i.zero z = true ∧ i.zero.cs.length = i.size ∧ E3 i.zero.cs z.cells.toList = true
 one : ∀ t i, tt t = some i → BS i.desc = false → i.size = 1
 aggr : ∀ t i, tt t = some i → BS i.desc = true → ∃ cs, i.zero = .agg cs
theorem Mv {w : World} {G : Gh} {H : List AB} {x : C} {v : Value} (h : SR x v = true) : Ap w G H x v ∧ v.oneCell' = true := by
 unfold SR at h
 split at h
 ·simp at h; obtain ⟨rfl, rfl⟩ := h; exact ⟨.d _ _ (.int _ _), rfl⟩
 ·simp at h; subst h; exact ⟨.d _ _ (.bool _), rfl⟩
 ·exact ⟨.full [] none 0 rfl (.emp none 0), rfl⟩
 ·exact ⟨.nilp, rfl⟩
 ·exact ⟨.any _, h⟩
 ·cases h
theorem BD {w : World} {G : Gh} {H : List AB} : ∀ {cs : List C} {vs : List Value}, E3 cs vs = true → An w G H cs vs
 | [], [], _ => ⟨rfl, fun i x v h => by simp at h⟩
 | c :: cs, v :: vs, h => by
  simp only [E3, Bool.and_eq_true] at h
  have ih := BD (w := w) (G := G) (H := H) h.2
  refine ⟨by simp [ih.1], fun i x u hx hu => ?_⟩
  cases i with
  | zero => simp at hx hu; subst hx; subst hu; exact Mv h.1
  | succ i => simp at hx hu; exact ih.2 i x u hx hu
 | [], _ :: _, h => by simp [E3] at h
 | _ :: _, [], h => by simp [E3] at h
theorem F5 {w : World} {G : Gh} {H : List AB} {x : V} {v : Value} (h : JZ x v = true) : Ag w G H x v := by
 cases x with
 | c x =>
  simp only [JZ, Bool.or_eq_true] at h
  rcases h with h | h
  ·cases x <;> simp at h
   exact .c _ _ (.any _)
  ·exact .c _ _ (Mv h).1
 | agg cs =>
  cases v <;> simp [JZ] at h
  exact .agg _ _ (BD h)
 | tup vs => simp [JZ] at h
theorem By.desc_at {P : Program} {tt : Nat → Option TI} (T : By P tt) {t : Nat} {i : TI} (h : tt t = some i) {d : TypeDesc} (hd : i.desc = d) (hs : Nx d = true) : P.underlying t = some d := by
 obtain ⟨d', h1, h2⟩ := T.desc t i h
 rw [h1, ← hd, ← h2]
 subst hd
 rw [← h2] at hs
 cases d' <;> first | rfl | (simp [OH, Nx] at hs)
theorem By.run_at {P : Program} {tt : Nat → Option TI} (T : By P tt) {t : Nat} {i : TI} (h : tt t = some i) {d : TypeDesc} (hd : i.desc = d) (hs : Nx d = true) (w : World) : (underlying t).run P w = .ok d w := by
 simp [underlying, T.desc_at h hd hs]
theorem By.desc_struct {P : Program} {tt : Nat → Option TI} (T : By P tt) {t : Nat} {i : TI} (h : tt t = some i) {fs : Array Field} (hd : i.desc = .struct fs) :
  ∃ fs' : Array Field, P.underlying t = some (.struct fs') ∧ fs'.map (fun f => fld f.type f.offset) = fs := by
 obtain ⟨d', h1, h2⟩ := T.desc t i h
 rw [hd] at h2
 cases d' <;> simp [OH] at h2
 exact ⟨_, h1, h2⟩
theorem By.run_struct {P : Program} {tt : Nat → Option TI} (T : By P tt) {t : Nat} {i : TI} (h : tt t = some i) {fs : Array Field} (hd : i.desc = .struct fs) (w : World) :
  ∃ fs' : Array Field, (underlying t).run P w = .ok (.struct fs') w ∧ fs'.map (fun f => fld f.type f.offset) = fs := by
 obtain ⟨fs', h1, h2⟩ := T.desc_struct h hd
 exact ⟨fs', by simp [underlying, h1], h2⟩
theorem Hc {fs fs' : Array Field} {f : Nat} {fd : Field} (h : fs'.map (fun f => fld f.type f.offset) = fs) (hf : fs[f]? = some fd) : ∃ fd', fs'[f]? = some fd' ∧ fd'.type = fd.type ∧ fd'.offset = fd.offset := by
 subst h
 rw [Array.getElem?_map] at hf
 cases hq : fs'[f]? with
 | none => rw [hq] at hf; cases hf
 | some q => rw [hq] at hf; cases hf; exact ⟨q, rfl, rfl, rfl⟩
theorem By.run_sizeOf {P : Program} {tt : Nat → Option TI} (T : By P tt) {t : Nat} {i : TI} (h : tt t = some i) (w : World) : (sizeOf t).run P w = .ok i.size w := by
 obtain ⟨inf, h1, h2, _⟩ := T.info t i h
 simp [sizeOf, typeInfo, h1, h2]
theorem By.run_bytes {P : Program} {tt : Nat → Option TI} (T : By P tt) {t : Nat} {i : TI} (h : tt t = some i) (w : World) : ∃ inf, (typeInfo t).run P w = .ok inf w ∧ inf.bytes = i.bytes := by
 obtain ⟨inf, h1, h2, h3, _⟩ := T.info t i h
 exact ⟨inf, by simp [typeInfo, h1], h3⟩
theorem By.run_zero {P : Program} {tt : Nat → Option TI} (T : By P tt) {t : Nat} {i : TI} (h : tt t = some i) :
  ∃ z, (∀ w, (zeroValue t).run P w = .ok z w) ∧ JZ i.zero z = true ∧ E3 i.zero.cs z.cells.toList = true ∧ i.zero.cs.length = i.size := by
 obtain ⟨inf, h1, h2, h3, z, h4, h5, h7, h8⟩ := T.info t i h
 exact ⟨z, fun w => by simp [zeroValue, typeInfo, h1, h4], h5, h8, h7⟩
theorem By.run_isAgg {P : Program} {tt : Nat → Option TI} (T : By P tt) {t : Nat} {i : TI} (h : tt t = some i) (w : World) : (isAgg t).run P w = .ok (BS i.desc) w := by
 obtain ⟨d, h1, h2⟩ := T.desc t i h
 have : (underlying t).run P w = .ok d w := by simp [underlying, h1]
 simp only [isAgg, Sem.run_bind, this, Result.andThen_ok, ← h2]
 cases d <;> rfl
def TH : List Field → List Field → Bool
 | [], [] => true
 | f :: fs, g :: gs => f.type == g.type && f.offset == g.offset && TH fs gs
 | _, _ => false
def eqD : TypeDesc → TypeDesc → Bool
 | .bool, .bool => true
 | .int k, .int k' => k == k'
 | .slice e, .slice e' => e == e'
 | .array n e, .array n' e' => n == n' && e == e'
 | .pointer e, .pointer e' => e == e'
 | .map k e, .map k' e' => k == k' && e == e'
 | .struct fs, .struct gs => TH fs.toList gs.toList
 | .func _ _ _, .func ps rs v => ps.isEmpty && rs.isEmpty && !v
 | _, _ => false
def U8 : TypeDesc → Bool
 | .struct fs => fs.toList.all (fun f => f.name == "" && !f.embedded && f.tag == "" && f.pkgPath == "" && f.byteOffset == 0)
 | _ => true
def Q3 (P : Program) (t : Nat) (i : TI) : Bool :=
 (match P.underlying t with | some d => eqD d i.desc | none => false) &&
 (match P.info? t with
  | some inf => inf.size == i.size && inf.bytes == i.bytes && (match inf.zero with
   | some z => JZ i.zero z && i.zero.cs.length == i.size && E3 i.zero.cs z.cells.toList
   | none => false)
  | none => false) &&
 (if BS i.desc then (match i.zero with | .agg _ => true | _ => false) else i.size == 1) &&
 U8 i.desc
theorem OI : ∀ (fs gs : List Field), TH fs gs = true → gs.all (fun f => f.name == "" && !f.embedded && f.tag == "" && f.pkgPath == "" && f.byteOffset == 0) = true → fs.map (fun f => fld f.type f.offset) = gs
 | [], [], _, _ => rfl
 | f :: fs, g :: gs, h, h' => by
  simp only [TH, Bool.and_eq_true, beq_iff_eq] at h
  simp only [List.all_cons, Bool.and_eq_true, beq_iff_eq, Bool.not_eq_true'] at h'
  obtain ⟨⟨h1, h2⟩, h3⟩ := h
  obtain ⟨⟨⟨⟨⟨a1, a2⟩, a3⟩, a4⟩, a5⟩, h4⟩ := h'
  rw [List.map_cons, OI fs gs h3 h4]
  congr 1
  cases g
  simp_all [fld]
 | [], _ :: _, h, _ => by simp [TH] at h
 | _ :: _, [], h, _ => by simp [TH] at h
theorem TJ {d e : TypeDesc} (h : eqD d e = true) (h' : U8 e = true) : OH d = e := by
 unfold eqD at h
 split at h
 ·rfl
 ·simp at h; subst h; rfl
 ·simp at h; subst h; rfl
 ·simp at h; obtain ⟨rfl, rfl⟩ := h; rfl
 ·simp at h; subst h; rfl
 ·simp at h; obtain ⟨rfl, rfl⟩ := h; rfl
 ·rename_i fs gs
  simp only [OH]
  congr 1
  apply Array.toList_inj.1
  rw [Array.toList_map]
  exact OI _ _ h h'
 ·rename_i ps rs v
  simp at h
  obtain ⟨⟨h1, h2⟩, h3⟩ := h
  subst h1; subst h2; subst h3
  rfl
 ·cases h
def Aj (P : Program) (s : Sem Value) (w : World) (G : Gh) (H : List AB) (x : V) (H' : List AB) : Prop :=
 ∃ v w' G', s.run P w = .ok v w' ∧ Ag w' G' H' x v ∧ Rel w' G' H' ∧ Am w G H w' G' H'
theorem Aj.still {P : Program} {s : Sem Value} {w : World} {G : Gh} {H : List AB} {x : V} {v : Value} (R : Rel w G H) (h : s.run P w = .ok v w) (hx : Ag w G H x v) : Aj P s w G H x H :=
 ⟨v, w, G, h, hx, R, Am.refl _ _ _⟩
def AL (P : Program) (ro : Option Nat) (o : Oper) (H : List AB) (E : Operand → V) (post : V → List AB → Prop) : Prop :=
 ∀ (w : World) (G : Gh) (a : Act) (next : Act → World → Prop) (Q : Exit → Act → World → Prop), Rel w G H → (∀ x ∈ o.op.operands, Ag w G H (E x) (a.eval x)) →
  (∀ v x H' G' w', post x H' → Ag w' G' H' x v → Rel w' G' H' → Am w G H w' G' H' → next (a.put o.dst v) w') →
  o.wpIn { Fence.wide with round := ro } 0 P a w next Q
theorem AL.mono {P : Program} {ro : Option Nat} {o : Oper} {H : List AB} {E : Operand → V} {post post' : V → List AB → Prop} (h : AL P ro o H E post) (hp : ∀ x H', post x H' → post' x H') : AL P ro o H E post' :=
 fun w G a next Q R hE hn => h w G a next Q R hE fun v x H' G' w' hpo => hn v x H' G' w' (hp _ _ hpo)
abbrev one (x : V) (H : List AB) : V → List AB → Prop := fun y H' => y = x ∧ H' = H
theorem AL.of_value {P : Program} {ro : Option Nat} {o : Oper} {H H' : List AB} {E : Operand → V} {x : V} {s : (Operand → Value) → Sem Value} (hd : ∀ c, o.op ≠ .defer c)
  (hs : ∀ ρ, execOp ρ o = (do pure (.value (← s ρ))))
  (h : ∀ w G (a : Act), Rel w G H → (∀ x ∈ o.op.operands, Ag w G H (E x) (a.eval x)) → Aj P (s a.eval) w G H x H') : AL P ro o H E (one x H') := by
 intro w G a next Q R hE hn
 obtain ⟨v, w', G', h1, h2, h3, h4⟩ := h w G a R hE
 refine ⟨fun _ _ => trivial, ?_⟩
 rw [Oper.semAt_eq _ _ _ hd, hs]
 simp only [Sem.run_bind, h1, Result.andThen_ok, Sem.run_pure, Oper.uponIn_value]
 exact hn v x H' G' w' ⟨rfl, rfl⟩ h2 h3 h4
theorem AL.of_unit {P : Program} {ro : Option Nat} {o : Oper} {H H' : List AB} {E : Operand → V} {s : (Operand → Value) → Sem Unit} (hd : ∀ c, o.op ≠ .defer c)
  (hs : ∀ ρ, execOp ρ o = (do s ρ; pure .skip))
  (h : ∀ w G (a : Act), Rel w G H → (∀ x ∈ o.op.operands, Ag w G H (E x) (a.eval x)) → ∃ w' G', (s a.eval).run P w = .ok () w' ∧ Rel w' G' H' ∧ Am w G H w' G' H') : AL P ro o H E (one (.c .any) H') := by
 intro w G a next Q R hE hn
 obtain ⟨w', G', h1, h3, h4⟩ := h w G a R hE
 refine ⟨fun _ _ => trivial, ?_⟩
 rw [Oper.semAt_eq _ _ _ hd, hs]
 simp only [Sem.run_bind, h1, Result.andThen_ok, Sem.run_pure, Oper.uponIn_skip]
 exact hn _ (.c .any) H' G' w' ⟨rfl, rfl⟩ (.c _ _ (.any _)) h3 h4
end Go.Abs
namespace Go.Abs
open Go
section
variable {P : Program} {tt : Nat → Option TI} (T : By P tt) {w : World} {G : Gh} {H : List AB}
theorem An.nil : An w G H [] [] := ⟨rfl, fun i x v h => by simp at h⟩
theorem An.get {cs : List C} {vs : List Value} (h : An w G H cs vs) {i : Nat} {x : C} (hx : cs[i]? = some x) : ∃ v, vs[i]? = some v ∧ Ap w G H x v ∧ v.oneCell' = true := by
 have hi : i < vs.length := by rw [← h.1]; exact (List.getElem?_eq_some_iff.1 hx).1
 exact ⟨vs[i], by simp [hi], h.2 i x _ hx (by simp [hi])⟩
theorem An.take {cs : List C} {vs : List Value} (h : An w G H cs vs) (n : Nat) : An w G H (cs.take n) (vs.take n) :=
 ⟨by simp [h.1], fun i x v hx hv => by
  rw [List.getElem?_take] at hx hv
  split at hx
  ·rename_i hi; simp only [hi, if_true] at hv; exact h.2 i x v hx hv
  ·cases hx⟩
theorem An.drop {cs : List C} {vs : List Value} (h : An w G H cs vs) (n : Nat) : An w G H (cs.drop n) (vs.drop n) :=
 ⟨by simp [h.1], fun i x v hx hv => by
  rw [List.getElem?_drop] at hx hv
  exact h.2 _ x v hx hv⟩
theorem An.append {cs cs' : List C} {vs vs' : List Value} (h : An w G H cs vs) (h' : An w G H cs' vs') : An w G H (cs ++ cs') (vs ++ vs') :=
 ⟨by simp [h.1, h'.1], fun i x v hx hv => by
  by_cases hi : i < cs.length
  ·rw [List.getElem?_append_left hi] at hx
   rw [List.getElem?_append_left (by rw [← h.1]; exact hi)] at hv
   exact h.2 i x v hx hv
  ·rw [List.getElem?_append_right (Nat.le_of_not_lt hi)] at hx
   rw [List.getElem?_append_right (by rw [← h.1]; exact Nat.le_of_not_lt hi), ← h.1] at hv
   exact h'.2 _ x v hx hv⟩
theorem An.single {x : C} {v : Value} (h : Ap w G H x v) (ho : v.oneCell' = true) : An w G H [x] [v] :=
 ⟨rfl, fun i y u hy hu => by
  cases i with
  | zero => simp at hy hu; subst hy; subst hu; exact ⟨h, ho⟩
  | succ i => simp at hy⟩
theorem An.set {cs : List C} {vs : List Value} (h : An w G H cs vs) {x : C} {v : Value} (hx : Ap w G H x v) (ho : v.oneCell' = true) (i : Nat) : An w G H (cs.set i x) (vs.set i v) :=
 ⟨by simp [h.1], fun j y u hy hu => by
  by_cases e : i = j
  ·subst e
   have hi : i < cs.length := by have := (List.getElem?_eq_some_iff.1 hy).1; simpa using this
   simp [hi] at hy
   simp [h.1 ▸ hi] at hu
   subst hy; subst hu; exact ⟨hx, ho⟩
  ·rw [List.getElem?_set_ne e] at hy hu
   exact h.2 j y u hy hu⟩
theorem Ag.cells {x : V} {v : Value} (h : Ag w G H x v) (hs : x.solid = true) : An w G H x.cs v.cells.toList := by
 cases h with
 | c x v h =>
  have hx : x ≠ .any := by intro e; subst e; simp [V.solid] at hs
  have ho := h.one hx
  rw [Nw ho]
  exact An.single h ho
 | agg cs arr h => exact h
 | tup vs arr _ _ => simp [V.solid] at hs
theorem CQ (R : Rel w G H) {id : Nat} {cs : List C} (h : H[id]? = some (.cells cs)) :
  ∃ arr t, w.heap[G.rho id]? = some (.cells arr t (0, 0)) ∧ An w G H cs arr.toList := by
 cases R.ab id _ h with
 | cells _ arr t hb hr _ _ => exact ⟨arr, t, hb, hr⟩
theorem Cr {arr : Array Value} {t : TypeId} {b : Nat} {fr : Nat × Nat} (hb : w.heap[b]? = some (.cells arr t fr)) (j : Nat) : w.cell? ⟨b, j, none⟩ = arr.toList[j]? := by
 rw [cell_of_row w b j arr t fr hb]; simp
def mkV (i : TI) (cs : List C) (off : Nat) : V := if BS i.desc then .agg ((cs.drop off).take i.size) else .c (cs[off]?.getD .any)
include T
theorem IK {t : Nat} {i : TI} (ht : tt t = some i) {b off : Nat} {vs : List Value} (hoff : off + i.size ≤ vs.length) (hc : ∀ j, j < i.size → w.cell? ⟨b, off + j, none⟩ = vs[off + j]?) :
  (loadVar t ⟨b, off, none⟩).run P w = .ok (if BS i.desc then .agg ((vs.drop off).take i.size).toArray else vs[off]?.getD undef) w := by
 simp only [loadVar, Sem.run_bind, T.run_isAgg ht, Result.andThen_ok]
 cases ha : BS i.desc with
 | true =>
  simp only [if_true, Sem.run_bind, T.run_sizeOf ht, Result.andThen_ok]
  have hl : ((vs.drop off).take i.size).length = i.size := by simp; omega
  have := run_loadCells_list (P := P) w ⟨b, off, none⟩ ((vs.drop off).take i.size) (fun j v hj => by
   rw [Addr.add_lit]
   have hj' : j < i.size := by have := (List.getElem?_eq_some_iff.1 hj).1; omega
   rw [hc j hj']
   rw [List.getElem?_take, if_pos hj', List.getElem?_drop] at hj
   exact hj)
  rw [hl] at this
  simp only [this, Result.andThen_ok, Sem.run_pure]
 | false =>
  have h1 := T.one t i ht ha
  have h0 := hc 0 (by omega)
  simp only [Nat.add_zero] at h0
  have hlt : off < vs.length := by omega
  simp only [Bool.false_eq_true, if_false, run_load, h0, List.getElem?_eq_getElem hlt, Option.getD_some]
theorem D7 {t : Nat} {i : TI} (ht : tt t = some i) {b off : Nat} {cs : List C} {vs : List Value} (R : Rel w G H) (hr : An w G H cs vs) (hoff : off + i.size ≤ cs.length)
  (hc : ∀ j, j < i.size → w.cell? ⟨b, off + j, none⟩ = vs[off + j]?) : Aj P (loadVar t ⟨b, off, none⟩) w G H (mkV i cs off) H := by
 refine Aj.still R (IK T ht (by rw [← hr.1]; exact hoff) hc) ?_
 unfold mkV
 cases ha : BS i.desc with
 | true => simp only [if_true]; exact .agg _ _ (by simpa using (hr.drop off).take i.size)
 | false =>
  have h1 := T.one t i ht ha
  have hlt : off < cs.length := by omega
  obtain ⟨v, hv, hx, _⟩ := hr.get (i := off) (x := cs[off]) (by simp [hlt])
  simp only [Bool.false_eq_true, if_false, hv, List.getElem?_eq_getElem hlt, Option.getD_some]
  exact .c _ _ hx
theorem Jx {t : Nat} {i : TI} (ht : tt t = some i) {id off : Nat} {cs : List C} {a : Value} (R : Rel w G H) (hid : H[id]? = some (.cells cs)) (hoff : off + i.size ≤ cs.length)
  (ha : Ag w G H (.c (.ptr id off)) a) : Aj P (Instr.loadAt t a) w G H (mkV i cs off) H := by
 cases ha with
 | c _ _ ha =>
  cases ha with
  | ptr _ _ _ =>
   obtain ⟨arr, t', hb, hr⟩ := CQ R hid
   have := D7 T ht (b := G.rho id) R hr hoff (fun j _ => Cr hb _)
   obtain ⟨v, w', G', h1, h2⟩ := this
   exact ⟨v, w', G', by simpa [Instr.loadAt, Instr.sureAddr] using h1, h2⟩
omit T in
theorem Q4 {ds : List D} {f : Nat → Value} (hrel : ∀ (j : Nat) (x : D), ds[j]? = some x → Br w G.S x (f j)) : An w G H (ds.map .d) ((List.range ds.length).map f) := by
 refine ⟨by simp, fun i x v hx hv => ?_⟩
 rw [List.getElem?_map] at hx hv
 cases hd : ds[i]? with
 | none => simp [hd] at hx
 | some y =>
  have hi : i < ds.length := (List.getElem?_eq_some_iff.1 hd).1
  simp [hd] at hx
  simp [hi] at hv
  subst hx; subst hv
  have := hrel i y hd
  exact ⟨.d _ _ this, this.one⟩
end
end Go.Abs
namespace Go.Abs
open Go
def Does (P : Program) (s : Sem Unit) (w : World) (G : Gh) (H H' : List AB) : Prop :=
 ∃ w' G', s.run P w = .ok () w' ∧ Rel w' G' H' ∧ Am w G H w' G' H'
theorem World.ext' {w w' : World} (h1 : w.heap = w'.heap) (h2 : w.tape = w'.tape) (h3 : w.drawn = w'.drawn) (h4 : w.os = w'.os) (h5 : w.output = w'.output) : w = w' := by
 cases w; cases w'; simp_all
theorem OJ {w : World} {b : Nat} {arr : Array Value} {t : TypeId} {fr : Nat × Nat} (hb : w.heap[b]? = some (.cells arr t fr)) (o : Nat) (v : Value) :
  w.setCell ⟨b, o, none⟩ v = w.putObj b (.cells (arr.setIfInBounds o v) t fr) := by
 refine World.ext' ?_ rfl rfl rfl rfl
 simp only [World.setCell, World.putObj]
 apply Array.ext_getElem?
 intro k
 rw [Array.getElem?_modify, Array.getElem?_setIfInBounds]
 by_cases e : b = k
 ·subst e
  obtain ⟨hlt, hb'⟩ := Array.getElem?_eq_some_iff.1 hb
  simp [hb', hlt]
 ·simp [e]
theorem aD2 {w : World} {b : Nat} {o o' : Obj} : (w.putObj b o).putObj b o' = w.putObj b o' := by
 refine World.ext' ?_ rfl rfl rfl rfl
 simp [World.putObj]
theorem J0 {w : World} {b : Nat} {o : Obj} (h : w.heap[b]? = some o) : w.putObj b o = w := by
 refine World.ext' ?_ rfl rfl rfl rfl
 simp only [World.putObj]
 apply Array.ext_getElem?
 intro k
 rw [Array.getElem?_setIfInBounds]
 by_cases e : b = k
 ·subst e
  obtain ⟨hlt, hb'⟩ := Array.getElem?_eq_some_iff.1 h
  simp [hb', hlt]
 ·simp [e]
def setMany {α : Type} : List α → Nat → List α → List α
 | l, _, [] => l
 | l, off, x :: xs => setMany (l.set off x) (off + 1) xs
theorem As {α : Type} : ∀ (vs l : List α) (off : Nat), (setMany l off vs).length = l.length
 | [], l, off => rfl
 | v :: vs, l, off => by rw [setMany, As vs]; simp
theorem FE {α : Type} : ∀ (vs l : List α) (off i : Nat), off + vs.length ≤ l.length → (setMany l off vs)[i]? = if off ≤ i ∧ i < off + vs.length then vs[i - off]? else l[i]?
 | [], l, off, i, _ => by simp [setMany]; omega
 | v :: vs, l, off, i, h => by
  simp only [List.length_cons] at h
  rw [setMany, FE vs (l.set off v) (off + 1) i (by simp; omega)]
  by_cases h1 : off + 1 ≤ i ∧ i < off + 1 + vs.length
  ·rw [if_pos h1, if_pos (by simp; omega)]
   obtain ⟨d, rfl⟩ : ∃ d, i = off + 1 + d := ⟨i - (off + 1), by omega⟩
   have e1 : off + 1 + d - (off + 1) = d := by omega
   have e2 : off + 1 + d - off = d + 1 := by omega
   rw [e1, e2]; simp
  ·rw [if_neg h1]
   by_cases h2 : i = off
   ·subst h2
    rw [if_pos (by simp)]
    have : i < l.length := by omega
    simp [this]
   ·rw [if_neg (by simp; omega), List.getElem?_set_ne (by omega)]
section
variable {P : Program} {tt : Nat → Option TI} {w : World} {G : Gh} {H : List AB}
theorem An.setMany {cs : List C} {vs : List Value} (h : An w G H cs vs) : ∀ {xs : List C} {us : List Value} (off : Nat), An w G H xs us → An w G H (setMany cs off xs) (Abs.setMany vs off us) := by
 intro xs
 induction xs generalizing cs vs with
 | nil =>
  intro us off hx
  have : us = [] := by have := hx.1; simpa using this.symm
  subst this; exact h
 | cons x xs ih =>
  intro us off hx
  cases us with
  | nil => have := hx.1; simp at this
  | cons u us =>
   obtain ⟨hxu, ho⟩ := hx.2 0 x u rfl rfl
   simp only [Abs.setMany]
   refine ih (h.set hxu ho off) (off + 1) ⟨by have := hx.1; simpa using this, fun i y v hy hv => hx.2 (i + 1) y v (by simpa using hy) (by simpa using hv)⟩
theorem BK (P : Program) {b off : Nat} {t : TypeId} : ∀ (vs : List Value) (i : Nat) (w : World) (arr : Array Value), w.heap[b]? = some (.cells arr t (0, 0)) → off + i + vs.length ≤ arr.size →
  (∀ v ∈ vs, v.oneCell' = true) → (storeCells ⟨b, off, none⟩ vs i).run P w = .ok () (w.putObj b (.cells (setMany arr.toList (off + i) vs).toArray t (0, 0)))
 | [], i, w, arr, hb, _, _ => by
  simp only [storeCells, Sem.run_pure, setMany]
  rw [show arr.toList.toArray = arr from by simp, J0 hb]
 | v :: vs, i, w, arr, hb, hl, hv => by
  simp only [List.length_cons] at hl
  have hc : w.cell? ⟨b, off + i, none⟩ = some (arr[off + i]'(by omega)) := by
   rw [cell_of_row w b (off + i) arr t (0, 0) hb]; simp
  have hf : w.frozen? ⟨b, off + i, none⟩ = false := frozen_of_row w b (off + i) arr t hb
  simp only [storeCells, Sem.run_bind, Addr.add_lit, run_store P w _ v _ (hv v (by simp)), hc, hf, Bool.false_eq_true, if_false, Result.andThen_ok]
  rw [OJ hb]
  have ih := BK P (b := b) (off := off) (t := t) vs (i + 1) (w.putObj b (.cells (arr.setIfInBounds (off + i) v) t (0, 0))) (arr.setIfInBounds (off + i) v) (DH hb) (by simp; omega) (fun u hu => hv u (by simp [hu]))
  rw [ih, aD2]
  congr 4
  simp [setMany, Nat.add_assoc]
theorem An.ones {cs : List C} {vs : List Value} (h : An w G H cs vs) : ∀ v ∈ vs, v.oneCell' = true := fun v hv => by
 obtain ⟨i, hi⟩ := List.getElem?_of_mem hv
 have hlt : i < cs.length := by rw [h.1]; exact (List.getElem?_eq_some_iff.1 hi).1
 exact (h.2 i cs[i] v (by simp [hlt]) hi).2
theorem Q5 (T : By P tt) {t : Nat} {i : TI} (ht : tt t = some i) {id off : Nat} {cs : List C} {a v : Value} {x : V} (R : Rel w G H) (hid : H[id]? = some (.cells cs))
  (ha : Ag w G H (.c (.ptr id off)) a) (hx : Ag w G H x v) (hs : x.solid = true) (hl : x.cs.length = i.size) (hoff : off + i.size ≤ cs.length) :
  Does P (Instr.storeAt t a v) w G H (H.set id (.cells (setMany cs off x.cs))) := by
 cases ha with
 | c _ _ ha =>
  cases ha with
  | ptr _ _ _ =>
   obtain ⟨arr, t', hb, hr⟩ := CQ R hid
   have hc := hx.cells hs
   have hsz : v.cells.size = i.size := by rw [← hl, hc.1]; simp
   have hlen : arr.size = cs.length := by have := hr.1; simp at this; omega
   obtain ⟨R', L'⟩ := R.put_cells (cs' := setMany cs off x.cs) (arr' := (setMany arr.toList off v.cells.toList).toArray) hid hb (by simpa using hr.setMany off hc)
   refine ⟨_, G, ?_, R', L'⟩
   simp only [Instr.storeAt, Instr.sureAddr, Sem.run_bind, Sem.run_pure, Result.andThen_ok, storeVar, T.run_sizeOf ht, hsz, ne_eq, not_true, if_false]
   have := BK P (b := G.rho id) (off := off) (t := t') v.cells.toList 0 w arr hb (by simp; omega) hc.ones
   simpa using this
theorem IL {t : TypeId} {cs : List C} {v : Value} (R : Rel w G H) (hc : An w G H cs v.cells.toList) :
  Aj P (do pure (.pointer (some (← newVar t v)))) w G H (.c (.ptr H.length 0)) (H ++ [.cells cs]) := by
 refine ⟨.pointer (some ⟨w.heap.size, 0, none⟩), w.alloc (.cells v.cells t), G.own H.length w.heap.size, ?_, ?_, R.alloc_cells t hc, Am.alloc_own R _ _⟩
 ·simp [newVar, newRow]
 ·have := Ap.ptr (w := w.alloc (.cells v.cells t)) (G := G.own H.length w.heap.size) (H := H ++ [.cells cs]) H.length 0 (by simp)
  simp only [Gh.own, Ao] at this
  exact .c _ _ this
theorem Q6 {t : TypeId} {x : V} {v : Value} (R : Rel w G H) (hx : Ag w G H x v) (hs : x.solid = true) :
  Aj P (do pure (.pointer (some (← newVar t v)))) w G H (.c (.ptr H.length 0)) (H ++ [.cells x.cs]) := IL R (hx.cells hs)
theorem Q7 {t : TypeId} {x : V} {v : Value} (R : Rel w G H) (hx : Ag w G H x v) (hs : x.solid = true) :
  Aj P (Instr.box t v) w G H (.c (.ptr H.length 0)) (H ++ [.cells x.cs]) := Q6 R hx hs
theorem Ny (T : By P tt) {t : Nat} {i : TI} (ht : tt t = some i) (R : Rel w G H) : Aj P (Instr.alloc t true (.tuple #[])) w G H (.c (.ptr H.length 0)) (H ++ [.cells i.zero.cs]) := by
 obtain ⟨z, hz, h1, h2, h3⟩ := T.run_zero ht
 obtain ⟨v, w', G', hr, h⟩ := IL (P := P) (t := t) (w := w) (G := G) (H := H) (v := z) R (BD h2)
 refine ⟨v, w', G', ?_, h⟩
 simp only [Instr.alloc, Sem.run_bind, hz, Result.andThen_ok]
 exact hr
end
end Go.Abs
namespace Go.Abs
open Go
def CW : C → Option (List (List D))
 | .d (.sl r) => some r
 | .full r => some r
 | .own _ r => some r
 | _ => none
def toD : C → Option D
 | .d x => some x
 | .full r => some (.sl r)
 | .own _ r => some (.sl r)
 | .dp ds => some (.ptr ds)
 | _ => none
def DY : List C → Option (List D)
 | [] => some []
 | c :: cs => match toD c, DY cs with
  | some x, some xs => some (x :: xs)
  | _, _ => none
section
variable {P : Program} {tt : Nat → Option TI} {w : World} {G : Gh} {H : List AB}
theorem Dp {x : C} {v : Value} {rows : List (List D)} (hx : CW x = some rows) (h : Ap w G H x v) : ∃ a cap, v = .slice a rows.length cap ∧ Br w G.S (.sl rows) v := by
 cases x <;> simp [CW] at hx
 case d x =>
  cases x <;> simp at hx
  subst hx
  cases h with
  | d _ _ h =>
   have h0 := h
   cases h with
   | emp a cap => exact ⟨a, cap, rfl, h0⟩
   | sl rows b o cap sz f h1 h2 h3 h4 h5 => exact ⟨_, cap, rfl, h0⟩
 case full r => subst hx; cases h with | full _ a n hn h => subst hn; exact ⟨a, _, rfl, h⟩
 case own id r => subst hx; cases h with | own _ _ a n cap hid hn h hg => subst hn; exact ⟨a, cap, rfl, h⟩
theorem JM {x : C} {v : Value} {y : D} (hx : toD x = some y) (h : Ap w G H x v) : Br w G.S y v := by
 cases x <;> simp [toD] at hx
 case d x => subst hx; cases h; assumption
 case full r => subst hx; cases h; assumption
 case own id r => subst hx; cases h; assumption
 case dp ds => subst hx; cases h with | dp _ b o f hcell hrel => exact .ptr ds b o f hcell hrel
theorem Hd : ∀ {cs : List C} {ds : List D}, DY cs = some ds → cs.length = ds.length ∧ ∀ (i : Nat) (x : C), cs[i]? = some x → ∃ y, ds[i]? = some y ∧ toD x = some y
 | [], ds, h => by simp [DY] at h; subst h; exact ⟨rfl, fun i x h => by simp at h⟩
 | c :: cs, ds, h => by
  simp only [DY] at h
  split at h
  ·rename_i x xs hx hxs
   simp at h; subst h
   obtain ⟨h1, h2⟩ := Hd hxs
   refine ⟨by simp [h1], fun i y hy => ?_⟩
   cases i with
   | zero => simp at hy; subst hy; exact ⟨x, by simp, hx⟩
   | succ i => simp at hy; simpa using h2 i y hy
  ·cases h
theorem Bz {k : IntKind} {n : Int} {v : Value} (h : Ag w G H (.c (.d (.int k n))) v) : v = .int k n := by
 cases h with | c _ _ h => cases h with | d _ _ h => cases h; rfl
theorem EL {b : Bool} {v : Value} (h : Ag w G H (.c (.d (.bool b))) v) : v = .bool b := by
 cases h with | c _ _ h => cases h with | d _ _ h => cases h; rfl
theorem F6 {id off : Nat} {v : Value} (h : Ag w G H (.c (.ptr id off)) v) : v = .pointer (some ⟨G.rho id, off, none⟩) ∧ id < H.length := by
 cases h with | c _ _ h => cases h with | ptr _ _ h => exact ⟨rfl, h⟩
theorem Nz {ds : List D} {v : Value} (h : Ag w G H (.c (.dp ds)) v) : ∃ (b o : Nat) (f : Nat → Value), v = .pointer (some ⟨b, o, none⟩) ∧ (∀ j, j < ds.length → G.S b (o + j) ∧ w.cell? ⟨b, o + j, none⟩ = some (f j)) ∧
  (∀ (j : Nat) (x : D), ds[j]? = some x → Br w G.S x (f j)) := by
 cases h with | c _ _ h => cases h with | dp _ b o f h1 h2 => exact ⟨b, o, f, rfl, h1, h2⟩
theorem SS {ds : List D} {b o : Nat} {f : Nat → Value} (h1 : ∀ j, j < ds.length → G.S b (o + j) ∧ w.cell? ⟨b, o + j, none⟩ = some (f j)) (h2 : ∀ (j : Nat) (x : D), ds[j]? = some x → Br w G.S x (f j)) (n : Nat) :
  Ag w G H (.c (.dp (ds.drop n))) (.pointer (some ⟨b, o + n, none⟩)) :=
 .c _ _ (.dp _ b (o + n) (fun j => f (n + j)) (fun j hj => by have := h1 (n + j) (by simp at hj; omega); rwa [← Nat.add_assoc] at this) (fun j x hx => h2 (n + j) x (by simpa using hx)))
theorem FF (T : By P tt) {t : Nat} {i : TI} (ht : tt t = some i) {ds : List D} {a : Value} (R : Rel w G H) (hoff : i.size ≤ ds.length)
  (ha : Ag w G H (.c (.dp ds)) a) : Aj P (Instr.loadAt t a) w G H (mkV i (ds.map .d) 0) H := by
 obtain ⟨b, o, f, rfl, h1, h2⟩ := Nz ha
 have hr : An w G H (List.replicate o .any ++ ds.map .d) (List.replicate o (Value.bool false) ++ (List.range ds.length).map f) := by
  refine An.append ⟨by simp, fun i x v hx hv => ?_⟩ (Q4 h2)
  simp [List.getElem?_replicate] at hx hv
  obtain ⟨_, rfl⟩ := hx
  obtain ⟨_, rfl⟩ := hv
  exact ⟨.any _, rfl⟩
 have := D7 T ht (b := b) (off := o) R hr (by simp; omega) (fun j hj => by
  rw [(h1 j (by omega)).2, List.getElem?_append_right (by simp)]
  have : j < ds.length := by omega
  simp [this])
 obtain ⟨v, w', G', e1, e2⟩ := this
 refine ⟨v, w', G', by simpa [Instr.loadAt, Instr.sureAddr] using e1, ?_⟩
 have : mkV i (List.replicate o .any ++ ds.map .d) o = mkV i (ds.map .d) 0 := by
  unfold mkV
  congr 1
  ·rw [List.drop_append_of_le_length (by simp)]; simp
  ·rw [List.getElem?_append_right (by simp)]; simp
 rwa [this] at e2
theorem J1 (T : By P tt) {t f : Nat} {i i' : TI} {fs : Array Field} {fd : Field} (ht : tt t = some i) (hd : i.desc = .struct fs) (hf : fs[f]? = some fd) (hi : tt fd.type = some i') (hz : i'.size ≠ 0)
  {id off : Nat} {a : Value} (R : Rel w G H) (ha : Ag w G H (.c (.ptr id off)) a) : Aj P (Instr.fieldAt t a f) w G H (.c (.ptr id (off + fd.offset))) H := by
 obtain ⟨rfl, hid⟩ := F6 ha
 refine Aj.still R (v := .pointer (some ⟨G.rho id, off + fd.offset, none⟩)) ?_ (.c _ _ (.ptr _ _ hid))
 obtain ⟨fs', e1, e2⟩ := T.run_struct ht hd w
 obtain ⟨fd', e3, e4, e5⟩ := Hc e2 hf
 rw [← e4] at hi
 simp [Instr.fieldAt, e1, e3, ← e5, Instr.sureAddr, fieldPlace, T.run_sizeOf hi, hz, Addr.add_lit]
theorem He (T : By P tt) {t f : Nat} {i i' : TI} {fs : Array Field} {fd : Field} (ht : tt t = some i) (hd : i.desc = .struct fs) (hf : fs[f]? = some fd) (hi : tt fd.type = some i') (hz : i'.size ≠ 0)
  {ds : List D} {a : Value} (R : Rel w G H) (ha : Ag w G H (.c (.dp ds)) a) : Aj P (Instr.fieldAt t a f) w G H (.c (.dp (ds.drop fd.offset))) H := by
 obtain ⟨b, o, g, rfl, h1, h2⟩ := Nz ha
 refine Aj.still R (v := .pointer (some ⟨b, o + fd.offset, none⟩)) ?_ (SS h1 h2 _)
 obtain ⟨fs', e1, e2⟩ := T.run_struct ht hd w
 obtain ⟨fd', e3, e4, e5⟩ := Hc e2 hf
 rw [← e4] at hi
 simp [Instr.fieldAt, e1, e3, ← e5, Instr.sureAddr, fieldPlace, T.run_sizeOf hi, hz, Addr.add_lit]
theorem GE (T : By P tt) {t len e : Nat} {i i' : TI} (ht : tt t = some i) (hd : i.desc = .array len e) (he : tt e = some i') {k : IntKind} {n : Int} (h0 : 0 ≤ n) (h1 : n < len)
  {id off : Nat} {a ix : Value} (R : Rel w G H) (ha : Ag w G H (.c (.ptr id off)) a) (hx : Ag w G H (.c (.d (.int k n))) ix) : Aj P (Instr.indexAt t a ix) w G H (.c (.ptr id (off + n.toNat * i'.size))) H := by
 obtain ⟨rfl, hid⟩ := F6 ha
 obtain rfl := Bz hx
 refine Aj.still R (v := .pointer (some ⟨G.rho id, off + n.toNat * i'.size, none⟩)) ?_ (.c _ _ (.ptr _ _ hid))
 simp [Instr.indexAt, asIntOf, T.run_at ht hd rfl, Instr.sureAddr, T.run_sizeOf he, h0, h1, Addr.add_lit]
theorem Hf (T : By P tt) {t len e : Nat} {i i' : TI} (ht : tt t = some i) (hd : i.desc = .array len e) (he : tt e = some i') {k : IntKind} {n : Int} (h0 : 0 ≤ n) (h1 : n < len)
  {ds : List D} {a ix : Value} (R : Rel w G H) (ha : Ag w G H (.c (.dp ds)) a) (hx : Ag w G H (.c (.d (.int k n))) ix) : Aj P (Instr.indexAt t a ix) w G H (.c (.dp (ds.drop (n.toNat * i'.size)))) H := by
 obtain ⟨b, o, g, rfl, h2, h3⟩ := Nz ha
 obtain rfl := Bz hx
 refine Aj.still R (v := .pointer (some ⟨b, o + n.toNat * i'.size, none⟩)) ?_ (SS h2 h3 _)
 simp [Instr.indexAt, asIntOf, T.run_at ht hd rfl, Instr.sureAddr, T.run_sizeOf he, h0, h1, Addr.add_lit]
theorem Hg (T : By P tt) {t e : Nat} {i i' : TI} (ht : tt t = some i) (hd : i.desc = .slice e) (he : tt e = some i') {k : IntKind} {n : Int} (h0 : 0 ≤ n)
  {x : C} {rows : List (List D)} {r : List D} (hr : CW x = some rows) (h1 : rows[n.toNat]? = some r) (h2 : r.length = i'.size) {a ix : Value} (R : Rel w G H) (ha : Ag w G H (.c x) a) (hx : Ag w G H (.c (.d (.int k n))) ix) :
  Aj P (Instr.indexAt t a ix) w G H (.c (.dp r)) H := by
 cases ha with
 | c _ _ ha =>
  obtain ⟨ad, cap, rfl, hD⟩ := Dp hr ha
  obtain rfl := Bz hx
  have hlt : n.toNat < rows.length := (List.getElem?_eq_some_iff.1 h1).1
  have hlt' : n < rows.length := by omega
  cases hD with
  | emp a cap => simp at hlt
  | sl _ b o _ sz f hcap hlim hsz hcell hrel =>
   have es : sz = i'.size := by rw [← h2]; exact (hsz _ r h1).symm
   subst es
   refine Aj.still R (v := .pointer (some ⟨b, o + n.toNat * i'.size, none⟩)) ?_ (.c _ _ (.dp r b _ (f n.toNat) (fun j hj => hcell _ j hlt (by omega)) (fun j y hy => hrel _ j r y h1 hy)))
   simp [Instr.indexAt, asIntOf, T.run_at ht hd rfl, T.run_sizeOf he, h0, hlt', Addr.add_lit]
theorem Hh (T : By P tt) {t e : Nat} {i i' : TI} (ht : tt t = some i) (hd : i.desc = .slice e) (he : tt e = some i') {k : IntKind} {n : Int} (h0 : 0 ≤ n) {id off len cap : Nat} (h1 : n < len)
  {a ix : Value} (R : Rel w G H) (ha : Ag w G H (.c (.ms id off len cap)) a) (hx : Ag w G H (.c (.d (.int k n))) ix) : Aj P (Instr.indexAt t a ix) w G H (.c (.ptr id (off + n.toNat * i'.size))) H := by
 cases ha with
 | c _ _ ha =>
  cases ha with
  | ms _ _ _ _ hid =>
   obtain rfl := Bz hx
   refine Aj.still R (v := .pointer (some ⟨G.rho id, off + n.toNat * i'.size, none⟩)) ?_ (.c _ _ (.ptr _ _ hid))
   simp [Instr.indexAt, asIntOf, T.run_at ht hd rfl, T.run_sizeOf he, h0, h1, Addr.add_lit]
theorem DZ {cs : List C} {v : Value} (h : Ag w G H (.agg cs) v) : ∃ arr, v = .agg arr ∧ An w G H cs arr.toList := by
 cases h with | agg _ arr h => exact ⟨arr, rfl, h⟩
theorem IM (T : By P tt) {t : Nat} {i : TI} (ht : tt t = some i) {cs : List C} {arr : Array Value} (R : Rel w G H) (h : An w G H cs arr.toList) {off : Nat} (hoff : off + i.size ≤ cs.length) :
  Aj P (part t arr off) w G H (mkV i cs off) H := by
 unfold mkV
 have hl : cs.length = arr.size := by have := h.1; simpa using this
 cases ha : BS i.desc with
 | true =>
  refine Aj.still R (v := .agg (arr.extract off (off + i.size))) ?_ ?_
  ·simp [part, T.run_isAgg ht, ha, T.run_sizeOf ht]
  ·simp only [if_true]
   refine .agg _ _ ?_
   have := (h.drop off).take i.size
   have e : (arr.extract off (off + i.size)).toList = (arr.toList.drop off).take i.size := by simp
   rw [e]; exact this
 | false =>
  have h1 := T.one t i ht ha
  have hlt : off < cs.length := by omega
  obtain ⟨v, hv, hx, _⟩ := h.get (i := off) (x := cs[off]) (by simp [hlt])
  have hv' : arr[off]? = some v := by simpa using hv
  refine Aj.still R (v := v) ?_ ?_
  ·simp [part, T.run_isAgg ht, ha, hv']
  ·simp only [Bool.false_eq_true, if_false, List.getElem?_eq_getElem hlt, Option.getD_some]
   exact .c _ _ hx
theorem NA (T : By P tt) {t f : Nat} {i i' : TI} {fs : Array Field} {fd : Field} (ht : tt t = some i) (hd : i.desc = .struct fs) (hf : fs[f]? = some fd) (hi : tt fd.type = some i') {cs : List C} {a : Value}
  (R : Rel w G H) (ha : Ag w G H (.agg cs) a) (hoff : fd.offset + i'.size ≤ cs.length) : Aj P (Instr.field t a f) w G H (mkV i' cs fd.offset) H := by
 obtain ⟨arr, rfl, hr⟩ := DZ ha
 obtain ⟨v, w', G', h1, h2⟩ := IM (P := P) T hi R hr hoff
 refine ⟨v, w', G', ?_, h2⟩
 obtain ⟨fs', e1, e2⟩ := T.run_struct ht hd w
 obtain ⟨fd', e3, e4, e5⟩ := Hc e2 hf
 simp [Instr.field, e1, e3, e4, e5, asAgg, h1]
theorem NB (T : By P tt) {t len e : Nat} {i i' : TI} (ht : tt t = some i) (hd : i.desc = .array len e) (he : tt e = some i') {k : IntKind} {n : Int} (h0 : 0 ≤ n) (h1 : n < len) {cs : List C} {a ix : Value}
  (R : Rel w G H) (ha : Ag w G H (.agg cs) a) (hx : Ag w G H (.c (.d (.int k n))) ix) (hoff : n.toNat * i'.size + i'.size ≤ cs.length) : Aj P (Instr.index t a ix) w G H (mkV i' cs (n.toNat * i'.size)) H := by
 obtain ⟨arr, rfl, hr⟩ := DZ ha
 obtain rfl := Bz hx
 obtain ⟨v, w', G', h2, h3⟩ := IM (P := P) T he R hr hoff
 refine ⟨v, w', G', ?_, h3⟩
 simp [Instr.index, asIntOf, T.run_at ht hd rfl, h0, h1, T.run_sizeOf he, h2]
theorem J2 {n : Nat} {vs : List V} {x : V} {v : Value} (R : Rel w G H) (h : Ag w G H (.tup vs) v) (hx : vs[n]? = some x) : Aj P (Instr.extract v n) w G H x H := by
 cases h with
 | tup _ arr hs h =>
  have hlt : n < arr.size := by rw [hs]; exact (List.getElem?_eq_some_iff.1 hx).1
  refine Aj.still R (v := arr[n]) ?_ (h n x _ hx (by simp [hlt]))
  simp [Instr.extract, hlt]
end
end Go.Abs
