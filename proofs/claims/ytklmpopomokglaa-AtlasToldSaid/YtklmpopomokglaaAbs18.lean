/- The same state told otherwise: with less, with fewer blocks, with a block that nobody writes any more. -/
import Derived.Test.YtklmpopomokglaaAbs17
set_option linter.unusedSimpArgs false
set_option linter.unusedVariables false
namespace Go.Abs
open Go

mutual
def C.low (n : Nat) : C → Bool
  | .ptr id _ => decide (id < n)
  | .own id _ => decide (id < n)
  | .ms id _ _ _ => decide (id < n)
  | .mp id => decide (id < n)
  | .yd id => decide (id < n)
  | .fn _ cs => C.lowL n cs
  | _ => true
def C.lowL (n : Nat) : List C → Bool
  | [] => true
  | c :: cs => C.low n c && C.lowL n cs
end
theorem C.lowL_get {n : Nat} : ∀ {cs : List C} {i : Nat} {x : C}, C.lowL n cs = true → cs[i]? = some x → C.low n x = true
  | c :: cs, 0, x, h, hx => by simp [C.lowL] at h hx; rw [← hx]; exact h.1
  | c :: cs, i + 1, x, h, hx => by simp [C.lowL] at h; exact C.lowL_get h.2 (by simpa using hx)
  | [], i, x, h, hx => by simp at hx
mutual
def V.low (n : Nat) : V → Bool
  | .c x => x.low n
  | .agg cs => C.lowL n cs
  | .tup vs => V.lowL n vs
def V.lowL (n : Nat) : List V → Bool
  | [] => true
  | v :: vs => V.low n v && V.lowL n vs
end
theorem V.lowL_get {n : Nat} : ∀ {cs : List V} {i : Nat} {x : V}, V.lowL n cs = true → cs[i]? = some x → V.low n x = true
  | v :: vs, 0, x, h, hx => by simp [V.lowL] at h hx; rw [← hx]; exact h.1
  | v :: vs, i + 1, x, h, hx => by simp [V.lowL] at h; exact V.lowL_get h.2 (by simpa using hx)
  | [], i, x, h, hx => by simp at hx
def AB.low (n : Nat) : AB → Bool
  | .cells cs => C.lowL n cs
  | .mp es => es.all fun e => e.1.low n && e.2.low n
  | .lp r => decide (r.D < n) && r.slots.all fun p => p.2.low n
  | _ => true

theorem getS_low {n : Nat} : ∀ (l : List (Nat × V)), l.all (fun p => p.2.low n) = true → ∀ i, (getS l i).low n = true
  | [], _, _ => rfl
  | (j, v) :: r, h, i => by
    simp only [List.all_cons, Bool.and_eq_true] at h
    simp only [getS]
    split
    · exact h.1
    · exact getS_low r h.2 i

section
variable {w : World} {G : Gh} {H T : List AB}
theorem CRel.trunc {x : C} {v : Value} (h : CRel w G (H ++ T) x v) (hb : x.low H.length = true) : CRel w G H x v := by
  induction h with
  | any v => exact .any v
  | d x v h => exact .d x v h
  | ptr id off h => exact .ptr id off (by simpa [C.low] using hb)
  | nilp => exact .nilp
  | dp ds b o f hcell hrel => exact .dp ds b o f hcell hrel
  | full rows a n hn h => exact .full rows a n hn h
  | own id rows a n cap hid hn h hg =>
    have hlt : id < H.length := by simpa [C.low] using hb
    exact .own id rows a n cap hlt hn h (fun m sz hm => hg m sz (by rw [List.getElem?_append_left hlt]; exact hm))
  | ms id off n cap h => exact .ms id off n cap (by simpa [C.low] using hb)
  | fn f caps arr hs _ ih =>
    simp only [C.low] at hb
    exact .fn f caps arr hs (fun i x v hx hv => ih i x v hx hv (C.lowL_get hb hx))
  | mp id h => exact .mp id (by simpa [C.low] using hb)
  | yd id h => exact .yd id (by simpa [C.low] using hb)
theorem CsRel.trunc {cs : List C} {vs : List Value} (h : CsRel w G (H ++ T) cs vs) (hb : C.lowL H.length cs = true) : CsRel w G H cs vs :=
  ⟨h.1, fun i x v hx hv => ⟨(h.2 i x v hx hv).1.trunc (C.lowL_get hb hx), (h.2 i x v hx hv).2⟩⟩
theorem VRel.trunc {x : V} {v : Value} (h : VRel w G (H ++ T) x v) (hb : x.low H.length = true) : VRel w G H x v := by
  induction h with
  | c x v h => exact .c x v (h.trunc (by simpa [V.low] using hb))
  | agg cs arr h => exact .agg cs arr (h.trunc (by simpa [V.low] using hb))
  | tup vs arr hs _ ih =>
    simp only [V.low] at hb
    exact .tup vs arr hs (fun i x v hx hv => ih i x v hx hv (V.lowL_get hb hx))
theorem EsRel.trunc {es : List (V × V)} {rs : List MapEntry} (h : EsRel w G (H ++ T) es rs) (hb : es.all (fun e => e.1.low H.length && e.2.low H.length) = true) : EsRel w G H es rs :=
  ⟨h.1, fun i e r he hr => by
    have h1 := List.all_eq_true.1 hb e (List.mem_of_getElem? he)
    simp only [Bool.and_eq_true] at h1
    exact ⟨(h.2 i e r he hr).1.trunc h1.1, (h.2 i e r he hr).2.trunc h1.2⟩⟩
theorem ABRel.trunc {id : Nat} {x : AB} (h : ABRel w G (H ++ T) id x) (hb : x.low H.length = true) : ABRel w G H id x := by
  cases h with
  | gone => exact .gone
  | cells cs arr t hb' hr hrole hS => exact .cells cs arr t hb' (hr.trunc (by simpa [AB.low] using hb)) hrole hS
  | grow n sz a cap hg hcap h hnil => exact .grow n sz a cap hg hcap h hnil
  | mp es rs clock hb' hr hrole => exact .mp es rs clock hb' (hr.trunc (by simpa only [AB.low] using hb)) hrole
  | lp r fn tmps hb' hsz hD hs hrole =>
    simp only [AB.low, Bool.and_eq_true, decide_eq_true_eq] at hb
    exact .lp r fn tmps hb' hsz hb.1 (fun i => (hs i).trunc (getS_low r.slots hb.2 i)) hrole
  | df hb' hrole => exact .df hb' hrole
theorem Rel.trunc (R : Rel w G (H ++ T)) (hb : H.all (AB.low H.length) = true) : Rel w G H where
  sex := R.sex
  roleLt := R.roleLt
  ab := fun id x hx => (R.ab id x (by rw [List.getElem?_append_left (List.getElem?_eq_some_iff.1 hx).1]; exact hx)).trunc (List.all_eq_true.1 hb x (List.mem_of_getElem? hx))
theorem Later.trunc {w0 : World} {G0 : Gh} {H0 : List AB} (L : Later w0 G0 H0 w G (H ++ T)) (hn : H0.length ≤ H.length) : Later w0 G0 H0 w G H where
  size := L.size
  S := L.S
  Snew := L.Snew
  len := hn
  rho := L.rho
  grow := fun id n sz hid h => L.grow id n sz hid (by rw [List.getElem?_append_left (by omega)]; exact h)
  role := L.role
  frame := L.frame
  os := L.os
  out := L.out
end

/-! ### Less told -/
inductive WkC : C → C → Prop
  | refl (x : C) : WkC x x
  | any (x : C) : WkC x .any
  | full (rows : List (List D)) : WkC (.full rows) (.d (.sl rows))
  | own (id : Nat) (rows : List (List D)) : WkC (.own id rows) (.d (.sl rows))
inductive WkCs : List C → List C → Prop
  | nil : WkCs [] []
  | cons {x y : C} {xs ys : List C} : WkC x y → WkCs xs ys → WkCs (x :: xs) (y :: ys)
inductive WkV : V → V → Prop
  | refl (x : V) : WkV x x
  | c {x y : C} : WkC x y → WkV (.c x) (.c y)
  | agg {xs ys : List C} : WkCs xs ys → WkV (.agg xs) (.agg ys)
  | any (x : V) : WkV x (.c .any)
  | tup {xs ys : List V} : xs.length = ys.length → (∀ (i : Nat) (x y : V), xs[i]? = some x → ys[i]? = some y → WkV x y) → WkV (.tup xs) (.tup ys)
inductive WkVs : List V → List V → Prop
  | nil : WkVs [] []
  | cons {x y : V} {xs ys : List V} : WkV x y → WkVs xs ys → WkVs (x :: xs) (y :: ys)

section
variable {w : World} {G : Gh} {H : List AB}
theorem WkC.rel {x y : C} {v : Value} (h : WkC x y) (hr : CRel w G H x v) : CRel w G H y v := by
  cases h with
  | refl => exact hr
  | any => exact .any v
  | full rows => cases hr with | full _ a n hn h => subst hn; exact .d _ _ h
  | own id rows => cases hr with | own _ _ a n cap hid hn h hg => subst hn; exact .d _ _ h
theorem WkCs.rel {xs ys : List C} (h : WkCs xs ys) : ∀ {vs : List Value}, CsRel w G H xs vs → CsRel w G H ys vs := by
  induction h with
  | nil => exact fun hr => hr
  | cons h0 _ ih =>
    intro vs hr
    cases vs with
    | nil => have := hr.1; simp at this
    | cons v vs =>
      have h1 := hr.2 0 _ v rfl rfl
      have h2 := ih (vs := vs) ⟨by have := hr.1; simpa using this, fun i x u hx hu => hr.2 (i + 1) x u (by simpa using hx) (by simpa using hu)⟩
      refine ⟨by simp [h2.1], fun i x u hx hu => ?_⟩
      cases i with
      | zero => simp at hx hu; subst hx; subst hu; exact ⟨h0.rel h1.1, h1.2⟩
      | succ i => exact h2.2 i x u (by simpa using hx) (by simpa using hu)
theorem WkV.rel {x y : V} {v : Value} (h : WkV x y) (hr : VRel w G H x v) : VRel w G H y v := by
  induction h generalizing v with
  | refl => exact hr
  | c h => cases hr with | c _ _ hr => exact .c _ _ (h.rel hr)
  | agg h => cases hr with | agg _ _ hr => exact .agg _ _ (h.rel hr)
  | any => exact .c _ _ (.any v)
  | tup hl _ ih =>
    cases hr with
    | tup _ arr hs hr =>
      refine .tup _ arr (by omega) (fun i y u hy hu => ?_)
      have hlt := hl ▸ (List.getElem?_eq_some_iff.1 hy).1
      exact ih i _ y (List.getElem?_eq_getElem hlt) hy (hr i _ u (List.getElem?_eq_getElem hlt) hu)
theorem WkVs.len {xs ys : List V} (h : WkVs xs ys) : xs.length = ys.length := by induction h <;> simp_all
theorem WkVs.get {xs ys : List V} (h : WkVs xs ys) : ∀ (i : Nat) (x y : V), xs[i]? = some x → ys[i]? = some y → WkV x y := by
  induction h with
  | nil => intro i x y h; simp at h
  | cons h0 _ ih =>
    intro i x y hx hy
    cases i with
    | zero => simp at hx hy; subst hx; subst hy; exact h0
    | succ i => exact ih i x y (by simpa using hx) (by simpa using hy)
end

def wkSlots (f : Nat → V) (n : Nat) : List (Nat × V) → Prop
  | [] => True
  | (i, v) :: r => WkV (f i) v ∧ v.low n = true ∧ wkSlots f n r

theorem wkSlots_get {f : Nat → V} {n : Nat} : ∀ {l : List (Nat × V)}, wkSlots f n l → ∀ i, WkV (f i) (getS l i) ∧ (getS l i).low n = true
  | [], _, i => ⟨.any _, rfl⟩
  | (j, v) :: r, h, i => by
    simp only [getS]
    by_cases e : j = i
    · subst e; simp only [if_true]; exact ⟨h.1, h.2.1⟩
    · simp only [e, if_false]; exact wkSlots_get h.2.2 i

section
variable {X : Cx} {s s' : St}

theorem ent_weaken (T : List AB) (hh : s.heap = s'.heap ++ T) (hm : s'.marks = s.marks) (hn : X.nb ≤ s'.heap.length) (hH : s'.heap.all (AB.low s'.heap.length) = true) (hM : s.marks.all (fun id => decide (id < s'.heap.length)) = true)
    (hsl : wkSlots s.get s'.heap.length s'.slots) : Ent X s s' := fun bs w G a hR => by
  refine ⟨G, ?_⟩
  have R := hR.rel
  rw [hh] at R
  exact
    { rel := R.trunc hH
      later := by have := hR.later; rw [hh] at this; exact this.trunc (by rw [hR.base]; exact hn)
      base := hR.base
      size := hR.size
      slots := fun i => by
        obtain ⟨h1, h2⟩ := wkSlots_get hsl i
        have := h1.rel (hR.slots i)
        rw [hh] at this
        exact this.trunc h2
      defers := by rw [hm]; exact hR.defers
      marks := fun id hid => by
        rw [hm] at hid
        simpa using List.all_eq_true.1 hM id hid }

/-! ### A block that nobody writes any more -/
inductive FzC (id : Nat) (ds : List D) : C → C → Prop
  | ptr (off : Nat) : off ≤ ds.length → FzC id ds (.ptr id off) (.dp (ds.drop off))
  | ms (off sz n cap : Nat) : off + n * sz ≤ ds.length → n ≤ cap → n ≤ lim → FzC id ds (.ms id off n cap) (.d (.sl (chunk sz n (ds.drop off))))
  | fn (f : Fn) {xs ys : List C} : xs.length = ys.length → (∀ (i : Nat) (x y : C), xs[i]? = some x → ys[i]? = some y → FzC id ds x y) → FzC id ds (.fn f xs) (.fn f ys)
  | same (x : C) : FzC id ds x x
inductive FzV (id : Nat) (ds : List D) : V → V → Prop
  | c {x y : C} : FzC id ds x y → FzV id ds (.c x) (.c y)
  | same (x : V) : FzV id ds x x
  | any (x : V) : FzV id ds x (.c .any)
def fzSlots (f : Nat → V) (id : Nat) (ds : List D) : List (Nat × V) → Prop
  | [] => True
  | (i, v) :: r => FzV id ds (f i) v ∧ fzSlots f id ds r
theorem fzSlots_get {f : Nat → V} {id : Nat} {ds : List D} : ∀ {l : List (Nat × V)}, fzSlots f id ds l → ∀ i, FzV id ds (f i) (getS l i)
  | [], _, i => .any _
  | (j, v) :: r, h, i => by
    simp only [getS]
    by_cases e : j = i
    · subst e; simp only [if_true]; exact h.1
    · simp only [e, if_false]; exact fzSlots_get h.2 i

def Gh.thaw (G : Gh) (b n : Nat) : Gh := { G with S := fun b' o => G.S b' o ∨ (b' = b ∧ o < n) }

section
variable {w : World} {G : Gh} {H : List AB} {id : Nat} {cs : List C}
theorem Later.freeze (hrole : G.role (G.rho id) = some id) (n : Nat) : Later w G H w (G.thaw (G.rho id) n) (H.set id .gone) where
  size := Nat.le_refl _
  S := fun b o h => ⟨.inl h, rfl⟩
  Snew := fun b o _ hr h => by
    rcases h with h | ⟨rfl, _⟩
    · exact h
    · rw [hrole] at hr; cases hr
  len := by simp
  rho := fun _ _ => rfl
  grow := fun i n sz hi h => by
    by_cases e : id = i
    · subst e; simp [hi] at h
    · rw [List.getElem?_set_ne e] at h; exact ⟨n, h, .inr ⟨rfl, rfl⟩⟩
  role := fun _ _ => rfl
  frame := fun _ _ _ => rfl
  os := rfl
  out := rfl

theorem toDs_get : ∀ {cs : List C} {ds : List D}, toDs cs = some ds → cs.length = ds.length ∧ ∀ (i : Nat) (x : C) (y : D), cs[i]? = some x → ds[i]? = some y → toD x = some y
  | [], ds, h => by simp [toDs] at h; subst h; exact ⟨rfl, fun i x y h => by simp at h⟩
  | c :: cs, ds, h => by
    simp only [toDs] at h
    split at h
    · rename_i x xs h1 h2
      cases h
      obtain ⟨e1, e2⟩ := toDs_get h2
      refine ⟨by simp [e1], fun i x' y' hx hy => ?_⟩
      cases i with
      | zero => simp at hx hy; subst hx; subst hy; exact h1
      | succ i => exact e2 i x' y' (by simpa using hx) (by simpa using hy)
    · cases h

/-- The cells of a block, as data. -/
theorem frozen_cells {arr : Array Value} {t : TypeId} {ds : List D} (hb : w.heap[G.rho id]? = some (.cells arr t (0, 0))) (hr : CsRel w G H cs arr.toList) (hd : toDs cs = some ds) :
    arr.size = ds.length ∧ ∀ j, j < ds.length → (∃ v, w.cell? ⟨G.rho id, j, none⟩ = some v) ∧ ∀ v x, w.cell? ⟨G.rho id, j, none⟩ = some v → ds[j]? = some x → DRel w G.S x v := by
  obtain ⟨e1, e2⟩ := toDs_get hd
  have hlen : arr.size = ds.length := by have := hr.1; simp at this; omega
  refine ⟨hlen, fun j hj => ?_⟩
  have hcell : ∀ j, w.cell? ⟨G.rho id, j, none⟩ = arr.toList[j]? := fun j => cell_arr hb j
  refine ⟨⟨arr.toList[j]'(by simpa using by omega), by rw [hcell]; simp⟩, fun v x hv hx => ?_⟩
  rw [hcell] at hv
  have hc : cs[j]? = some (cs[j]'(by omega)) := by simp
  have h1 := e2 j _ x hc hx
  have h2 := (hr.2 j _ v hc hv).1
  exact toD_rel h1 h2

theorem Rel.freeze (R : Rel w G H) (hid : H[id]? = some (.cells cs)) {ds : List D} (hd : toDs cs = some ds) :
    Rel w (G.thaw (G.rho id) ds.length) (H.set id .gone) ∧ Later w G H w (G.thaw (G.rho id) ds.length) (H.set id .gone) ∧
      ∀ j, j < ds.length → (G.thaw (G.rho id) ds.length).S (G.rho id) j ∧ (∃ v, w.cell? ⟨G.rho id, j, none⟩ = some v) ∧ ∀ v x, w.cell? ⟨G.rho id, j, none⟩ = some v → ds[j]? = some x → DRel w (G.thaw (G.rho id) ds.length).S x v := by
  cases R.ab id _ hid with
  | cells _ arr t hb hr hrole hS =>
    have L := Later.freeze (w := w) (H := H) hrole ds.length
    obtain ⟨f1, f2⟩ := frozen_cells hb hr hd
    refine ⟨⟨fun b o h => ?_, R.roleLt, fun i x hx => ?_⟩, L, fun j hj => ⟨.inr ⟨rfl, hj⟩, (f2 j hj).1, fun v x hv hx => ((f2 j hj).2 v x hv hx).mono L.S⟩⟩
    · rcases h with h | ⟨rfl, h⟩
      · exact R.sex b o h
      · exact (f2 o h).1
    · by_cases e : id = i
      · subst e
        rw [List.getElem?_set_self (List.getElem?_eq_some_iff.1 hid).1] at hx
        cases hx; exact .gone
      · rw [List.getElem?_set_ne e] at hx
        refine ABRel.mono R L (List.getElem?_eq_some_iff.1 hx).1 (R.ab i x hx) (fun _ _ => rfl) (fun b o hb hs => ?_) rfl
        rcases hs with hs | ⟨rfl, _⟩
        · exact hs
        · rw [hrole] at hb; cases hb; exact absurd rfl e

theorem drop_get {α : Type} {ds : List α} {off j : Nat} {x : α} (h : (ds.drop off)[j]? = some x) : ds[off + j]? = some x := by
  rw [List.getElem?_drop] at h; exact h

theorem FzC.rel {G' : Gh} {H' : List AB} {ds : List D} (L : Later w G H w G' H') (f : ∀ j, j < ds.length → G'.S (G.rho id) j ∧ (∃ v, w.cell? ⟨G.rho id, j, none⟩ = some v) ∧ ∀ v x, w.cell? ⟨G.rho id, j, none⟩ = some v → ds[j]? = some x → DRel w G'.S x v)
    {x y : C} (h : FzC id ds x y) : ∀ {v : Value}, CRel w G H x v → CRel w G' H' y v := by
  induction h with
  | ptr off hoff =>
    intro v hr
    cases hr
    refine .dp _ (G.rho id) off (fun j => (w.cell? ⟨G.rho id, off + j, none⟩).getD undef) (fun j hj => ?_) (fun j x hx => ?_)
    · simp at hj
      obtain ⟨h1, ⟨u, h2⟩, _⟩ := f (off + j) (by omega)
      exact ⟨h1, by rw [h2]; rfl⟩
    · have hlt : off + j < ds.length := (List.getElem?_eq_some_iff.1 (drop_get hx)).1
      obtain ⟨h1, ⟨u, h2⟩, h3⟩ := f (off + j) hlt
      rw [h2]
      exact h3 u x h2 (drop_get hx)
  | ms off sz n cap hle hcap hlim =>
    intro v hr
    cases hr
    have hl : (chunk sz n (ds.drop off)).length = n := chunk_length _ _ _
    have := DRel.sl (w := w) (S := G'.S) (chunk sz n (ds.drop off)) (G.rho id) off cap sz (fun i j => (w.cell? ⟨G.rho id, off + i * sz + j, none⟩).getD undef) (by omega) (by omega) (fun i r hr => ?_) (fun i j hi hj => ?_) (fun i j r x hr hx => ?_)
    · rw [hl] at this; exact .d _ _ this
    · have hi : i < n := by have := (List.getElem?_eq_some_iff.1 hr).1; omega
      rw [chunk_get sz n _ i hi] at hr
      cases hr
      have : (i + 1) * sz ≤ n * sz := Nat.mul_le_mul_right _ (by omega)
      rw [Nat.succ_mul] at this
      simp; omega
    · have hi' : i < n := by omega
      have : (i + 1) * sz ≤ n * sz := Nat.mul_le_mul_right _ (by omega)
      rw [Nat.succ_mul] at this
      obtain ⟨h1, ⟨u, h2⟩, _⟩ := f (off + i * sz + j) (by omega)
      exact ⟨h1, by rw [h2]; rfl⟩
    · have hi : i < n := by have := (List.getElem?_eq_some_iff.1 hr).1; omega
      rw [chunk_get sz n _ i hi] at hr
      cases hr
      rw [List.getElem?_take] at hx
      split at hx
      · rename_i hj
        have hx' := drop_get (drop_get hx)
        have e : off + (i * sz + j) = off + i * sz + j := by omega
        rw [e] at hx'
        obtain ⟨h1, ⟨u, h2⟩, h3⟩ := f (off + i * sz + j) (List.getElem?_eq_some_iff.1 hx').1
        rw [h2]
        exact h3 u x h2 hx'
      · cases hx
  | fn g hlen _ ih =>
    intro v hr
    cases hr with
    | fn _ _ arr hs hc =>
      refine .fn g _ arr (by omega) (fun i y u hy hu => ?_)
      have hlt : i < _ := (List.getElem?_eq_some_iff.1 hy).1
      have hx : (_ : List C)[i]? = some _ := List.getElem?_eq_getElem (hlen ▸ hlt)
      exact ih i _ y hx hy (hc i _ u hx hu)
  | same x => intro v hr; exact hr.mono L
end

theorem ent_freeze (id : Nat) {cs : List C} {ds : List D} (hid : s.heap[id]? = some (.cells cs)) (hd : toDs cs = some ds) (hm : s'.marks = s.marks) (hh : s'.heap = s.heap.set id .gone) (hsl : fzSlots s.get id ds s'.slots) : Ent X s s' :=
  fun bs w G a hR => by
  obtain ⟨R', L, f⟩ := hR.rel.freeze hid hd
  refine ⟨G.thaw (G.rho id) ds.length, ?_⟩
  rw [← hh] at R' L
  exact
    { rel := R'
      later := hR.later.trans L
      base := hR.base
      size := hR.size
      slots := fun i => by
        have h0 := hR.slots i
        have h1 := fzSlots_get hsl i
        generalize s.get i = x at h0 h1
        show VRel w _ _ (getS s'.slots i) _
        generalize getS s'.slots i = y at h1
        cases h1 with
        | c h => cases h0 with | c _ _ h0 => exact .c _ _ (h.rel L f h0)
        | same => exact h0.mono L
        | any => exact .c _ _ (.any _)
      defers := by
        rw [hm, hR.defers]
        rfl
      marks := fun i hi => by rw [hm] at hi; exact Nat.lt_of_lt_of_le (hR.marks i hi) L.len }

/-! ### A slice that will grow -/
theorem ent_own (j sz : Nat) {rows : List (List D)} (hj : s.get j = .c (.full rows)) : Ent X s { slots := setS s.slots j (.c (.own s.heap.length rows)), heap := s.heap ++ [.grow rows.length sz], marks := s.marks } := fun bs w G a hR => by
  have h0 := hR.slots j
  rw [hj] at h0
  generalize hv0 : a.tmps.getD j undef = v0 at h0
  cases h0 with
  | c _ _ h0 =>
    cases h0 with
    | full _ ad n hn h =>
      have L : Later w G s.heap w { G with g := upd G.g s.heap.length (ad, n) } (s.heap ++ [.grow rows.length sz]) :=
        { size := Nat.le_refl _
          S := fun b o h => ⟨h, rfl⟩
          Snew := fun b o _ _ h => h
          len := by simp
          rho := fun _ _ => rfl
          grow := fun i m z hi h => by
            rw [List.getElem?_append_left hi] at h
            exact ⟨m, h, .inr ⟨rfl, upd_ne _ _ (by omega)⟩⟩
          role := fun _ _ => rfl
          frame := fun _ _ _ => rfl
          os := rfl
          out := rfl }
      have R' : Rel w { G with g := upd G.g s.heap.length (ad, n) } (s.heap ++ [.grow rows.length sz]) :=
        { sex := hR.rel.sex
          roleLt := hR.rel.roleLt
          ab := fun i x hx => by
            by_cases hi : i < s.heap.length
            · rw [List.getElem?_append_left hi] at hx
              exact ABRel.mono hR.rel L hi (hR.rel.ab i x hx) (fun _ _ => rfl) (fun _ _ _ h => h) (upd_ne _ _ (by omega))
            · have hlt := (List.getElem?_eq_some_iff.1 hx).1
              simp at hlt
              obtain rfl : i = s.heap.length := by omega
              rw [List.getElem?_append_right (Nat.le_refl _)] at hx
              simp at hx
              subst hx
              refine .grow rows.length sz ad n (upd_same _ _ _) (by omega) (fun x _ hlt => absurd hlt (by omega)) (fun e => ?_)
              subst e
              cases h with
              | emp => rfl }
      refine ⟨{ G with g := upd G.g s.heap.length (ad, n) }, ?_⟩
      exact
        { rel := R'
          later := hR.later.trans L
          base := hR.base
          size := hR.size
          slots := fun i => by
            show VRel w _ _ (getS (setS s.slots j _) i) _
            rw [getS_setS]
            by_cases e : j = i
            · subst e
              rw [if_pos rfl, hv0]
              refine .c _ _ (.own _ rows ad n n (by simp) hn h (fun m z hm => ?_))
              rw [List.getElem?_append_right (Nat.le_refl _)] at hm
              simp at hm
              obtain ⟨rfl, rfl⟩ := hm
              exact ⟨Nat.le_refl _, fun _ => upd_same _ _ _⟩
            · rw [if_neg e]; exact (hR.slots i).mono L
          defers := hR.defers
          marks := fun i hi => Nat.lt_of_lt_of_le (hR.marks i hi) L.len }
end
end Go.Abs
