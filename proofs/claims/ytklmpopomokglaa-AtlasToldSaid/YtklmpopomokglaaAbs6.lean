/- Stores, new variables, aggregates. -/
import Derived.Test.YtklmpopomokglaaAbs5
set_option linter.unusedSimpArgs false
set_option linter.unusedVariables false
namespace Go.Abs
open Go

def Does (P : Program) (s : Sem Unit) (w : World) (G : Gh) (H H' : List AB) : Prop :=
  ∃ w' G', s.run P w = .ok () w' ∧ Rel w' G' H' ∧ Later w G H w' G' H'

theorem World.ext' {w w' : World} (h1 : w.heap = w'.heap) (h2 : w.tape = w'.tape) (h3 : w.drawn = w'.drawn) (h4 : w.os = w'.os) (h5 : w.output = w'.output) : w = w' := by
  cases w; cases w'; simp_all

theorem setCell_put {w : World} {b : Nat} {arr : Array Value} {t : TypeId} {fr : Nat × Nat} (hb : w.heap[b]? = some (.cells arr t fr)) (o : Nat) (v : Value) :
    w.setCell ⟨b, o, none⟩ v = w.putObj b (.cells (arr.setIfInBounds o v) t fr) := by
  refine World.ext' ?_ rfl rfl rfl rfl
  simp only [World.setCell, World.putObj]
  apply Array.ext_getElem?
  intro k
  rw [Array.getElem?_modify, Array.getElem?_setIfInBounds]
  by_cases e : b = k
  · subst e
    obtain ⟨hlt, hb'⟩ := Array.getElem?_eq_some_iff.1 hb
    simp [hb', hlt]
  · simp [e]

theorem put_put {w : World} {b : Nat} {o o' : Obj} : (w.putObj b o).putObj b o' = w.putObj b o' := by
  refine World.ext' ?_ rfl rfl rfl rfl
  simp [World.putObj]

theorem put_self {w : World} {b : Nat} {o : Obj} (h : w.heap[b]? = some o) : w.putObj b o = w := by
  refine World.ext' ?_ rfl rfl rfl rfl
  simp only [World.putObj]
  apply Array.ext_getElem?
  intro k
  rw [Array.getElem?_setIfInBounds]
  by_cases e : b = k
  · subst e
    obtain ⟨hlt, hb'⟩ := Array.getElem?_eq_some_iff.1 h
    simp [hb', hlt]
  · simp [e]

def spl {α : Type} (l : List α) (off : Nat) (vs : List α) : List α := l.take off ++ vs ++ l.drop (off + vs.length)
def setMany {α : Type} : List α → Nat → List α → List α
  | l, _, [] => l
  | l, off, x :: xs => setMany (l.set off x) (off + 1) xs

theorem setMany_length {α : Type} : ∀ (vs l : List α) (off : Nat), (setMany l off vs).length = l.length
  | [], l, off => rfl
  | v :: vs, l, off => by rw [setMany, setMany_length vs]; simp

theorem setMany_get {α : Type} : ∀ (vs l : List α) (off i : Nat), off + vs.length ≤ l.length → (setMany l off vs)[i]? = if off ≤ i ∧ i < off + vs.length then vs[i - off]? else l[i]?
  | [], l, off, i, _ => by simp [setMany]; omega
  | v :: vs, l, off, i, h => by
    simp only [List.length_cons] at h
    rw [setMany, setMany_get vs (l.set off v) (off + 1) i (by simp; omega)]
    by_cases h1 : off + 1 ≤ i ∧ i < off + 1 + vs.length
    · rw [if_pos h1, if_pos (by simp; omega)]
      obtain ⟨d, rfl⟩ : ∃ d, i = off + 1 + d := ⟨i - (off + 1), by omega⟩
      have e1 : off + 1 + d - (off + 1) = d := by omega
      have e2 : off + 1 + d - off = d + 1 := by omega
      rw [e1, e2]; simp
    · rw [if_neg h1]
      by_cases h2 : i = off
      · subst h2
        rw [if_pos (by simp)]
        have : i < l.length := by omega
        simp [this]
      · rw [if_neg (by simp; omega), List.getElem?_set_ne (by omega)]

theorem setMany_eq_spl {α : Type} (vs l : List α) (off : Nat) (h : off + vs.length ≤ l.length) : setMany l off vs = spl l off vs := by
  apply List.ext_getElem?
  intro i
  rw [setMany_get vs l off i h]
  unfold spl
  by_cases h1 : i < off
  · rw [if_neg (by omega), List.append_assoc, List.getElem?_append_left (by simp; omega), List.getElem?_take, if_pos h1]
  · by_cases h2 : i < off + vs.length
    · rw [if_pos ⟨by omega, h2⟩, List.append_assoc, List.getElem?_append_right (by simp; omega)]
      have e : (l.take off).length = off := by simp; omega
      rw [e, List.getElem?_append_left (by omega)]
    · rw [if_neg (by omega), List.getElem?_append_right (by simp; omega), List.getElem?_drop]
      have e : (l.take off ++ vs).length = off + vs.length := by simp; omega
      rw [e]
      congr 1
      omega

section
variable {P : Program} {tt : Nat → Option TI} {w : World} {G : Gh} {H : List AB}

theorem CsRel.setMany {cs : List C} {vs : List Value} (h : CsRel w G H cs vs) : ∀ {xs : List C} {us : List Value} (off : Nat), CsRel w G H xs us → CsRel w G H (setMany cs off xs) (Abs.setMany vs off us) := by
  intro xs
  induction xs generalizing cs vs with
  | nil =>
    intro us off hx
    have : us = [] := by have := hx.1; simpa using this.symm
    subst this; exact h
  | cons x xs ih =>
    intro us off hx
    cases us with
    | nil => have := hx.1; simp at this
    | cons u us =>
      obtain ⟨hxu, ho⟩ := hx.2 0 x u rfl rfl
      simp only [Abs.setMany]
      refine ih (h.set hxu ho off) (off + 1) ⟨by have := hx.1; simpa using this, fun i y v hy hv => hx.2 (i + 1) y v (by simpa using hy) (by simpa using hv)⟩

theorem run_storeCells (P : Program) {b off : Nat} {t : TypeId} : ∀ (vs : List Value) (i : Nat) (w : World) (arr : Array Value), w.heap[b]? = some (.cells arr t (0, 0)) → off + i + vs.length ≤ arr.size →
    (∀ v ∈ vs, v.oneCell' = true) → (storeCells ⟨b, off, none⟩ vs i).run P w = .ok () (w.putObj b (.cells (setMany arr.toList (off + i) vs).toArray t (0, 0)))
  | [], i, w, arr, hb, _, _ => by
    simp only [storeCells, Sem.run_pure, setMany]
    rw [show arr.toList.toArray = arr from by simp, put_self hb]
  | v :: vs, i, w, arr, hb, hl, hv => by
    simp only [List.length_cons] at hl
    have hc : w.cell? ⟨b, off + i, none⟩ = some (arr[off + i]'(by omega)) := by
      rw [cell_of_row w b (off + i) arr t (0, 0) hb]; simp
    have hf : w.frozen? ⟨b, off + i, none⟩ = false := frozen_of_row w b (off + i) arr t hb
    simp only [storeCells, Sem.run_bind, Addr.add_lit, run_store P w _ v _ (hv v (by simp)), hc, hf, Bool.false_eq_true, if_false, Result.andThen_ok]
    rw [setCell_put hb]
    have ih := run_storeCells P (b := b) (off := off) (t := t) vs (i + 1) (w.putObj b (.cells (arr.setIfInBounds (off + i) v) t (0, 0))) (arr.setIfInBounds (off + i) v) (put_same hb) (by simp; omega) (fun u hu => hv u (by simp [hu]))
    rw [ih, put_put]
    congr 4
    simp [setMany, Nat.add_assoc]

theorem CsRel.ones {cs : List C} {vs : List Value} (h : CsRel w G H cs vs) : ∀ v ∈ vs, v.oneCell' = true := fun v hv => by
  obtain ⟨i, hi⟩ := List.getElem?_of_mem hv
  have hlt : i < cs.length := by rw [h.1]; exact (List.getElem?_eq_some_iff.1 hi).1
  exact (h.2 i cs[i] v (by simp [hlt]) hi).2

theorem ABRel.role_of {id : Nat} {cs : List C} (h : ABRel w G H id (.cells cs)) : G.role (G.rho id) = some id := by cases h; assumption

theorem does_store (T : TTok P tt) {t : Nat} {i : TI} (ht : tt t = some i) {id off : Nat} {cs : List C} {a v : Value} {x : V} (R : Rel w G H) (hid : H[id]? = some (.cells cs))
    (ha : VRel w G H (.c (.ptr id off)) a) (hx : VRel w G H x v) (hs : x.solid = true) (hl : x.cs.length = i.size) (hoff : off + i.size ≤ cs.length) :
    Does P (Instr.storeAt t a v) w G H (H.set id (.cells (setMany cs off x.cs))) := by
  cases ha with
  | c _ _ ha =>
    cases ha with
    | ptr _ _ _ =>
      obtain ⟨arr, t', hb, hr⟩ := cells_at R hid
      have hc := hx.cells hs
      have hsz : v.cells.size = i.size := by rw [← hl, hc.1]; simp
      have hlen : arr.size = cs.length := by have := hr.1; simp at this; omega
      obtain ⟨R', L'⟩ := R.put_cells (cs' := setMany cs off x.cs) (arr' := (setMany arr.toList off v.cells.toList).toArray) hid hb (by simpa using hr.setMany off hc)
      refine ⟨_, G, ?_, R', L'⟩
      simp only [Instr.storeAt, Instr.sureAddr, Sem.run_bind, Sem.run_pure, Result.andThen_ok, storeVar, T.run_sizeOf ht, hsz, ne_eq, not_true, if_false]
      have := run_storeCells P (b := G.rho id) (off := off) (t := t') v.cells.toList 0 w arr hb (by simp; omega) hc.ones
      simpa using this

theorem yields_new' {t : TypeId} {cs : List C} {v : Value} (R : Rel w G H) (hc : CsRel w G H cs v.cells.toList) :
    Yields P (do pure (.pointer (some (← newVar t v)))) w G H (.c (.ptr H.length 0)) (H ++ [.cells cs]) := by
  refine ⟨.pointer (some ⟨w.heap.size, 0, none⟩), w.alloc (.cells v.cells t), G.own H.length w.heap.size, ?_, ?_, R.alloc_cells t hc, Later.alloc_own R _ _⟩
  · simp [newVar, newRow]
  · have := CRel.ptr (w := w.alloc (.cells v.cells t)) (G := G.own H.length w.heap.size) (H := H ++ [.cells cs]) H.length 0 (by simp)
    simp only [Gh.own, upd_same] at this
    exact .c _ _ this
theorem yields_new {t : TypeId} {x : V} {v : Value} (R : Rel w G H) (hx : VRel w G H x v) (hs : x.solid = true) :
    Yields P (do pure (.pointer (some (← newVar t v)))) w G H (.c (.ptr H.length 0)) (H ++ [.cells x.cs]) := yields_new' R (hx.cells hs)

theorem yields_box {t : TypeId} {x : V} {v : Value} (R : Rel w G H) (hx : VRel w G H x v) (hs : x.solid = true) :
    Yields P (Instr.box t v) w G H (.c (.ptr H.length 0)) (H ++ [.cells x.cs]) := yields_new R hx hs

theorem yields_alloc (T : TTok P tt) {t : Nat} {i : TI} (ht : tt t = some i) (R : Rel w G H) : Yields P (Instr.alloc t true (.tuple #[])) w G H (.c (.ptr H.length 0)) (H ++ [.cells i.zero.cs]) := by
  obtain ⟨z, hz, h1, h2, h3⟩ := T.run_zero ht
  obtain ⟨v, w', G', hr, h⟩ := yields_new' (P := P) (t := t) (w := w) (G := G) (H := H) (v := z) R (zeroCs_rel h2)
  refine ⟨v, w', G', ?_, h⟩
  simp only [Instr.alloc, Sem.run_bind, hz, Result.andThen_ok]
  exact hr
end
end Go.Abs
