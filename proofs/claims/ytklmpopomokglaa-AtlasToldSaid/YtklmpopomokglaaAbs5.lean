/- What the operations on memory and on numbers yield. -/
import Derived.Test.YtklmpopomokglaaAbs3
set_option linter.unusedSimpArgs false
set_option linter.unusedVariables false
namespace Go.Abs
open Go

section
variable {P : Program} {tt : Nat → Option TI} (T : TTok P tt) {w : World} {G : Gh} {H : List AB}

/-! ### Lists of cells -/
theorem CsRel.nil : CsRel w G H [] [] := ⟨rfl, fun i x v h => by simp at h⟩
theorem CsRel.get {cs : List C} {vs : List Value} (h : CsRel w G H cs vs) {i : Nat} {x : C} (hx : cs[i]? = some x) : ∃ v, vs[i]? = some v ∧ CRel w G H x v ∧ v.oneCell' = true := by
  have hi : i < vs.length := by rw [← h.1]; exact (List.getElem?_eq_some_iff.1 hx).1
  exact ⟨vs[i], by simp [hi], h.2 i x _ hx (by simp [hi])⟩
theorem CsRel.take {cs : List C} {vs : List Value} (h : CsRel w G H cs vs) (n : Nat) : CsRel w G H (cs.take n) (vs.take n) :=
  ⟨by simp [h.1], fun i x v hx hv => by
    rw [List.getElem?_take] at hx hv
    split at hx
    · rename_i hi; simp only [hi, if_true] at hv; exact h.2 i x v hx hv
    · cases hx⟩
theorem CsRel.drop {cs : List C} {vs : List Value} (h : CsRel w G H cs vs) (n : Nat) : CsRel w G H (cs.drop n) (vs.drop n) :=
  ⟨by simp [h.1], fun i x v hx hv => by
    rw [List.getElem?_drop] at hx hv
    exact h.2 _ x v hx hv⟩
theorem CsRel.append {cs cs' : List C} {vs vs' : List Value} (h : CsRel w G H cs vs) (h' : CsRel w G H cs' vs') : CsRel w G H (cs ++ cs') (vs ++ vs') :=
  ⟨by simp [h.1, h'.1], fun i x v hx hv => by
    by_cases hi : i < cs.length
    · rw [List.getElem?_append_left hi] at hx
      rw [List.getElem?_append_left (by rw [← h.1]; exact hi)] at hv
      exact h.2 i x v hx hv
    · rw [List.getElem?_append_right (Nat.le_of_not_lt hi)] at hx
      rw [List.getElem?_append_right (by rw [← h.1]; exact Nat.le_of_not_lt hi), ← h.1] at hv
      exact h'.2 _ x v hx hv⟩
theorem CsRel.single {x : C} {v : Value} (h : CRel w G H x v) (ho : v.oneCell' = true) : CsRel w G H [x] [v] :=
  ⟨rfl, fun i y u hy hu => by
    cases i with
    | zero => simp at hy hu; subst hy; subst hu; exact ⟨h, ho⟩
    | succ i => simp at hy⟩
theorem CsRel.set {cs : List C} {vs : List Value} (h : CsRel w G H cs vs) {x : C} {v : Value} (hx : CRel w G H x v) (ho : v.oneCell' = true) (i : Nat) : CsRel w G H (cs.set i x) (vs.set i v) :=
  ⟨by simp [h.1], fun j y u hy hu => by
    by_cases e : i = j
    · subst e
      have hi : i < cs.length := by have := (List.getElem?_eq_some_iff.1 hy).1; simpa using this
      simp [hi] at hy
      simp [h.1 ▸ hi] at hu
      subst hy; subst hu; exact ⟨hx, ho⟩
    · rw [List.getElem?_set_ne e] at hy hu
      exact h.2 j y u hy hu⟩

theorem VRel.cells {x : V} {v : Value} (h : VRel w G H x v) (hs : x.solid = true) : CsRel w G H x.cs v.cells.toList := by
  cases h with
  | c x v h =>
    have hx : x ≠ .any := by intro e; subst e; simp [V.solid] at hs
    have ho := h.one hx
    rw [cells_of_one ho]
    exact CsRel.single h ho
  | agg cs arr h => exact h
  | tup vs arr _ _ => simp [V.solid] at hs

theorem cells_at (R : Rel w G H) {id : Nat} {cs : List C} (h : H[id]? = some (.cells cs)) :
    ∃ arr t, w.heap[G.rho id]? = some (.cells arr t (0, 0)) ∧ CsRel w G H cs arr.toList := by
  cases R.ab id _ h with
  | cells _ arr t hb hr _ _ => exact ⟨arr, t, hb, hr⟩

theorem cell_arr {arr : Array Value} {t : TypeId} {b : Nat} {fr : Nat × Nat} (hb : w.heap[b]? = some (.cells arr t fr)) (j : Nat) : w.cell? ⟨b, j, none⟩ = arr.toList[j]? := by
  rw [cell_of_row w b j arr t fr hb]; simp

/-- The value that is read out of cells, by its type. -/
def mkV (i : TI) (cs : List C) (off : Nat) : V := if isAggD i.desc then .agg ((cs.drop off).take i.size) else .c (cs[off]?.getD .any)

include T
theorem run_loadVar {t : Nat} {i : TI} (ht : tt t = some i) {b off : Nat} {vs : List Value} (hoff : off + i.size ≤ vs.length) (hc : ∀ j, j < i.size → w.cell? ⟨b, off + j, none⟩ = vs[off + j]?) :
    (loadVar t ⟨b, off, none⟩).run P w = .ok (if isAggD i.desc then .agg ((vs.drop off).take i.size).toArray else vs[off]?.getD undef) w := by
  simp only [loadVar, Sem.run_bind, T.run_isAgg ht, Result.andThen_ok]
  cases ha : isAggD i.desc with
  | true =>
    simp only [if_true, Sem.run_bind, T.run_sizeOf ht, Result.andThen_ok]
    have hl : ((vs.drop off).take i.size).length = i.size := by simp; omega
    have := run_loadCells_list (P := P) w ⟨b, off, none⟩ ((vs.drop off).take i.size) (fun j v hj => by
      rw [Addr.add_lit]
      have hj' : j < i.size := by have := (List.getElem?_eq_some_iff.1 hj).1; omega
      rw [hc j hj']
      rw [List.getElem?_take, if_pos hj', List.getElem?_drop] at hj
      exact hj)
    rw [hl] at this
    simp only [this, Result.andThen_ok, Sem.run_pure]
  | false =>
    have h1 := T.one t i ht ha
    have h0 := hc 0 (by omega)
    simp only [Nat.add_zero] at h0
    have hlt : off < vs.length := by omega
    simp only [Bool.false_eq_true, if_false, run_load, h0, List.getElem?_eq_getElem hlt, Option.getD_some]

theorem yields_loadVar {t : Nat} {i : TI} (ht : tt t = some i) {b off : Nat} {cs : List C} {vs : List Value} (R : Rel w G H) (hr : CsRel w G H cs vs) (hoff : off + i.size ≤ cs.length)
    (hc : ∀ j, j < i.size → w.cell? ⟨b, off + j, none⟩ = vs[off + j]?) : Yields P (loadVar t ⟨b, off, none⟩) w G H (mkV i cs off) H := by
  refine Yields.still R (run_loadVar T ht (by rw [← hr.1]; exact hoff) hc) ?_
  unfold mkV
  cases ha : isAggD i.desc with
  | true => simp only [if_true]; exact .agg _ _ (by simpa using (hr.drop off).take i.size)
  | false =>
    have h1 := T.one t i ht ha
    have hlt : off < cs.length := by omega
    obtain ⟨v, hv, hx, _⟩ := hr.get (i := off) (x := cs[off]) (by simp [hlt])
    simp only [Bool.false_eq_true, if_false, hv, List.getElem?_eq_getElem hlt, Option.getD_some]
    exact .c _ _ hx

theorem yields_load_ptr {t : Nat} {i : TI} (ht : tt t = some i) {id off : Nat} {cs : List C} {a : Value} (R : Rel w G H) (hid : H[id]? = some (.cells cs)) (hoff : off + i.size ≤ cs.length)
    (ha : VRel w G H (.c (.ptr id off)) a) : Yields P (Instr.loadAt t a) w G H (mkV i cs off) H := by
  cases ha with
  | c _ _ ha =>
    cases ha with
    | ptr _ _ _ =>
      obtain ⟨arr, t', hb, hr⟩ := cells_at R hid
      have := yields_loadVar T ht (b := G.rho id) R hr hoff (fun j _ => cell_arr hb _)
      obtain ⟨v, w', G', h1, h2⟩ := this
      exact ⟨v, w', G', by simpa [Instr.loadAt, Instr.sureAddr] using h1, h2⟩

omit T in
theorem dcells {ds : List D} {f : Nat → Value} (hrel : ∀ (j : Nat) (x : D), ds[j]? = some x → DRel w G.S x (f j)) : CsRel w G H (ds.map .d) ((List.range ds.length).map f) := by
  refine ⟨by simp, fun i x v hx hv => ?_⟩
  rw [List.getElem?_map] at hx hv
  cases hd : ds[i]? with
  | none => simp [hd] at hx
  | some y =>
    have hi : i < ds.length := (List.getElem?_eq_some_iff.1 hd).1
    simp [hd] at hx
    simp [hi] at hv
    subst hx; subst hv
    have := hrel i y hd
    exact ⟨.d _ _ this, this.one⟩
end
end Go.Abs
