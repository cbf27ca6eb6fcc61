/- Builtins. -/
import Derived.Test.YtklmpopomokglaaAbs12
set_option linter.unusedSimpArgs false
set_option linter.unusedVariables false
namespace Go.Abs
open Go

def intsOf : List V → Option (IntKind × List Int)
  | [.c (.d (.int k n))] => some (k, [n])
  | .c (.d (.int k n)) :: r => match intsOf r with
    | some (k', l) => if k = k' then some (k, n :: l) else none
    | none => none
  | _ => none
def minL : Int → List Int → Int
  | m, [] => m
  | m, x :: r => minL (min m x) r
def maxL : Int → List Int → Int
  | m, [] => m
  | m, x :: r => maxL (max m x) r

/-- What the cells of a source are, as far as n rows. -/
def srcCells (H : List AB) (sz n : Nat) : C → Option (List C)
  | .ms id off len _ => match H[id]? with
    | some (.cells cs) => if n ≤ len ∧ off + n * sz ≤ cs.length then some ((cs.drop off).take (n * sz)) else none
    | _ => none
  | c => match rowsOf c with
    | some rows => if n ≤ rows.length ∧ rows.all (fun r => r.length == sz) then some ((rows.take n).flatten.map .d) else none
    | none => none
def lenC : C → Option Nat
  | .ms _ _ len _ => some len
  | c => (rowsOf c).map (·.length)

section
variable {X : Tx} {w : World} {G : Gh} {H : List AB}

theorem lenC_rel {c : C} {n : Nat} {v : Value} (h : lenC c = some n) (hv : CRel w G H c v) : ∃ a cap, v = .slice a n cap := by
  cases c with
  | ms id off len cap => simp [lenC] at h; subst h; cases hv; exact ⟨_, _, rfl⟩
  | _ =>
    simp only [lenC] at h
    cases hr : rowsOf _ with
    | none => rw [hr] at h; cases h
    | some rows =>
      rw [hr] at h
      simp at h
      subst h
      obtain ⟨a, cap, e, _⟩ := rowsOf_rel hr hv
      exact ⟨a, cap, e⟩

theorem lenC_le {c : C} {n : Nat} {v : Value} (h : lenC c = some n) (hv : CRel w G H c v) (hm : ∀ id off len cap, c ≠ .ms id off len cap) : n ≤ lim := by
  cases c with
  | ms id off len cap => exact absurd rfl (hm _ _ _ _)
  | _ =>
    simp only [lenC] at h
    cases hr : rowsOf _ with
    | none => rw [hr] at h; cases h
    | some rows =>
      rw [hr] at h
      simp at h
      subst h
      obtain ⟨a, cap, e, hD⟩ := rowsOf_rel hr hv
      subst e
      cases hD with
      | emp => exact Nat.zero_le _
      | sl _ _ _ _ _ _ _ h => exact h

theorem yields_len {t e : Nat} {i : TI} (ht : X.tt t = some i) (hd : i.desc = .slice e) {c : C} {n : Nat} {x : Value} {ty : TypeId} (R : Rel w G H) (hc : lenC c = some n) (hx : CRel w G H c x) :
    Yields X.P (Builtin.len_ #[t] ty #[x]) w G H (I n) H := by
  obtain ⟨a, cap, rfl⟩ := lenC_rel hc hx
  refine Yields.still R (v := .int .i64 n) ?_ (.c _ _ (.d _ _ (.int _ _)))
  simp [Builtin.len_, X.ok.run_at ht hd rfl, goInt]

theorem yields_len_arr {t e n : Nat} {i : TI} (ht : X.tt t = some i) (hd : i.desc = .array n e) {x : Value} {ty : TypeId} (R : Rel w G H) :
    Yields X.P (Builtin.len_ #[t] ty #[x]) w G H (I n) H := by
  refine Yields.still R (v := .int .i64 n) ?_ (.c _ _ (.d _ _ (.int _ _)))
  simp [Builtin.len_, X.ok.run_at ht hd rfl, goInt]

theorem yields_len_map {t k e id : Nat} {i : TI} {es : List (V × V)} (ht : X.tt t = some i) (hd : i.desc = .map k e) {x : Value} {ty : TypeId} (R : Rel w G H) (hid : H[id]? = some (.mp es)) (hx : CRel w G H (.mp id) x) :
    Yields X.P (Builtin.len_ #[t] ty #[x]) w G H (I es.length) H := by
  cases hx
  cases R.ab id _ hid with
  | mp _ rs clock hb hr hrole =>
    refine Yields.still R (v := .int .i64 es.length) ?_ (.c _ _ (.d _ _ (.int _ _)))
    have : (getObj (G.rho id)).run X.P w = .ok (.map rs clock) w := by simp [getObj, Sem.run, hb]
    simp [Builtin.len_, X.ok.run_at ht hd rfl, goInt, this, hr.1]

theorem ints_rel : ∀ {vs : List V} {k : IntKind} {l : List Int} {us : List Value}, intsOf vs = some (k, l) → vs.length = us.length → (∀ (i : Nat) (x : V) (v : Value), vs[i]? = some x → us[i]? = some v → VRel w G H x v) → us = l.map (Value.int k)
  | [], k, l, us, h, _, _ => by simp [intsOf] at h
  | v :: r, k, l, us, h, hl, hr => by
    cases us with
    | nil => simp at hl
    | cons u us =>
      have h0 := hr 0 v u rfl rfl
      unfold intsOf at h
      split at h
      · rename_i k' n heq
        cases heq
        cases h
        obtain rfl := int_rel h0
        have : us = [] := by simpa using hl.symm
        subst this; rfl
      · rename_i k' n r' hne heq
        cases heq
        split at h
        · rename_i k2 l2 h2
          split at h
          · rename_i e
            subst e
            cases h
            obtain rfl := int_rel h0
            have ih := ints_rel (us := us) h2 (by simpa using hl) (fun i x v hx hv => hr (i + 1) x v (by simpa using hx) (by simpa using hv))
            rw [ih]
            rfl
          · cases h
        · cases h
      · cases h

theorem run_minL (k : IntKind) (P : Program) : ∀ (l : List Int) (m : Int), ((l.map (Value.int k)).foldlM Builtin.min2 (.int k m)).run P w = .ok (.int k (minL m l)) w
  | [], m => by simp [minL]
  | x :: l, m => by
    simp only [List.map_cons, List.foldlM_cons, Sem.run_bind, Builtin.min2, Sem.run_pure, Result.andThen_ok, minL]
    rw [run_minL k P l]
    congr 3
    simp only [Int.min_def]; split <;> split <;> omega
theorem run_maxL (k : IntKind) (P : Program) : ∀ (l : List Int) (m : Int), ((l.map (Value.int k)).foldlM Builtin.max2 (.int k m)).run P w = .ok (.int k (maxL m l)) w
  | [], m => by simp [maxL]
  | x :: l, m => by
    simp only [List.map_cons, List.foldlM_cons, Sem.run_bind, Builtin.max2, Sem.run_pure, Result.andThen_ok, maxL]
    rw [run_maxL k P l]
    congr 3
    simp only [Int.max_def]; split <;> split <;> omega

theorem yields_min {vs : List V} {k : IntKind} {m : Int} {l : List Int} {us : Array Value} {ts : Array TypeId} {ty : TypeId} (R : Rel w G H) (h : intsOf vs = some (k, m :: l)) (hl : vs.length = us.toList.length)
    (hr : ∀ (i : Nat) (x : V) (v : Value), vs[i]? = some x → us.toList[i]? = some v → VRel w G H x v) : Yields X.P (Builtin.min_ ts ty us) w G H (.c (.d (.int k (minL m l)))) H := by
  have e := ints_rel h hl hr
  refine Yields.still R (v := .int k (minL m l)) ?_ (.c _ _ (.d _ _ (.int _ _)))
  simp only [Builtin.min_, e, List.map_cons]
  exact run_minL k X.P l m
theorem yields_max {vs : List V} {k : IntKind} {m : Int} {l : List Int} {us : Array Value} {ts : Array TypeId} {ty : TypeId} (R : Rel w G H) (h : intsOf vs = some (k, m :: l)) (hl : vs.length = us.toList.length)
    (hr : ∀ (i : Nat) (x : V) (v : Value), vs[i]? = some x → us.toList[i]? = some v → VRel w G H x v) : Yields X.P (Builtin.max_ ts ty us) w G H (.c (.d (.int k (maxL m l)))) H := by
  have e := ints_rel h hl hr
  refine Yields.still R (v := .int k (maxL m l)) ?_ (.c _ _ (.d _ _ (.int _ _)))
  simp only [Builtin.max_, e, List.map_cons]
  exact run_maxL k X.P l m

theorem flatten_take {sz n : Nat} : ∀ {rows : List (List D)}, (∀ r ∈ rows, r.length = sz) → (rows.take n).flatten = rows.flatten.take (n * sz) := by
  induction n with
  | zero => intro rows _; simp
  | succ n ih =>
    intro rows h
    cases rows with
    | nil => simp
    | cons r rows =>
      have hr := h r (by simp)
      have ih' := ih (rows := rows) (fun x hx => h x (List.mem_cons_of_mem _ hx))
      have e1 : (n + 1) * sz - sz = n * sz := by rw [Nat.succ_mul]; omega
      have e2 : r.take ((n + 1) * sz) = r := List.take_of_length_le (by rw [Nat.succ_mul]; omega)
      rw [List.take_succ_cons, List.flatten_cons, List.flatten_cons, ih', List.take_append, hr, e1, e2]

/-- The first rows of a source, read. -/
theorem run_src {c : C} {sz n : Nat} {cs : List C} {v : Value} (R : Rel w G H) (h : srcCells H sz n c = some cs) (hz : 0 < sz) (hv : CRel w G H c v) :
    ∃ vs : List Value, (Builtin.firstCells sz n v).run X.P w = .ok vs.toArray w ∧ CsRel w G H cs vs := by
  cases c with
  | ms id off len cap =>
    simp only [srcCells] at h
    split at h
    · rename_i cs0 hid
      split at h
      · rename_i hc
        cases h
        cases hv
        obtain ⟨arr, t, hb, hr⟩ := cells_at R hid
        have hl := hr.1
        have hr' := (hr.drop off).take (n * sz)
        refine ⟨(arr.toList.drop off).take (n * sz), ?_, hr'⟩
        have := run_loadCells_list (P := X.P) w ⟨G.rho id, off, none⟩ ((arr.toList.drop off).take (n * sz)) (fun j v hj => by
          rw [Addr.add_lit, cell_arr hb]
          rw [List.getElem?_take] at hj
          split at hj
          · rwa [List.getElem?_drop] at hj
          · cases hj)
        have hlen : ((arr.toList.drop off).take (n * sz)).length = n * sz := by rw [List.length_take, List.length_drop, ← hl]; omega
        rw [hlen] at this
        simpa [Builtin.firstCells] using this
      · cases h
    · cases h
  | _ =>
    simp only [srcCells] at h
    split at h
    · rename_i rows hr
      split at h
      · rename_i hc
        cases h
        obtain ⟨a, cap, rfl, hD⟩ := rowsOf_rel hr hv
        have hu : ∀ r ∈ rows, r.length = sz := fun r hm => by simpa using List.all_eq_true.1 hc.2 r hm
        have hfl := flatten_length hu
        by_cases he : rows = []
        · subst he
          have : n = 0 := by have := hc.1; simp at this; exact this
          subst this
          refine ⟨[], ?_, CsRel.nil⟩
          cases a with
          | none => simp [Builtin.firstCells]
          | some x => simp [Builtin.firstCells, loadCells, loadCellsFrom]
        · obtain ⟨_, hr2⟩ := drel_flat hD hu hz
          obtain ⟨_, _, b, o, rfl, f, h1, h2⟩ := hr2 he
          have hmul : n * sz ≤ rows.length * sz := Nat.mul_le_mul_right _ hc.1
          refine ⟨(List.range (n * sz)).map f, ?_, ?_⟩
          · simp only [Builtin.firstCells]
            exact run_loadCells w ⟨b, o, none⟩ _ f (fun j hj => by rw [Addr.add_lit]; exact (h1 j (by omega)).2)
          · rw [flatten_take hu]
            have hk := dcells (w := w) (G := G) (H := H) (ds := rows.flatten.take (n * sz)) (f := f) (fun j x hx => by
              rw [List.getElem?_take] at hx
              split at hx
              · exact h2 j x hx
              · cases hx)
            have e : (rows.flatten.take (n * sz)).length = n * sz := by rw [List.length_take, hfl]; omega
            rwa [e] at hk
      · cases h
    · cases h

theorem yields_copy {t t2 e : Nat} {i i' : TI} (ht : X.tt t = some i) (hd : i.desc = .slice e) (he : X.tt e = some i') (hz : 0 < i'.size) {id off len cap n m : Nat} {c : C} {cs cs' : List C} {dst src : Value} {ty : TypeId} (R : Rel w G H)
    (hid : H[id]? = some (.cells cs)) (hdst : CRel w G H (.ms id off len cap) dst) (hl : lenC c = some m) (hn : n = Nat.min m len) (hs : srcCells H i'.size n c = some cs') (hsrc : CRel w G H c src) (hb : off + n * i'.size ≤ cs.length) (hcl : cs'.length = n * i'.size) :
    Yields X.P (Builtin.copy_ #[t, t2] ty #[dst, src]) w G H (I n) (H.set id (.cells (setMany cs off cs'))) := by
  cases hdst with
  | ms _ _ _ _ hidl =>
    obtain ⟨vs, h1, h2⟩ := run_src (X := X) R hs hz hsrc
    obtain ⟨a, capx, rfl⟩ := lenC_rel hl hsrc
    obtain ⟨arr, t', hbk, hr⟩ := cells_at R hid
    have hvl : vs.length = n * i'.size := by rw [← h2.1, hcl]
    have hrl : cs.length = arr.size := by have := hr.1; simpa using this
    obtain ⟨R', L'⟩ := R.put_cells (cs' := setMany cs off cs') (arr' := (setMany arr.toList off vs).toArray) hid hbk (by simpa using hr.setMany off h2)
    refine ⟨.int .i64 n, _, G, ?_, .c _ _ (.d _ _ (.int _ _)), R', L'⟩
    have hst := run_storeCells X.P (b := G.rho id) (off := off) (t := t') vs 0 w arr hbk (by omega) h2.ones
    simp only [Nat.add_zero] at hst
    subst hn
    simp [Builtin.copy_, X.ok.run_at ht hd rfl, Builtin.lenOf, X.ok.run_sizeOf he, h1, hst, goInt]

theorem yields_clear {t e : Nat} {i i' : TI} (ht : X.tt t = some i) (hd : i.desc = .slice e) (he : X.tt e = some i') {id off len cap : Nat} {cs : List C} {x : Value} {ty : TypeId} (R : Rel w G H) (hlen : len ≠ 0)
    (hid : H[id]? = some (.cells cs)) (hx : CRel w G H (.ms id off len cap) x) (hb : off + len * i'.size ≤ cs.length) :
    Yields X.P (Builtin.clear_ #[t] ty #[x]) w G H (.tup []) (H.set id (.cells (setMany cs off (zc i'.zero.cs len)))) := by
  cases hx with
  | ms _ _ _ _ hidl =>
    obtain ⟨z, hz, hz1, hz2, hz3⟩ := X.ok.run_zero he
    have hzr := zeroCs_rel (w := w) (G := G) (H := H) hz2
    obtain ⟨arr, t', hbk, hr⟩ := cells_at R hid
    have hrl : cs.length = arr.size := by have := hr.1; simpa using this
    have hzc := zc_rel hzr len
    have hzl : (Builtin.zeroCells z.cells len).toList = zc z.cells.toList len := rangeMap_toList _ _
    have hvl : (zc z.cells.toList len).length = len * i'.size := by rw [← hzc.1, zc_length, hz3]
    obtain ⟨R', L'⟩ := R.put_cells (cs' := setMany cs off (zc i'.zero.cs len)) (arr' := (setMany arr.toList off (zc z.cells.toList len)).toArray) hid hbk (by simpa using hr.setMany off hzc)
    refine ⟨.tuple #[], _, G, ?_, .tup [] #[] rfl (fun i x v h => by simp at h), R', L'⟩
    have hst := run_storeCells X.P (b := G.rho id) (off := off) (t := t') (zc z.cells.toList len) 0 w arr hbk (by omega) hzc.ones
    simp only [Nat.add_zero] at hst
    cases len with
    | zero => exact absurd rfl hlen
    | succ len => simp only [Builtin.clear_]; simp [X.ok.run_at ht hd rfl, hz, hzl, hst]
end
end Go.Abs
