/- Aggregates and slices that are built. -/
import Derived.Test.YtklmpopomokglaaAbs7
set_option linter.unusedSimpArgs false
set_option linter.unusedVariables false
namespace Go.Abs
open Go

def fillC (place : Nat → Option (Nat × Nat)) : List C → List (Nat × V) → Option (List C)
  | cells, [] => some cells
  | cells, (i, v) :: rest =>
    match place i with
    | none => none
    | some (off, size) => if v.solid && v.cs.length == size && decide (off + size ≤ cells.length) then fillC place (setMany cells off v.cs) rest else none

def placeS (tt : Nat → Option TI) (fs : Array Field) (i : Nat) : Option (Nat × Nat) :=
  match fs[i]? with
  | some fd => match tt fd.type with
    | some t => some (fd.offset, t.size)
    | none => none
  | none => none

/-- n copies of a row of cells. -/
def zc {α : Type} (z : List α) (n : Nat) : List α := (List.replicate n z).flatten
theorem zc_zero {α : Type} (z : List α) : zc z 0 = [] := rfl
theorem zc_succ {α : Type} (z : List α) (n : Nat) : zc z (n + 1) = z ++ zc z n := rfl
theorem zc_length {α : Type} (z : List α) : ∀ n, (zc z n).length = n * z.length
  | 0 => by simp [zc]
  | n + 1 => by rw [zc_succ, List.length_append, zc_length z n, Nat.succ_mul, Nat.add_comm]
theorem zc_one {α : Type} (x : α) : ∀ n, zc [x] n = List.replicate n x
  | 0 => rfl
  | n + 1 => by rw [zc_succ, zc_one x n]; rfl
theorem zc_get {α : Type} (z : List α) : ∀ (n i : Nat), i < n * z.length → (zc z n)[i]? = z[i % z.length]?
  | 0, i, h => by simp at h
  | n + 1, i, h => by
    rw [zc_succ]
    by_cases hi : i < z.length
    · rw [List.getElem?_append_left hi, Nat.mod_eq_of_lt hi]
    · have hi' := Nat.le_of_not_lt hi
      rw [List.getElem?_append_right hi', zc_get z n (i - z.length) (by rw [Nat.succ_mul] at h; omega)]
      rw [← Nat.mod_eq_sub_mod hi']

def chunk {α : Type} (sz : Nat) : Nat → List α → List (List α)
  | 0, _ => []
  | n + 1, l => l.take sz :: chunk sz n (l.drop sz)
theorem chunk_length {α : Type} (sz : Nat) : ∀ (n : Nat) (l : List α), (chunk sz n l).length = n
  | 0, _ => rfl
  | n + 1, l => by simp [chunk, chunk_length sz n]
theorem chunk_get {α : Type} (sz : Nat) : ∀ (n : Nat) (l : List α) (i : Nat), i < n → (chunk sz n l)[i]? = some ((l.drop (i * sz)).take sz)
  | 0, _, i, h => by omega
  | n + 1, l, 0, _ => by simp [chunk]
  | n + 1, l, i + 1, h => by
    simp only [chunk, List.getElem?_cons_succ]
    rw [chunk_get sz n (l.drop sz) i (by omega), List.drop_drop]
    congr 3
    rw [Nat.succ_mul, Nat.add_comm]

theorem rangeMap_toList (z : Array Value) (n : Nat) : ((Array.range (n * z.size)).map (fun i => z[i % z.size]!)).toList = zc z.toList n := by
  apply List.ext_getElem?
  intro i
  by_cases hi : i < n * z.size
  · rw [zc_get z.toList n i (by simpa using hi)]
    have hz : 0 < z.size := by
      rcases Nat.eq_zero_or_pos z.size with h | h
      · simp [h] at hi
      · exact h
    have hm : i % z.size < z.size := Nat.mod_lt _ hz
    simp [hi, hm]
  · have h1 : (zc z.toList n).length ≤ i := by rw [zc_length]; simpa using hi
    rw [List.getElem?_eq_none h1, List.getElem?_eq_none (by simpa using hi)]

theorem foldl_setMany (off : Nat) : ∀ (vs : List Value) (k : Nat) (arr : Array Value), ((vs.zipIdx k).foldl (fun (cs : Array Value) (p : Value × Nat) => cs.setIfInBounds (off + p.2) p.1) arr).toList = setMany arr.toList (off + k) vs
  | [], k, arr => rfl
  | v :: vs, k, arr => by
    simp only [List.zipIdx_cons, List.foldl_cons, setMany]
    rw [foldl_setMany off vs (k + 1)]
    simp [Nat.add_assoc]

section
variable {P : Program} {tt : Nat → Option TI} {w : World} {G : Gh} {H : List AB}

def PsRel (w : World) (G : Gh) (H : List AB) (ps : List (Nat × V)) (rs : List (Nat × Value)) : Prop :=
  ps.length = rs.length ∧ ∀ (i : Nat) (p : Nat × V) (r : Nat × Value), ps[i]? = some p → rs[i]? = some r → p.1 = r.1 ∧ VRel w G H p.2 r.2

theorem fill_rel {place : Nat → Option (Nat × Nat)} : ∀ {ps : List (Nat × V)} {rs : List (Nat × Value)} {cells cs' : List C} {arr : Array Value}, PsRel w G H ps rs → CsRel w G H cells arr.toList → fillC place cells ps = some cs' →
    ∃ arr', Instr.fill place arr rs = some arr' ∧ CsRel w G H cs' arr'.toList ∧ cs'.length = cells.length
  | [], [], cells, cs', arr, _, hc, h => by simp [fillC] at h; subst h; exact ⟨arr, rfl, hc, rfl⟩
  | (i, x) :: ps, (j, v) :: rs, cells, cs', arr, hp, hc, h => by
    obtain ⟨e, hv⟩ := hp.2 0 (i, x) (j, v) rfl rfl
    simp only at e hv
    subst e
    simp only [fillC] at h
    cases hpl : place i with
    | none => simp [hpl] at h
    | some q =>
      obtain ⟨off, size⟩ := q
      simp only [hpl] at h
      split at h
      · rename_i hcond
        simp only [Bool.and_eq_true, beq_iff_eq, decide_eq_true_eq] at hcond
        obtain ⟨⟨h1, h2⟩, h3⟩ := hcond
        have hcv := hv.cells h1
        have hl := hc.1
        have hlv := hcv.1
        have hp' : PsRel w G H ps rs := ⟨by have := hp.1; simpa using this, fun k p r hk hr => hp.2 (k + 1) p r (by simpa using hk) (by simpa using hr)⟩
        have hset := hc.setMany off hcv
        have e := foldl_setMany off v.cells.toList 0 arr
        simp only [Nat.add_zero] at e
        obtain ⟨arr', h4, h5, h6⟩ := fill_rel (arr := v.cells.zipIdx.foldl (fun cs (c, j) => cs.setIfInBounds (off + j) c) arr) hp' (by
          have e2 : (v.cells.zipIdx.foldl (fun cs (c, j) => cs.setIfInBounds (off + j) c) arr).toList = setMany arr.toList off v.cells.toList := by
            rw [← e, ← Array.foldl_toList, Array.toList_zipIdx]
          rw [e2]; exact hset) h
        refine ⟨arr', ?_, h5, by rw [h6, setMany_length]⟩
        simp only [Instr.fill, hpl]
        rw [if_neg]
        · exact h4
        · simp at hlv hl
          simp only [Bool.or_eq_true, decide_eq_true_eq, ne_eq, not_or, Decidable.not_not]
          omega
      · cases h
  | [], _ :: _, _, _, _, hp, _, _ => by have := hp.1; simp at this
  | _ :: _, [], _, _, _, hp, _, _ => by have := hp.1; simp at this

theorem run_places (T : TTok P tt) : ∀ (fs : List Field), (∀ f ∈ fs, (tt f.type).isSome = true) → ∀ w : World, (fs.mapM fun f => (do pure (f.offset, ← sizeOf f.type) : Sem (Nat × Nat))).run P w = .ok (fs.map fun f => (f.offset, ((tt f.type).map (·.size)).getD 0)) w
  | [], _, w => by simp
  | f :: fs, h, w => by
    obtain ⟨i, hi⟩ := Option.isSome_iff_exists.1 (h f (by simp))
    simp only [List.mapM_cons, Sem.run_bind, T.run_sizeOf hi, Result.andThen_ok, Sem.run_pure, run_places T fs (fun g hg => h g (by simp [hg])) w, List.map_cons, hi, Option.map_some, Option.getD_some]

theorem yields_build_struct (T : TTok P tt) {t : Nat} {i : TI} {fs : Array Field} (ht : tt t = some i) (hd : i.desc = .struct fs) (hall : fs.toList.all (fun f => (tt f.type).isSome) = true) {ps : Array (Nat × Value)} {qs : List (Nat × V)} {cs : List C}
    (R : Rel w G H) (hq : PsRel w G H qs ps.toList) (hf : fillC (placeS tt fs) i.zero.cs qs = some cs) : Yields P (Instr.build t ps) w G H (.agg cs) H := by
  obtain ⟨z, hz, h1, h2, h3⟩ := T.run_zero ht
  obtain ⟨fs', r1, r2⟩ := T.run_struct ht hd w
  have hall' : ∀ f ∈ fs'.toList, (tt f.type).isSome = true := fun f hm => by
    have := List.all_eq_true.1 hall (fld f.type f.offset) (by rw [← r2, Array.toList_map]; exact List.mem_map.2 ⟨f, hm, rfl⟩)
    simpa [fld] using this
  obtain ⟨arr', h4, h5, _⟩ := fill_rel (arr := z.cells) hq (zeroCs_rel h2) hf
  refine Yields.still R (v := .agg arr') ?_ (.agg _ _ h5)
  have hm : (fs'.mapM fun f => (do pure (f.offset, ← sizeOf f.type) : Sem (Nat × Nat))).run P w = .ok (fs'.map fun f => (f.offset, ((tt f.type).map (·.size)).getD 0)) w := by
    rw [Array.mapM_eq_mapM_toList, Sem.run_map, run_places T fs'.toList hall' w, Result.andThen_ok]
    congr 1
    apply Array.toList_inj.1
    simp
  have hp : (fun k => (fs'.map fun f => (f.offset, ((tt f.type).map (·.size)).getD 0))[k]?) = placeS tt fs := by
    funext k
    unfold placeS
    rw [← r2, Array.getElem?_map, Array.getElem?_map]
    cases hk : fs'[k]? with
    | none => rfl
    | some fd =>
      have hm : fd ∈ fs'.toList := Array.mem_toList_iff.2 (Array.mem_of_getElem? hk)
      obtain ⟨i', hi'⟩ := Option.isSome_iff_exists.1 (hall' fd hm)
      simp [fld, hi']
  simp only [Instr.build, Sem.run_bind, hz, Result.andThen_ok, r1, hm, hp, h4, Sem.run_pure]

theorem yields_build_array (T : TTok P tt) {t n e : Nat} {i i' : TI} (ht : tt t = some i) (hd : i.desc = .array n e) (he : tt e = some i') {ps : Array (Nat × Value)} {qs : List (Nat × V)} {cs : List C}
    (R : Rel w G H) (hq : PsRel w G H qs ps.toList) (hf : fillC (fun k => some (k * i'.size, i'.size)) i.zero.cs qs = some cs) : Yields P (Instr.build t ps) w G H (.agg cs) H := by
  obtain ⟨z, hz, h1, h2, h3⟩ := T.run_zero ht
  obtain ⟨arr', h4, h5, _⟩ := fill_rel (arr := z.cells) hq (zeroCs_rel h2) hf
  refine Yields.still R (v := .agg arr') ?_ (.agg _ _ h5)
  simp only [Instr.build, Sem.run_bind, hz, Result.andThen_ok, T.run_at ht hd rfl, T.run_sizeOf he, h4, Sem.run_pure]

/-- A row of data in a block. -/
theorem rows_rel {S : Nat → Nat → Prop} {b o n sz cap : Nat} {ds : List D} {f : Nat → Value} (hn : n ≤ cap) (hl : n ≤ lim) (hlen : n * sz ≤ ds.length)
    (hcell : ∀ k, k < n * sz → S b (o + k) ∧ w.cell? ⟨b, o + k, none⟩ = some (f k)) (hrel : ∀ (k : Nat) (x : D), ds[k]? = some x → DRel w S x (f k)) :
    DRel w S (.sl (chunk sz n ds)) (.slice (some ⟨b, o, none⟩) n cap) := by
  have hL := chunk_length sz n ds
  have key := DRel.sl (w := w) (S := S) (chunk sz n ds) b o cap sz (fun i j => f (i * sz + j)) (by omega) (by omega) (fun i r hr => ?_) (fun i j hi hj => ?_) (fun i j r x hr hx => ?_)
  · rw [hL] at key; exact key
  · have hi : i < n := by rw [← hL]; exact (List.getElem?_eq_some_iff.1 hr).1
    rw [chunk_get sz n ds i hi] at hr
    cases hr
    have : (i + 1) * sz ≤ n * sz := Nat.mul_le_mul_right sz hi
    rw [Nat.succ_mul] at this
    simp; omega
  · have hi' : i < n := by omega
    have : (i + 1) * sz ≤ n * sz := Nat.mul_le_mul_right sz hi'
    rw [Nat.succ_mul] at this
    have := hcell (i * sz + j) (by omega)
    rwa [← Nat.add_assoc] at this
  · have hi : i < n := by rw [← hL]; exact (List.getElem?_eq_some_iff.1 hr).1
    rw [chunk_get sz n ds i hi] at hr
    cases hr
    rw [List.getElem?_take] at hx
    split at hx
    · rw [List.getElem?_drop] at hx; exact hrel _ x hx
    · cases hx

/-- A new block of data, as a slice. -/
theorem yields_row {t : TypeId} {n sz : Nat} {cs : List C} {ds : List D} {arr : Array Value} (R : Rel w G H) (hc : CsRel w G H cs arr.toList) (hd : toDs cs = some ds) (hsz : n * sz ≤ cs.length) (hl : n ≤ lim) :
    Yields P (do pure (.slice (some (← newRow t arr)) n n)) w G H (.c (.full (chunk sz n ds))) H := by
  have L := Later.alloc_data R (.cells arr t) arr.size
  have hl1 := hc.1
  have hl2 := (toDs_rel hd).1
  simp at hl1
  refine ⟨.slice (some ⟨w.heap.size, 0, none⟩) n n, w.alloc (.cells arr t), G.lay w.heap.size arr.size, ?_, ?_, R.alloc_data arr t, L⟩
  · simp [newRow]
  · refine .c _ _ (.full _ _ n (by rw [chunk_length]) ?_)
    refine rows_rel (f := fun k => arr[k]?.getD undef) (Nat.le_refl _) hl (by omega) (fun k hk => ⟨.inr ⟨rfl, by omega⟩, ?_⟩) (fun k x hx => ?_)
    · have hk' : k < arr.size := by omega
      simp [hk']
    · have hk : k < cs.length := by rw [hl2]; exact (List.getElem?_eq_some_iff.1 hx).1
      obtain ⟨y, hy, hyd⟩ := (toDs_rel hd).2 k cs[k] (by simp [hk])
      rw [hx] at hy; cases hy
      have hk' : k < arr.size := by omega
      have := hc.2 k cs[k] arr[k] (by simp [hk]) (by simp [hk'])
      simp [hk']
      exact (toD_rel hyd this.1).mono L.S

theorem yields_buildSlice (T : TTok P tt) {t n e : Nat} {i i' : TI} (ht : tt t = some i) (hd : i.desc = .slice e) (he : tt e = some i') {ps : Array (Nat × Value)} {qs : List (Nat × V)} {cs : List C} {ds : List D}
    (R : Rel w G H) (hq : PsRel w G H qs ps.toList) (hf : fillC (fun k => some (k * i'.size, i'.size)) (zc i'.zero.cs n) qs = some cs) (hds : toDs cs = some ds) (hlim : n * i'.size ≤ 2 ^ 24) (hl : n ≤ lim) :
    Yields P (Instr.buildSlice t n ps) w G H (.c (.full (chunk i'.size n ds))) H := by
  obtain ⟨z, hz, h1, h2, h3⟩ := T.run_zero he
  have hz2 := (zeroCs_rel (w := w) (G := G) (H := H) h2)
  have hzs : z.cells.size = i'.size := by have := hz2.1; simp at this; omega
  have hcl : cs.length = n * i'.size := by
    have hzl : (zc i'.zero.cs n).length = n * i'.size := by rw [zc_length, h3]
    clear hds
    have : ∀ (qs : List (Nat × V)) (c c' : List C), fillC (fun k => some (k * i'.size, i'.size)) c qs = some c' → c'.length = c.length := by
      intro qs
      induction qs with
      | nil => intro c c' h; simp [fillC] at h; rw [h]
      | cons q qs ih =>
        intro c c' h
        obtain ⟨k, v⟩ := q
        simp only [fillC] at h
        split at h
        · rw [ih _ _ h, setMany_length]
        · cases h
    rw [this _ _ _ hf, hzl]
  by_cases h0 : n * i'.size = 0
  · have hc0 : CsRel w G H (zc i'.zero.cs n) (#[] : Array Value).toList := by
      have : zc i'.zero.cs n = [] := List.eq_nil_of_length_eq_zero (by rw [zc_length, h3]; exact h0)
      rw [this]; exact CsRel.nil
    obtain ⟨arr', h4, h5, _⟩ := fill_rel hq hc0 hf
    obtain ⟨v, w', G', h6, h7⟩ := yields_row (P := P) (t := e) (n := n) (sz := i'.size) R h5 hds (by omega) hl
    refine ⟨v, w', G', ?_, h7⟩
    have e0 : (Array.range (n * i'.size)).map (fun i => (#[] : Array Value)[i % (#[] : Array Value).size]!) = #[] := by rw [h0]; simp
    simp only [Instr.buildSlice, Sem.run_bind, T.run_at ht hd rfl, Result.andThen_ok, T.run_sizeOf he, gt_iff_lt, Nat.not_lt.2 hlim, if_false, h0, if_true, Sem.run_pure, Sem.run_ite]
    rw [h0] at e0
    simp only [e0, h4]
    simpa using h6
  · have hc0 : CsRel w G H (zc i'.zero.cs n) ((Array.range (n * i'.size)).map (fun i => z.cells[i % z.cells.size]!)).toList := by
      rw [← hzs, rangeMap_toList]
      clear hf hds hcl h0 hlim hl
      induction n with
      | zero => exact CsRel.nil
      | succ n ih => rw [zc_succ, zc_succ]; exact hz2.append ih
    obtain ⟨arr', h4, h5, _⟩ := fill_rel hq hc0 hf
    obtain ⟨v, w', G', h6, h7⟩ := yields_row (P := P) (t := e) (n := n) (sz := i'.size) R h5 hds (by omega) hl
    refine ⟨v, w', G', ?_, h7⟩
    simp only [Instr.buildSlice, Sem.run_bind, T.run_at ht hd rfl, Result.andThen_ok, T.run_sizeOf he, gt_iff_lt, Nat.not_lt.2 hlim, if_false, h0, Sem.run_ite, hz, Sem.run_pure, h4]
    simpa using h6
end
end Go.Abs
