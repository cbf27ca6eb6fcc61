/- append. -/
import Derived.Test.YtklmpopomokglaaAbs9
set_option linter.unusedSimpArgs false
set_option linter.unusedVariables false
namespace Go.Abs
open Go

theorem flatten_length {sz : Nat} : ∀ {rows : List (List D)}, (∀ r ∈ rows, r.length = sz) → rows.flatten.length = rows.length * sz
  | [], _ => by simp
  | r :: rows, h => by
    rw [List.flatten_cons, List.length_append, flatten_length (fun x hx => h x (by simp [hx])), h r (by simp), List.length_cons, Nat.succ_mul, Nat.add_comm]
theorem flatten_get {sz : Nat} : ∀ {rows : List (List D)}, (∀ r ∈ rows, r.length = sz) → ∀ (i j : Nat) (r : List D), rows[i]? = some r → j < sz → rows.flatten[i * sz + j]? = r[j]?
  | [], _, i, j, r, hr, _ => by simp at hr
  | q :: rows, h, 0, j, r, hr, hj => by
    simp at hr; subst hr
    rw [List.flatten_cons, Nat.zero_mul, Nat.zero_add, List.getElem?_append_left (by rw [h q (by simp)]; exact hj)]
  | q :: rows, h, i + 1, j, r, hr, hj => by
    simp at hr
    have hq := h q (by simp)
    rw [List.flatten_cons, List.getElem?_append_right (by rw [hq, Nat.succ_mul]; omega), hq]
    have : (i + 1) * sz + j - sz = i * sz + j := by rw [Nat.succ_mul]; omega
    rw [this]
    exact flatten_get (fun x hx => h x (by simp [hx])) i j r hr hj
theorem chunk_flatten {sz : Nat} : ∀ {rows : List (List D)} (ex : List D), (∀ r ∈ rows, r.length = sz) → chunk sz rows.length (rows.flatten ++ ex) = rows
  | [], _, _ => rfl
  | r :: rows, ex, h => by
    have hr := h r (by simp)
    have e1 : ((r :: rows).flatten ++ ex).take sz = r := by rw [← hr]; simp
    have e2 : ((r :: rows).flatten ++ ex).drop sz = rows.flatten ++ ex := by rw [← hr]; simp
    have ih := chunk_flatten (sz := sz) (rows := rows) ex (fun x hx => h x (List.mem_cons_of_mem _ hx))
    simp only [List.length_cons, chunk, e1, e2, ih]

section
variable {P : Program} {tt : Nat → Option TI} {w : World} {G : Gh} {H : List AB}

/-- A slice of data, cell by cell. -/
theorem drel_flat {S : Nat → Nat → Prop} {rows : List (List D)} {a : Option Addr} {n cap sz : Nat} (h : DRel w S (.sl rows) (.slice a n cap)) (hu : ∀ r ∈ rows, r.length = sz) (hz : 0 < sz) :
    n = rows.length ∧ (rows ≠ [] → rows.length ≤ lim ∧ n ≤ cap ∧ ∃ b o, a = some ⟨b, o, none⟩ ∧ ∃ f : Nat → Value, (∀ k, k < n * sz → S b (o + k) ∧ w.cell? ⟨b, o + k, none⟩ = some (f k)) ∧ ∀ (k : Nat) (x : D), rows.flatten[k]? = some x → DRel w S x (f k)) := by
  cases h with
  | emp a cap => exact ⟨rfl, fun e => absurd rfl e⟩
  | sl _ b o _ s f hcap hlim hsz hcell hrel =>
    refine ⟨rfl, fun hne => ⟨hlim, hcap, b, o, rfl, fun k => f (k / sz) (k % sz), fun k hk => ?_, fun k x hx => ?_⟩⟩
    · have hp : 0 < rows.length := by
        cases rows with
        | nil => exact absurd rfl hne
        | cons => simp
      have hs : s = sz := by rw [← hsz 0 rows[0] (by simp [hp])]; exact hu _ (List.getElem_mem hp)
      subst hs
      have h1 : k / s < rows.length := Nat.div_lt_of_lt_mul (by rw [Nat.mul_comm]; exact hk)
      have := hcell (k / s) (k % s) h1 (Nat.mod_lt _ hz)
      have e : o + k / s * s + k % s = o + k := by have := Nat.div_add_mod k s; rw [Nat.mul_comm] at this; omega
      rwa [e] at this
    · have hk : k < rows.length * sz := by rw [← flatten_length hu]; exact (List.getElem?_eq_some_iff.1 hx).1
      have h1 : k / sz < rows.length := Nat.div_lt_of_lt_mul (by rw [Nat.mul_comm]; exact hk)
      have e : k / sz * sz + k % sz = k := by have := Nat.div_add_mod k sz; rw [Nat.mul_comm] at this; omega
      have hr : rows[k / sz]? = some rows[k / sz] := by simp [h1]
      have := flatten_get hu (k / sz) (k % sz) _ hr (Nat.mod_lt _ hz)
      rw [e, hx] at this
      exact hrel _ _ _ x hr this.symm

/-- The cells of a slice of data, read. -/
theorem run_firstCells {rows : List (List D)} {a : Option Addr} {n cap sz : Nat} (h : DRel w G.S (.sl rows) (.slice a n cap)) (hu : ∀ r ∈ rows, r.length = sz) (hz : 0 < sz) :
    ∃ vs : List Value, (∀ w' : World, w'.heap = w.heap → (Builtin.firstCells sz n (.slice a n cap)).run P w' = .ok vs.toArray w') ∧ CsRel w G H (rows.flatten.map .d) vs ∧ vs.length = rows.length * sz := by
  obtain ⟨hn, hr⟩ := drel_flat h hu hz
  subst hn
  by_cases he : rows = []
  · subst he
    refine ⟨[], fun w' _ => ?_, CsRel.nil, by simp⟩
    cases a with
    | none => simp [Builtin.firstCells]
    | some x => simp [Builtin.firstCells, loadCells, loadCellsFrom]
  · obtain ⟨_, _, b, o, rfl, f, h1, h2⟩ := hr he
    have hfl := flatten_length hu
    refine ⟨(List.range (rows.length * sz)).map f, fun w' hw => ?_, ?_, by simp⟩
    · simp only [Builtin.firstCells]
      exact run_loadCells w' ⟨b, o, none⟩ _ f (fun j hj => by
        rw [Addr.add_lit, cell_of_heap (w := w) (by rw [hw])]
        exact (h1 j hj).2)
    · rw [← hfl]; exact dcells h2

/-- A slice that fills its array may be appended to under a name of its own. -/
def Gh.adopt (G : Gh) (id : Nat) (a : Option Addr) (cap : Nat) : Gh := { G with g := upd G.g id (a, cap) }

theorem adopt {rows : List (List D)} {v : Value} (R : Rel w G H) (h : CRel w G H (.full rows) v) (sz : Nat) :
    ∃ G', Rel w G' (H ++ [.grow rows.length sz]) ∧ Later w G H w G' (H ++ [.grow rows.length sz]) ∧ CRel w G' (H ++ [.grow rows.length sz]) (.own H.length rows) v := by
  cases h with
  | full _ a n hn h =>
    subst hn
    have L : Later w G H w (G.adopt H.length a rows.length) (H ++ [.grow rows.length sz]) :=
      { size := Nat.le_refl _
        S := fun _ _ h => ⟨h, rfl⟩
        Snew := fun _ _ _ _ h => h
        len := by simp
        rho := fun _ _ => rfl
        grow := fun id n sz' hid h => ⟨n, by rwa [List.getElem?_append_left hid] at h, .inr ⟨rfl, upd_ne _ _ (Nat.ne_of_lt hid)⟩⟩
        role := fun _ _ => rfl
        frame := fun _ _ _ => rfl
        os := rfl
        out := rfl }
    refine ⟨G.adopt H.length a rows.length, ⟨R.sex, R.roleLt, fun id x hx => ?_⟩, L, ?_⟩
    · by_cases e : id < H.length
      · rw [List.getElem?_append_left e] at hx
        exact (R.ab id x hx).mono R L e (fun _ _ => rfl) (fun _ _ _ h => h) (upd_ne _ _ (Nat.ne_of_lt e))
      · have : id = H.length := by
          have := (List.getElem?_eq_some_iff.1 hx).1
          simp at this
          omega
        subst this
        simp at hx
        rw [← hx]
        refine .grow _ _ a rows.length (upd_same _ _ _) (Nat.le_refl _) (fun x _ hlt => absurd hlt (Nat.lt_irrefl _)) (fun ha => ?_)
        subst ha
        generalize hr : rows.length = k at h
        cases h with
        | emp => rfl
    · refine .own _ _ a _ _ (by simp) rfl (h.mono L.S) (fun m sz' hm => ?_)
      simp at hm
      exact ⟨by omega, fun _ => upd_same _ _ _⟩

/-- Cells of data written behind what stands, in the same array. -/
theorem own_inplace {id : Nat} {rows new : List (List D)} {sz b o cap : Nat} {us : List Value} (R : Rel w G H) (hid : H[id]? = some (.grow rows.length sz)) (hz : 0 < sz)
    (hu : ∀ r ∈ rows, r.length = sz) (hu' : ∀ r ∈ new, r.length = sz) (hg : G.g id = (some ⟨b, o, none⟩, cap)) (h : DRel w G.S (.sl rows) (.slice (some ⟨b, o, none⟩) rows.length cap))
    (hc : rows.length + new.length ≤ cap) (hn : 0 < new.length) (hus : CsRel w G H (new.flatten.map .d) us) (hl : rows.length + new.length ≤ lim) :
    ∃ w' G', (storeCells ⟨b, o + rows.length * sz, none⟩ us).run P w = .ok () w' ∧ Rel w' G' (H.set id (.grow (rows.length + new.length) sz)) ∧ Later w G H w' G' (H.set id (.grow (rows.length + new.length) sz)) ∧
      CRel w' G' (H.set id (.grow (rows.length + new.length) sz)) (.own id (rows ++ new)) (.slice (some ⟨b, o, none⟩) (rows.length + new.length) cap) := by
  have hidlt : id < H.length := (List.getElem?_eq_some_iff.1 hid).1
  have hul : us.length = new.length * sz := by have := hus.1; rw [List.length_map, flatten_length hu'] at this; omega
  obtain ⟨arr, t, hb, hsz, hrole, hfree⟩ : ∃ arr t, w.heap[b]? = some (.cells arr t (0, 0)) ∧ o + cap * sz ≤ arr.size ∧ G.role b = some id ∧ ∀ j, o + rows.length * sz ≤ j → ¬ G.S b j := by
    cases R.ab id _ hid with
    | grow _ _ a cap' hg' hcap' hsp _ =>
      rw [hg] at hg'
      cases hg'
      obtain ⟨b', o', e, h1, ⟨arr, t, h2, h3⟩, h4⟩ := hsp _ rfl (by omega)
      cases e
      exact ⟨arr, t, h2, h3, h1, h4⟩
  have hmul : (rows.length + new.length) * sz ≤ cap * sz := Nat.mul_le_mul_right sz hc
  rw [Nat.add_mul] at hmul
  have hrun := run_storeCells P (b := b) (off := o + rows.length * sz) (t := t) us 0 w arr hb (by omega) hus.ones
  simp only [Nat.add_zero] at hrun
  let arr' : Array Value := (setMany arr.toList (o + rows.length * sz) us).toArray
  let G' : Gh := { G with S := fun b' j => G.S b' j ∨ (b' = b ∧ o + rows.length * sz ≤ j ∧ j < o + rows.length * sz + new.length * sz) }
  have hget : ∀ j, arr'[j]? = if o + rows.length * sz ≤ j ∧ j < o + rows.length * sz + us.length then us[j - (o + rows.length * sz)]? else arr[j]? := fun j => by
    have := setMany_get us arr.toList (o + rows.length * sz) j (by simp; omega)
    simpa [arr'] using this
  have hsame : (w.putObj b (.cells arr' t (0, 0))).heap[b]? = some (.cells arr' t (0, 0)) := put_same hb
  have hcellb : ∀ j, (w.putObj b (.cells arr' t (0, 0))).cell? ⟨b, j, none⟩ = arr'[j]? := fun j => cell_of_row _ b j arr' t (0, 0) hsame
  have hcell0 : ∀ j, w.cell? ⟨b, j, none⟩ = arr[j]? := fun j => cell_of_row w b j arr t (0, 0) hb
  have L : Later w G H (w.putObj b (.cells arr' t (0, 0))) G' (H.set id (.grow (rows.length + new.length) sz)) :=
    { size := by simp
      S := fun b' j hS => ⟨.inl hS, by
        by_cases e : b' = b
        · subst e
          rw [hcellb, hcell0, hget, if_neg]
          intro hh
          exact hfree j hh.1 hS
        · exact cell_of_heap (put_other e) j⟩
      Snew := fun b' j _ hr hS => by
        rcases hS with hS | ⟨rfl, _⟩
        · exact hS
        · rw [hrole] at hr; cases hr
      len := by simp
      rho := fun _ _ => rfl
      grow := fun id' n sz' hid' hh => by
        by_cases e : id = id'
        · subst e
          simp [hidlt] at hh
          exact ⟨rows.length, by rw [hid, hh.2], .inl (by omega)⟩
        · rw [List.getElem?_set_ne e] at hh
          exact ⟨n, hh, .inr ⟨rfl, rfl⟩⟩
      role := fun _ _ => rfl
      frame := fun b' _ hr => put_other (fun e => by rw [e, hrole] at hr; cases hr)
      os := rfl
      out := rfl }
  have hrest : ∀ j, o + rows.length * sz + new.length * sz ≤ j → ¬ G'.S b j := fun j hj hS => by
    rcases hS with hS | ⟨_, _, h2⟩
    · exact hfree j (by omega) hS
    · omega
  refine ⟨_, G', hrun, ⟨fun b' j hS => ?_, fun b' i hr => by simpa using R.roleLt b' i hr, fun i x hx => ?_⟩, L, ?_⟩
  · rcases hS with hS | ⟨rfl, h1, h2⟩
    · obtain ⟨v, hv⟩ := R.sex b' j hS
      exact ⟨v, ((L.S b' j hS).2).trans hv⟩
    · have hj : j < arr'.size := by simp [arr', setMany_length]; omega
      exact ⟨arr'[j], by rw [hcellb]; simp [hj]⟩
  · by_cases e : id = i
    · subst e
      simp [hidlt] at hx
      rw [← hx]
      refine .grow _ _ (some ⟨b, o, none⟩) cap hg hc (fun x hx hlt => ?_) (fun e => by cases e)
      cases hx
      refine ⟨b, o, rfl, hrole, ⟨arr', t, hsame, by simp [arr', setMany_length]; omega⟩, fun j hj => hrest j (by rw [Nat.add_mul] at hj; omega)⟩
    · rw [List.getElem?_set_ne e] at hx
      refine (R.ab i x hx).mono R L (List.getElem?_eq_some_iff.1 hx).1 (fun b' hb' => put_other (fun e' => by rw [e', hrole] at hb'; exact e (Option.some.inj hb'))) (fun b' j hb' hS => ?_) rfl
      rcases hS with hS | ⟨rfl, _⟩
      · exact hS
      · rw [hrole] at hb'; exact absurd (Option.some.inj hb') e
  · refine .own id (rows ++ new) _ _ cap (by simpa using hidlt) (by simp) ?_ (fun m sz' hm => ?_)
    · have hu2 : ∀ r ∈ rows ++ new, r.length = sz := fun r hr => by
        rcases List.mem_append.1 hr with hr | hr
        · exact hu r hr
        · exact hu' r hr
      have hch := chunk_flatten (sz := sz) (rows := rows ++ new) [] hu2
      rw [List.append_nil, List.length_append] at hch
      rw [← hch]
      have hfl := flatten_length hu2
      rw [List.length_append] at hfl
      refine rows_rel (f := fun k => (arr'[o + k]?).getD undef) hc hl (by omega) (fun k hk => ?_) (fun k x hx => ?_)
      · have hk2 : o + k < arr'.size := by rw [Nat.add_mul] at hk; simp [arr', setMany_length]; omega
        refine ⟨?_, by rw [hcellb]; simp [hk2]⟩
        by_cases hlt : k < rows.length * sz
        · have hne : rows ≠ [] := by intro e; subst e; simp at hlt
          obtain ⟨_, _, b', o', e, f, h1, _⟩ := (drel_flat h hu hz).2 hne
          cases e
          exact .inl (h1 k hlt).1
        · exact .inr ⟨rfl, by omega, by rw [Nat.add_mul] at hk; omega⟩
      · have hk : k < (rows.length + new.length) * sz := by rw [← hfl]; exact (List.getElem?_eq_some_iff.1 hx).1
        rw [Nat.add_mul] at hk
        rw [List.flatten_append] at hx
        have hf1 := flatten_length hu
        rw [hget]
        by_cases hlt : k < rows.length * sz
        · have hne : rows ≠ [] := by intro e; subst e; simp at hlt
          obtain ⟨_, _, b', o', e, f, h1, h2⟩ := (drel_flat h hu hz).2 hne
          cases e
          rw [List.getElem?_append_left (by omega)] at hx
          have hc0 := (h1 k hlt).2
          rw [hcell0] at hc0
          rw [if_neg (by omega), hc0]
          exact (h2 k x hx).mono L.S
        · rw [List.getElem?_append_right (by omega), hf1] at hx
          rw [if_pos (by omega)]
          have e : o + k - (o + rows.length * sz) = k - rows.length * sz := by omega
          rw [e]
          have hlu : k - rows.length * sz < us.length := by omega
          have := hus.2 (k - rows.length * sz) (.d x) us[k - rows.length * sz] (by rw [List.getElem?_map, hx]; rfl) (by simp [hlu])
          simp [hlu]
          cases this.1 with
          | d _ _ hd => exact hd.mono L.S
    · simp [hidlt] at hm
      exact ⟨by simp; omega, fun _ => hg⟩

/-- The array is left behind: all cells of data lie in a new one. -/
theorem own_moved {id : Nat} {rows new : List (List D)} {sz cap : Nat} {t : TypeId} {vs us ex : List Value} (R : Rel w G H) (hid : H[id]? = some (.grow rows.length sz)) (hz : 0 < sz)
    (hu : ∀ r ∈ rows, r.length = sz) (hu' : ∀ r ∈ new, r.length = sz) (hc : rows.length + new.length ≤ cap) (hn : 0 < new.length)
    (hvs : CsRel w G H (rows.flatten.map .d) vs) (hus : CsRel w G H (new.flatten.map .d) us) (hex : ex.length = (cap - (rows.length + new.length)) * sz) (hl : rows.length + new.length ≤ lim) {arr : Array Value} (harr : arr.toList = vs ++ us ++ ex) :
    ∃ G', Rel (w.alloc (.cells arr t)) G' (H.set id (.grow (rows.length + new.length) sz)) ∧ Later w G H (w.alloc (.cells arr t)) G' (H.set id (.grow (rows.length + new.length) sz)) ∧
      CRel (w.alloc (.cells arr t)) G' (H.set id (.grow (rows.length + new.length) sz)) (.own id (rows ++ new)) (.slice (some ⟨w.heap.size, 0, none⟩) (rows.length + new.length) cap) := by
  have hidlt : id < H.length := (List.getElem?_eq_some_iff.1 hid).1
  have hvl : vs.length = rows.length * sz := by have := hvs.1; rw [List.length_map, flatten_length hu] at this; omega
  have hul : us.length = new.length * sz := by have := hus.1; rw [List.length_map, flatten_length hu'] at this; omega
  have hmul : cap * sz = rows.length * sz + new.length * sz + (cap - (rows.length + new.length)) * sz := by
    rw [← Nat.add_mul, ← Nat.add_mul]; congr 1; omega
  have hal : arr.size = cap * sz := by
    have := congrArg List.length harr
    simp at this; omega
  let b := w.heap.size
  let G' : Gh := { S := fun b' j => G.S b' j ∨ (b' = b ∧ j < (rows.length + new.length) * sz), rho := G.rho, g := upd G.g id (some ⟨b, 0, none⟩, cap), role := upd G.role b (some id) }
  have hnew : (w.alloc (.cells arr t)).heap[b]? = some (.cells arr t (0, 0)) := heap_alloc_at w _
  have hcellb : ∀ j, (w.alloc (.cells arr t)).cell? ⟨b, j, none⟩ = arr[j]? := fun j => cell_of_row _ b j arr t (0, 0) hnew
  have L : Later w G H (w.alloc (.cells arr t)) G' (H.set id (.grow (rows.length + new.length) sz)) :=
    { size := by simp
      S := fun b' j hS => ⟨.inl hS, by
        obtain ⟨v, hv⟩ := R.sex b' j hS
        exact cell_of_heap (heap_alloc_lt w _ (World.block_lt_of_cell? w _ hv)) j⟩
      Snew := fun b' j hb' _ hS => by
        rcases hS with hS | ⟨rfl, _⟩
        · exact hS
        · exact absurd hb' (Nat.lt_irrefl _)
      len := by simp
      rho := fun _ _ => rfl
      grow := fun id' n sz' hid' hh => by
        by_cases e : id = id'
        · subst e
          simp [hidlt] at hh
          exact ⟨rows.length, by rw [hid, hh.2], .inl (by omega)⟩
        · rw [List.getElem?_set_ne e] at hh
          exact ⟨n, hh, .inr ⟨rfl, upd_ne _ _ (Ne.symm e)⟩⟩
      role := fun b' hb' => upd_ne _ _ (Nat.ne_of_lt hb')
      frame := fun b' hb' _ => heap_alloc_lt w _ hb'
      os := rfl
      out := rfl }
  refine ⟨G', ⟨fun b' j hS => ?_, fun b' i hr => ?_, fun i x hx => ?_⟩, L, ?_⟩
  · rcases hS with hS | ⟨rfl, h1⟩
    · obtain ⟨v, hv⟩ := R.sex b' j hS
      exact ⟨v, ((L.S b' j hS).2).trans hv⟩
    · have hj : j < arr.size := by rw [Nat.add_mul] at h1; omega
      exact ⟨arr[j], by rw [hcellb]; simp [hj]⟩
  · simp only [World.size_alloc]
    by_cases e : b' = b
    · rw [e]; exact Nat.lt_succ_self _
    · have := R.roleLt b' i (by simpa [G', upd_ne _ _ e] using hr)
      omega
  · by_cases e : id = i
    · subst e
      simp [hidlt] at hx
      rw [← hx]
      refine .grow _ _ (some ⟨b, 0, none⟩) cap (upd_same _ _ _) hc (fun x hx hlt => ?_) (fun e => by cases e)
      cases hx
      refine ⟨b, 0, rfl, upd_same _ _ _, ⟨arr, t, hnew, by omega⟩, fun j hj hS => ?_⟩
      rcases hS with hS | ⟨_, h1⟩
      · exact R.noS_new j hS
      · omega
    · rw [List.getElem?_set_ne e] at hx
      refine (R.ab i x hx).mono R L (List.getElem?_eq_some_iff.1 hx).1 (fun b' hb' => heap_alloc_lt w _ (R.roleLt b' i hb')) (fun b' j hb' hS => ?_) (upd_ne _ _ (Ne.symm e))
      rcases hS with hS | ⟨rfl, _⟩
      · exact hS
      · have := R.roleLt _ _ hb'; exact absurd this (Nat.lt_irrefl _)
  · refine .own id (rows ++ new) _ _ cap (by simpa using hidlt) (by simp) ?_ (fun m sz' hm => ?_)
    · have hu2 : ∀ r ∈ rows ++ new, r.length = sz := fun r hr => by
        rcases List.mem_append.1 hr with hr | hr
        · exact hu r hr
        · exact hu' r hr
      have hch := chunk_flatten (sz := sz) (rows := rows ++ new) [] hu2
      rw [List.append_nil, List.length_append] at hch
      rw [← hch]
      have hfl := flatten_length hu2
      rw [List.length_append] at hfl
      have hall := hvs.append hus
      rw [← List.map_append, ← List.flatten_append] at hall
      refine rows_rel (f := fun k => (arr[0 + k]?).getD undef) hc hl (by omega) (fun k hk => ?_) (fun k x hx => ?_)
      · have hk2 : 0 + k < arr.size := by rw [Nat.add_mul] at hk; omega
        exact ⟨.inr ⟨rfl, by omega⟩, by rw [hcellb]; simp only [hk2, getElem?_pos, Option.getD_some]⟩
      · have hk : k < (rows.length + new.length) * sz := by rw [← hfl]; exact (List.getElem?_eq_some_iff.1 hx).1
        rw [Nat.add_mul] at hk
        have hk2 : k < (vs ++ us).length := by simp; omega
        have := hall.2 k (.d x) (vs ++ us)[k] (by rw [List.getElem?_map, hx]; rfl) (by simp)
        have e : arr[0 + k]? = some (vs ++ us)[k] := by
          rw [Nat.zero_add, ← Array.getElem?_toList, harr, List.getElem?_append_left hk2]; simp
        rw [e, Option.getD_some]
        cases this.1 with
        | d _ _ hd => exact hd.mono L.S
    · simp [hidlt] at hm
      exact ⟨by simp; omega, fun _ => upd_same _ _ _⟩

theorem growBy_le (newLen : Nat) : ∀ (r c : Nat), c ≤ newLen → Builtin.growBy newLen r c ≤ 2 * newLen + 193
  | 0, c, h => by simp [Builtin.growBy]; omega
  | r + 1, c, h => by
    simp only [Builtin.growBy]
    split
    · omega
    · by_cases h2 : c + (c + 768) / 4 ≤ newLen
      · exact growBy_le newLen r _ h2
      · cases r with
        | zero => simp only [Builtin.growBy]; omega
        | succ r => simp only [Builtin.growBy]; rw [if_pos (by omega)]; omega

theorem nextslicecap_le {need cap : Nat} (h : cap < need) : Builtin.nextslicecap need cap ≤ 2 * need + 193 := by
  unfold Builtin.nextslicecap
  split
  · omega
  · split
    · omega
    · exact growBy_le need 4 cap (Nat.le_of_lt h)

theorem yields_append_own' (T : TTok P tt) {t t2 e : Nat} {i i2 i' : TI} (ht : tt t = some i) (hd : i.desc = .slice e) (ht2 : tt t2 = some i2) (hd2 : ∃ e', i2.desc = .slice e') (he : tt e = some i') (hz : 0 < i'.size)
    {id : Nat} {rows new : List (List D)} {s : Value} {ax : Option Addr} {capx : Nat} {us : List Value} {ty : TypeId} (R : Rel w G H) (hid : H[id]? = some (.grow rows.length i'.size)) (hs : CRel w G H (.own id rows) s)
    (hus1 : ∀ w' : World, w'.heap = w.heap → (Builtin.firstCells i'.size new.length (.slice ax new.length capx)).run P w' = .ok us.toArray w') (hus2 : CsRel w G H (new.flatten.map .d) us)
    (hu : ∀ r ∈ rows, r.length = i'.size) (hu' : ∀ r ∈ new, r.length = i'.size) (hb : (2 * (rows.length + new.length) + 193) * i'.bytes ≤ 140737488355328) (hl : rows.length + new.length ≤ lim) :
    Yields P (Builtin.append_ #[t, t2] ty #[s, .slice ax new.length capx]) w G H (.c (.own id (rows ++ new))) (H.set id (.grow (rows.length + new.length) i'.size)) := by
  obtain ⟨e', hd2⟩ := hd2
  have hidlt : id < H.length := (List.getElem?_eq_some_iff.1 hid).1
  cases hs with
  | own _ _ a n cap _ hn hD hg =>
    subst hn
    obtain ⟨_, hg⟩ := hg _ _ hid
    have hg := hg rfl
    obtain ⟨inf, hi1, hi2⟩ := T.run_bytes he w
    by_cases h0 : new = []
    · subst h0
      simp only [List.flatten_nil, List.map_nil] at hus2
      have hus0 : us = [] := by have := hus2.1; simpa using this.symm
      subst hus0
      have hcap : rows.length ≤ cap := by
        cases R.ab id _ hid with
        | grow _ _ a' cap' hg' hcap' _ _ => rw [hg] at hg'; cases hg'; exact hcap'
      have hset : H.set id (.grow (rows.length + ([] : List (List D)).length) i'.size) = H := by
        simp only [List.length_nil, Nat.add_zero]
        apply List.ext_getElem?
        intro k
        by_cases e : id = k
        · subst e; simp [hidlt]; rw [List.getElem?_eq_getElem hidlt] at hid; exact (Option.some.inj hid).symm
        · rw [List.getElem?_set_ne e]
      rw [hset, List.append_nil]
      refine Yields.still R (v := .slice a rows.length cap) ?_ (.c _ _ (.own id rows a _ cap hidlt rfl hD (fun m sz hm => by rw [hid] at hm; cases hm; exact ⟨Nat.le_refl _, fun _ => hg⟩)))
      have := hus1 w rfl
      simp only [List.length_nil] at this
      cases a <;> simp [Builtin.append_, T.run_at ht hd rfl, T.run_sizeOf he, T.run_at ht2 hd2 rfl, Builtin.lenOf, hcap, this, storeCells]
    · have hnl : 0 < new.length := List.length_pos_iff.2 h0
      by_cases hfit : rows.length + new.length ≤ cap
      · obtain ⟨b, o, rfl⟩ : ∃ b o, a = some ⟨b, o, none⟩ := by
          cases R.ab id _ hid with
          | grow _ _ a' cap' hg' hcap' hsp hnil =>
            rw [hg] at hg'; cases hg'
            cases a with
            | none => have := hnil rfl; omega
            | some x => obtain ⟨b, o, e, _⟩ := hsp x rfl (by omega); exact ⟨b, o, by rw [e]⟩
        obtain ⟨w', G', h1, h2, h3, h4⟩ := own_inplace (P := P) R hid hz hu hu' hg hD hfit hnl hus2 hl
        refine ⟨_, w', G', ?_, .c _ _ h4, h2, h3⟩
        simp [Builtin.append_, T.run_at ht hd rfl, T.run_sizeOf he, T.run_at ht2 hd2 rfl, Builtin.lenOf, hfit, hus1 w rfl, Addr.add_lit, h1]
      · obtain ⟨vs, hvs1, hvs2, hvs3⟩ := run_firstCells (P := P) (H := H) hD hu hz
        obtain ⟨z, hz0, _, hz2, hz3⟩ := T.run_zero he
        have hzs : z.cells.size = i'.size := by have := (zeroCs_rel (w := w) (G := G) (H := H) hz2).1; simp at this; omega
        have hnext : ¬ (Builtin.nextslicecap (rows.length + new.length) cap * inf.bytes > 2 ^ 48) := by
          have := nextslicecap_le (need := rows.length + new.length) (cap := cap) (by omega)
          rw [hi2]
          have := Nat.mul_le_mul_right i'.bytes this
          omega
        have hint : ¬ (((rows.length + new.length : Nat) : Int) > IntKind.i64.max ∧ (false = true ∨ inf.bytes = 0)) := by
          intro h
          have h1 := h.1
          have : IntKind.i64.max = 9223372036854775807 := by decide
          rw [this] at h1
          have : (lim : Nat) = 140737488355328 := rfl
          omega
        have hint' : ¬ (((rows.length + new.length : Nat) : Int) > IntKind.i64.max ∧ (False ∨ inf.bytes = 0)) := fun h => hint ⟨h.1, by simpa using h.2⟩
        let q := Question.appendCap (rows.length + new.length) cap e
        let newCap := q.cut (w.tape w.drawn q)
        have hnc : rows.length + new.length ≤ newCap := by
          show _ ≤ (rows.length + new.length) + _
          omega
        obtain ⟨R1, L1⟩ := Rel.of_heap (w := w) (w' := w.drew) rfl R
        let arr : Array Value := vs.toArray ++ us.toArray ++ Builtin.zeroCells z.cells (newCap - (rows.length + new.length))
        have hzl : (Builtin.zeroCells z.cells (newCap - (rows.length + new.length))).toList = zc z.cells.toList (newCap - (rows.length + new.length)) := rangeMap_toList _ _
        obtain ⟨G', h2, h3, h4⟩ := own_moved (w := w.drew) (t := e) R1 hid hz hu hu' hnc hnl (hvs2.mono L1) (hus2.mono L1) (ex := zc z.cells.toList (newCap - (rows.length + new.length))) (by rw [zc_length]; simp [hzs]) hl (arr := arr) (by simp [arr, hzl])
        refine ⟨_, _, G', ?_, .c _ _ h4, h2, L1.trans h3⟩
        have hq : q.forced = false := rfl
        have hfit' : ¬ (rows.length + new.length ≤ cap) := hfit
        have hz0' := fun w' => hz0 w'
        have hi1' : ∀ w' : World, (typeInfo e).run P w' = .ok inf w' := fun w' => by
          have := hi1
          simp only [typeInfo, Sem.run_bind, run_program, Result.andThen_ok] at this ⊢
          cases hinf : P.info? e with
          | none => simp [hinf] at this
          | some x => simp [hinf] at this ⊢; exact this
        have hch : (choose (Question.appendCap (rows.length + new.length) cap e)).run P w = .ok newCap w.drew := by
          rw [run_choose]; rfl
        simp only [Builtin.append_, List.getElem?_toArray, List.getElem?_cons_zero, List.getElem?_cons_succ, Sem.run_bind, T.run_at ht hd rfl, Result.andThen_ok, T.run_sizeOf he, T.run_at ht2 hd2 rfl, Builtin.lenOf, Sem.run_pure, Bool.false_eq_true, if_false, hfit', hi1', if_neg hint', if_neg hnext, hch, run_askRoom, Bool.not_false, if_true, hvs1 w.drew rfl, hus1 w.drew rfl, hz0']
        simp only [newRow, Sem.run_bind, run_newObj, Result.andThen_ok, Sem.run_pure]
        rfl

theorem yields_append_own (T : TTok P tt) {t t2 e : Nat} {i i2 i' : TI} (ht : tt t = some i) (hd : i.desc = .slice e) (ht2 : tt t2 = some i2) (hd2 : ∃ e', i2.desc = .slice e') (he : tt e = some i') (hz : 0 < i'.size)
    {id : Nat} {rows new : List (List D)} {y : C} {s x : Value} {ty : TypeId} (R : Rel w G H) (hid : H[id]? = some (.grow rows.length i'.size)) (hs : CRel w G H (.own id rows) s) (hy : rowsOf y = some new) (hx : CRel w G H y x)
    (hu : ∀ r ∈ rows, r.length = i'.size) (hu' : ∀ r ∈ new, r.length = i'.size) (hb : (2 * (rows.length + new.length) + 193) * i'.bytes ≤ 140737488355328) (hl : rows.length + new.length ≤ lim) :
    Yields P (Builtin.append_ #[t, t2] ty #[s, x]) w G H (.c (.own id (rows ++ new))) (H.set id (.grow (rows.length + new.length) i'.size)) := by
  obtain ⟨ax, capx, rfl, hDx⟩ := rowsOf_rel hy hx
  obtain ⟨us, hus1, hus2, _⟩ := run_firstCells (P := P) (H := H) hDx hu' hz
  exact yields_append_own' T ht hd ht2 hd2 he hz R hid hs hus1 hus2 hu hu' hb hl

/-- The rows of a source: data, or the cells of an owned block that are data. -/
def srcRows (H : List AB) (sz : Nat) : C → Option (List (List D))
  | .ms id off len _ => match H[id]? with
    | some (.cells cs) => if off + len * sz ≤ cs.length then (toDs ((cs.drop off).take (len * sz))).map (chunk sz len) else none
    | _ => none
  | c => rowsOf c

theorem chunk_flat {α : Type} {sz : Nat} : ∀ (n : Nat) (l : List α), l.length = n * sz → (chunk sz n l).flatten = l
  | 0, l, h => by have : l = [] := List.eq_nil_of_length_eq_zero (by simpa using h); subst this; rfl
  | n + 1, l, h => by
    rw [chunk, List.flatten_cons, chunk_flat n _ (by rw [List.length_drop, h, Nat.succ_mul]; omega), List.take_append_drop]

theorem src_of {c : C} {sz : Nat} {new : List (List D)} {v : Value} (hz : 0 < sz) (R : Rel w G H) (h : srcRows H sz c = some new) (hu' : ∀ r ∈ new, r.length = sz) (hv : CRel w G H c v) :
    ∃ ax capx us, v = .slice ax new.length capx ∧ (∀ w' : World, w'.heap = w.heap → (Builtin.firstCells sz new.length (.slice ax new.length capx)).run P w' = .ok us.toArray w') ∧ CsRel w G H (new.flatten.map .d) us := by
  cases c with
  | ms id off len cap =>
    simp only [srcRows] at h
    split at h
    · rename_i cs hid
      split at h
      · rename_i hle
        simp only [Option.map_eq_some_iff] at h
        obtain ⟨ds, h1, rfl⟩ := h
        cases hv with
        | ms _ _ _ _ hidl =>
          obtain ⟨arr, t, hb, hr⟩ := cells_at R hid
          have hl := hr.1
          have hr' := (hr.drop off).take (len * sz)
          obtain ⟨g1, g2⟩ := toDs_rel h1
          have hlen : ((arr.toList.drop off).take (len * sz)).length = len * sz := by rw [List.length_take, List.length_drop, ← hl]; omega
          have hdl : ds.length = len * sz := by rw [← g1, List.length_take, List.length_drop]; omega
          refine ⟨_, cap, (arr.toList.drop off).take (len * sz), by rw [chunk_length], fun w' hw => ?_, ?_⟩
          · rw [chunk_length]
            have := run_loadCells_list (P := P) w' ⟨G.rho id, off, none⟩ ((arr.toList.drop off).take (len * sz)) (fun j v hj => by
              rw [Addr.add_lit, cell_of_heap (w := w) (by rw [hw]), cell_arr hb]
              rw [List.getElem?_take] at hj
              split at hj
              · rwa [List.getElem?_drop] at hj
              · cases hj)
            rw [hlen] at this
            simpa [Builtin.firstCells] using this
          · rw [chunk_flat _ _ hdl]
            refine ⟨by rw [List.length_map, hdl, hlen], fun i x v hx hv => ?_⟩
            have hlt : i < ((cs.drop off).take (len * sz)).length := by rw [g1]; simpa using (List.getElem?_eq_some_iff.1 hx).1
            have hc := List.getElem?_eq_getElem hlt
            obtain ⟨y, hy1, hy2⟩ := g2 i _ hc
            rw [List.getElem?_map, hy1] at hx
            cases hx
            obtain ⟨a1, a2⟩ := hr'.2 i _ v hc hv
            exact ⟨.d _ _ (toD_rel hy2 a1), a2⟩
      · cases h
    · cases h
  | _ =>
    simp only [srcRows] at h
    obtain ⟨ax, capx, rfl, hDx⟩ := rowsOf_rel h hv
    obtain ⟨us, hus1, hus2, _⟩ := run_firstCells (P := P) (H := H) hDx hu' hz
    exact ⟨ax, capx, us, rfl, hus1, hus2⟩
end
end Go.Abs
