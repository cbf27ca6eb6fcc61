/- Aggregates and slices that are built. -/
import Derived.Test.YtfgdbeijjbijnaaGreatDoorJG00
import Derived.Laws.StructEq
set_option linter.unusedSimpArgs false
set_option linter.unusedVariables false
namespace Go.Abs
open Go
def C0 (place : Nat → Option (Nat × Nat)) : List C → List (Nat × V) → Option (List C)
 | cells, [] => some cells
 | cells, (i, v) :: rest =>
  match place i with
  | none => none
  | some (off, size) => if v.solid && v.cs.length == size && decide (off + size ≤ cells.length) then C0 place (setMany cells off v.cs) rest else none
def J3 (tt : Nat → Option TI) (fs : Array Field) (i : Nat) : Option (Nat × Nat) :=
 match fs[i]? with
 | some fd => match tt fd.type with
  | some t => some (fd.offset, t.size)
  | none => none
 | none => none
def zc {α : Type} (z : List α) (n : Nat) : List α := (List.replicate n z).flatten
theorem E4 {α : Type} (z : List α) (n : Nat) : zc z (n + 1) = z ++ zc z n := rfl
theorem CI {α : Type} (z : List α) : ∀ n, (zc z n).length = n * z.length
 | 0 => by simp [zc]
 | n + 1 => by rw [E4, List.length_append, CI z n, Nat.succ_mul, Nat.add_comm]
theorem Q8 {α : Type} (x : α) : ∀ n, zc [x] n = List.replicate n x
 | 0 => rfl
 | n + 1 => by rw [E4, Q8 x n]; rfl
theorem U9 {α : Type} (z : List α) : ∀ (n i : Nat), i < n * z.length → (zc z n)[i]? = z[i % z.length]?
 | 0, i, h => by simp at h
 | n + 1, i, h => by
  rw [E4]
  by_cases hi : i < z.length
  ·rw [List.getElem?_append_left hi, Nat.mod_eq_of_lt hi]
  ·have hi' := Nat.le_of_not_lt hi
   rw [List.getElem?_append_right hi', U9 z n (i - z.length) (by rw [Nat.succ_mul] at h; omega)]
   rw [← Nat.mod_eq_sub_mod hi']
def BC {α : Type} (sz : Nat) : Nat → List α → List (List α)
 | 0, _ => []
 | n + 1, l => l.take sz :: BC sz n (l.drop sz)
theorem BW {α : Type} (sz : Nat) : ∀ (n : Nat) (l : List α), (BC sz n l).length = n
 | 0, _ => rfl
 | n + 1, l => by simp [BC, BW sz n]
theorem Dq {α : Type} (sz : Nat) : ∀ (n : Nat) (l : List α) (i : Nat), i < n → (BC sz n l)[i]? = some ((l.drop (i * sz)).take sz)
 | 0, _, i, h => by omega
 | n + 1, l, 0, _ => by simp [BC]
 | n + 1, l, i + 1, h => by
  simp only [BC, List.getElem?_cons_succ]
  rw [Dq sz n (l.drop sz) i (by omega), List.drop_drop]
  congr 3
  rw [Nat.succ_mul, Nat.add_comm]
theorem BE (z : Array Value) (n : Nat) : ((Array.range (n * z.size)).map (fun i => z[i % z.size]!)).toList = zc z.toList n := by
 apply List.ext_getElem?
 intro i
 by_cases hi : i < n * z.size
 ·rw [U9 z.toList n i (by simpa using hi)]
  have hz : 0 < z.size := by
   rcases Nat.eq_zero_or_pos z.size with h | h
   ·simp [h] at hi
   ·exact h
  have hm : i % z.size < z.size := Nat.mod_lt _ hz
  simp [hi, hm]
 ·have h1 : (zc z.toList n).length ≤ i := by rw [CI]; simpa using hi
  rw [List.getElem?_eq_none h1, List.getElem?_eq_none (by simpa using hi)]
theorem Gq (off : Nat) : ∀ (vs : List Value) (k : Nat) (arr : Array Value), ((vs.zipIdx k).foldl (fun (cs : Array Value) (p : Value × Nat) => cs.setIfInBounds (off + p.2) p.1) arr).toList = setMany arr.toList (off + k) vs
 | [], k, arr => rfl
 | v :: vs, k, arr => by
  simp only [List.zipIdx_cons, List.foldl_cons, setMany]
  rw [Gq off vs (k + 1)]
  simp [Nat.add_assoc]
section
variable {P : Program} {tt : Nat → Option TI} {w : World} {G : Gh} {H : List AB}
def IN (w : World) (G : Gh) (H : List AB) (ps : List (Nat × V)) (rs : List (Nat × Value)) : Prop :=
 ps.length = rs.length ∧ ∀ (i : Nat) (p : Nat × V) (r : Nat × Value), ps[i]? = some p → rs[i]? = some r → p.1 = r.1 ∧ Ag w G H p.2 r.2
theorem D8 {place : Nat → Option (Nat × Nat)} : ∀ {ps : List (Nat × V)} {rs : List (Nat × Value)} {cells cs' : List C} {arr : Array Value}, IN w G H ps rs → An w G H cells arr.toList → C0 place cells ps = some cs' →
  ∃ arr', Instr.fill place arr rs = some arr' ∧ An w G H cs' arr'.toList ∧ cs'.length = cells.length
 | [], [], cells, cs', arr, _, hc, h => by simp [C0] at h; subst h; exact ⟨arr, rfl, hc, rfl⟩
 | (i, x) :: ps, (j, v) :: rs, cells, cs', arr, hp, hc, h => by
  obtain ⟨e, hv⟩ := hp.2 0 (i, x) (j, v) rfl rfl
  simp only at e hv
  subst e
  simp only [C0] at h
  cases hpl : place i with
  | none => simp [hpl] at h
  | some q =>
   obtain ⟨off, size⟩ := q
   simp only [hpl] at h
   split at h
   ·rename_i hcond
    simp only [Bool.and_eq_true, beq_iff_eq, decide_eq_true_eq] at hcond
    obtain ⟨⟨h1, h2⟩, h3⟩ := hcond
    have hcv := hv.cells h1
    have hl := hc.1
    have hlv := hcv.1
    have hp' : IN w G H ps rs := ⟨by have := hp.1; simpa using this, fun k p r hk hr => hp.2 (k + 1) p r (by simpa using hk) (by simpa using hr)⟩
    have hset := hc.setMany off hcv
    have e := Gq off v.cells.toList 0 arr
    simp only [Nat.add_zero] at e
    obtain ⟨arr', h4, h5, h6⟩ := D8 (arr := v.cells.zipIdx.foldl (fun cs (c, j) => cs.setIfInBounds (off + j) c) arr) hp' (by
     have e2 : (v.cells.zipIdx.foldl (fun cs (c, j) => cs.setIfInBounds (off + j) c) arr).toList = setMany arr.toList off v.cells.toList := by
      rw [← e, ← Array.foldl_toList, Array.toList_zipIdx]
     rw [e2]; exact hset) h
    refine ⟨arr', ?_, h5, by rw [h6, As]⟩
    simp only [Instr.fill, hpl]
    rw [if_neg]
    ·exact h4
    ·simp at hlv hl
     simp only [Bool.or_eq_true, decide_eq_true_eq, ne_eq, not_or, Decidable.not_not]
     omega
   ·cases h
 | [], _ :: _, _, _, _, hp, _, _ => by have := hp.1; simp at this
 | _ :: _, [], _, _, _, hp, _, _ => by have := hp.1; simp at this
theorem J4 (T : By P tt) : ∀ (fs : List Field), (∀ f ∈ fs, (tt f.type).isSome = true) → ∀ w : World, (fs.mapM fun f => (do pure (f.offset, ← sizeOf f.type) : Sem (Nat × Nat))).run P w = .ok (fs.map fun f => (f.offset, ((tt f.type).map (·.size)).getD 0)) w
 | [], _, w => by simp
 | f :: fs, h, w => by
  obtain ⟨i, hi⟩ := Option.isSome_iff_exists.1 (h f (by simp))
  simp only [List.mapM_cons, Sem.run_bind, T.run_sizeOf hi, Result.andThen_ok, Sem.run_pure, J4 T fs (fun g hg => h g (by simp [hg])) w, List.map_cons, hi, Option.map_some, Option.getD_some]
theorem Gm (T : By P tt) {t : Nat} {i : TI} {fs : Array Field} (ht : tt t = some i) (hd : i.desc = .struct fs) (hall : fs.toList.all (fun f => (tt f.type).isSome) = true) {ps : Array (Nat × Value)} {qs : List (Nat × V)} {cs : List C}
  (R : Rel w G H) (hq : IN w G H qs ps.toList) (hf : C0 (J3 tt fs) i.zero.cs qs = some cs) : Aj P (Instr.build t ps) w G H (.agg cs) H := by
 obtain ⟨z, hz, h1, h2, h3⟩ := T.run_zero ht
 obtain ⟨fs', r1, r2⟩ := T.run_struct ht hd w
 have hall' : ∀ f ∈ fs'.toList, (tt f.type).isSome = true := fun f hm => by
  have := List.all_eq_true.1 hall (fld f.type f.offset) (by rw [← r2, Array.toList_map]; exact List.mem_map.2 ⟨f, hm, rfl⟩)
  simpa [fld] using this
 obtain ⟨arr', h4, h5, _⟩ := D8 (arr := z.cells) hq (BD h2) hf
 refine Aj.still R (v := .agg arr') ?_ (.agg _ _ h5)
 have hm : (fs'.mapM fun f => (do pure (f.offset, ← sizeOf f.type) : Sem (Nat × Nat))).run P w = .ok (fs'.map fun f => (f.offset, ((tt f.type).map (·.size)).getD 0)) w := by
  rw [Array.mapM_eq_mapM_toList, Sem.run_map, J4 T fs'.toList hall' w, Result.andThen_ok]
  congr 1
  apply Array.toList_inj.1
  simp
 have hp : (fun k => (fs'.map fun f => (f.offset, ((tt f.type).map (·.size)).getD 0))[k]?) = J3 tt fs := by
  funext k
  unfold J3
  rw [← r2, Array.getElem?_map, Array.getElem?_map]
  cases hk : fs'[k]? with
  | none => rfl
  | some fd =>
   have hm : fd ∈ fs'.toList := Array.mem_toList_iff.2 (Array.mem_of_getElem? hk)
   obtain ⟨i', hi'⟩ := Option.isSome_iff_exists.1 (hall' fd hm)
   simp [fld, hi']
 simp only [Instr.build, Sem.run_bind, hz, Result.andThen_ok, r1, hm, hp, h4, Sem.run_pure]
theorem GF (T : By P tt) {t n e : Nat} {i i' : TI} (ht : tt t = some i) (hd : i.desc = .array n e) (he : tt e = some i') {ps : Array (Nat × Value)} {qs : List (Nat × V)} {cs : List C}
  (R : Rel w G H) (hq : IN w G H qs ps.toList) (hf : C0 (fun k => some (k * i'.size, i'.size)) i.zero.cs qs = some cs) : Aj P (Instr.build t ps) w G H (.agg cs) H := by
 obtain ⟨z, hz, h1, h2, h3⟩ := T.run_zero ht
 obtain ⟨arr', h4, h5, _⟩ := D8 (arr := z.cells) hq (BD h2) hf
 refine Aj.still R (v := .agg arr') ?_ (.agg _ _ h5)
 simp only [Instr.build, Sem.run_bind, hz, Result.andThen_ok, T.run_at ht hd rfl, T.run_sizeOf he, h4, Sem.run_pure]
theorem D9 {S : Nat → Nat → Prop} {b o n sz cap : Nat} {ds : List D} {f : Nat → Value} (hn : n ≤ cap) (hl : n ≤ lim) (hlen : n * sz ≤ ds.length)
  (hcell : ∀ k, k < n * sz → S b (o + k) ∧ w.cell? ⟨b, o + k, none⟩ = some (f k)) (hrel : ∀ (k : Nat) (x : D), ds[k]? = some x → Br w S x (f k)) :
  Br w S (.sl (BC sz n ds)) (.slice (some ⟨b, o, none⟩) n cap) := by
 have hL := BW sz n ds
 have key := Br.sl (w := w) (S := S) (BC sz n ds) b o cap sz (fun i j => f (i * sz + j)) (by omega) (by omega) (fun i r hr => ?_) (fun i j hi hj => ?_) (fun i j r x hr hx => ?_)
 ·rw [hL] at key; exact key
 ·have hi : i < n := by rw [← hL]; exact (List.getElem?_eq_some_iff.1 hr).1
  rw [Dq sz n ds i hi] at hr
  cases hr
  have : (i + 1) * sz ≤ n * sz := Nat.mul_le_mul_right sz hi
  rw [Nat.succ_mul] at this
  simp; omega
 ·have hi' : i < n := by omega
  have : (i + 1) * sz ≤ n * sz := Nat.mul_le_mul_right sz hi'
  rw [Nat.succ_mul] at this
  have := hcell (i * sz + j) (by omega)
  rwa [← Nat.add_assoc] at this
 ·have hi : i < n := by rw [← hL]; exact (List.getElem?_eq_some_iff.1 hr).1
  rw [Dq sz n ds i hi] at hr
  cases hr
  rw [List.getElem?_take] at hx
  split at hx
  ·rw [List.getElem?_drop] at hx; exact hrel _ x hx
  ·cases hx
theorem J5 {t : TypeId} {n sz : Nat} {cs : List C} {ds : List D} {arr : Array Value} (R : Rel w G H) (hc : An w G H cs arr.toList) (hd : DY cs = some ds) (hsz : n * sz ≤ cs.length) (hl : n ≤ lim) :
  Aj P (do pure (.slice (some (← newRow t arr)) n n)) w G H (.c (.full (BC sz n ds))) H := by
 have L := Am.alloc_data R (.cells arr t) arr.size
 have hl1 := hc.1
 have hl2 := (Hd hd).1
 simp at hl1
 refine ⟨.slice (some ⟨w.heap.size, 0, none⟩) n n, w.alloc (.cells arr t), G.lay w.heap.size arr.size, ?_, ?_, R.alloc_data arr t, L⟩
 ·simp [newRow]
 ·refine .c _ _ (.full _ _ n (by rw [BW]) ?_)
  refine D9 (f := fun k => arr[k]?.getD undef) (Nat.le_refl _) hl (by omega) (fun k hk => ⟨.inr ⟨rfl, by omega⟩, ?_⟩) (fun k x hx => ?_)
  ·have hk' : k < arr.size := by omega
   simp [hk']
  ·have hk : k < cs.length := by rw [hl2]; exact (List.getElem?_eq_some_iff.1 hx).1
   obtain ⟨y, hy, hyd⟩ := (Hd hd).2 k cs[k] (by simp [hk])
   rw [hx] at hy; cases hy
   have hk' : k < arr.size := by omega
   have := hc.2 k cs[k] arr[k] (by simp [hk]) (by simp [hk'])
   simp [hk']
   exact (JM hyd this.1).mono L.S
theorem Hi (T : By P tt) {t n e : Nat} {i i' : TI} (ht : tt t = some i) (hd : i.desc = .slice e) (he : tt e = some i') {ps : Array (Nat × Value)} {qs : List (Nat × V)} {cs : List C} {ds : List D}
  (R : Rel w G H) (hq : IN w G H qs ps.toList) (hf : C0 (fun k => some (k * i'.size, i'.size)) (zc i'.zero.cs n) qs = some cs) (hds : DY cs = some ds) (hlim : n * i'.size ≤ 2 ^ 24) (hl : n ≤ lim) :
  Aj P (Instr.buildSlice t n ps) w G H (.c (.full (BC i'.size n ds))) H := by
 obtain ⟨z, hz, h1, h2, h3⟩ := T.run_zero he
 have hz2 := (BD (w := w) (G := G) (H := H) h2)
 have hzs : z.cells.size = i'.size := by have := hz2.1; simp at this; omega
 have hcl : cs.length = n * i'.size := by
  have hzl : (zc i'.zero.cs n).length = n * i'.size := by rw [CI, h3]
  clear hds
  have : ∀ (qs : List (Nat × V)) (c c' : List C), C0 (fun k => some (k * i'.size, i'.size)) c qs = some c' → c'.length = c.length := by
   intro qs
   induction qs with
   | nil => intro c c' h; simp [C0] at h; rw [h]
   | cons q qs ih =>
    intro c c' h
    obtain ⟨k, v⟩ := q
    simp only [C0] at h
    split at h
    ·rw [ih _ _ h, As]
    ·cases h
  rw [this _ _ _ hf, hzl]
 by_cases h0 : n * i'.size = 0
 ·have hc0 : An w G H (zc i'.zero.cs n) (#[] : Array Value).toList := by
   have : zc i'.zero.cs n = [] := List.eq_nil_of_length_eq_zero (by rw [CI, h3]; exact h0)
   rw [this]; exact An.nil
  obtain ⟨arr', h4, h5, _⟩ := D8 hq hc0 hf
  obtain ⟨v, w', G', h6, h7⟩ := J5 (P := P) (t := e) (n := n) (sz := i'.size) R h5 hds (by omega) hl
  refine ⟨v, w', G', ?_, h7⟩
  have e0 : (Array.range (n * i'.size)).map (fun i => (#[] : Array Value)[i % (#[] : Array Value).size]!) = #[] := by rw [h0]; simp
  simp only [Instr.buildSlice, Sem.run_bind, T.run_at ht hd rfl, Result.andThen_ok, T.run_sizeOf he, gt_iff_lt, Nat.not_lt.2 hlim, if_false, h0, if_true, Sem.run_pure, Sem.run_ite]
  rw [h0] at e0
  simp only [e0, h4]
  simpa using h6
 ·have hc0 : An w G H (zc i'.zero.cs n) ((Array.range (n * i'.size)).map (fun i => z.cells[i % z.cells.size]!)).toList := by
   rw [← hzs, BE]
   clear hf hds hcl h0 hlim hl
   induction n with
   | zero => exact An.nil
   | succ n ih => rw [E4, E4]; exact hz2.append ih
  obtain ⟨arr', h4, h5, _⟩ := D8 hq hc0 hf
  obtain ⟨v, w', G', h6, h7⟩ := J5 (P := P) (t := e) (n := n) (sz := i'.size) R h5 hds (by omega) hl
  refine ⟨v, w', G', ?_, h7⟩
  simp only [Instr.buildSlice, Sem.run_bind, T.run_at ht hd rfl, Result.andThen_ok, T.run_sizeOf he, gt_iff_lt, Nat.not_lt.2 hlim, if_false, h0, Sem.run_ite, hz, Sem.run_pure, h4]
  simpa using h6
end
end Go.Abs
namespace Go.Abs
open Go
def wr : IntKind → Int → Int
 | .i64, n => if -9223372036854775808 ≤ n ∧ n ≤ 9223372036854775807 then n else IntKind.i64.wrap n
 | k, n => k.wrap n
theorem J6 (n : Int) (h : -9223372036854775808 ≤ n ∧ n ≤ 9223372036854775807) : IntKind.i64.wrap n = n := by
 simp only [IntKind.wrap, IntKind.bits, IntKind.signed]; simp; split <;> omega
theorem J7 (k : IntKind) (n : Int) : wr k n = k.wrap n := by
 cases k <;> simp only [wr]
 split
 ·rename_i h; exact (J6 n h).symm
 ·rfl
theorem Cl (n : Int) (h1 : -9223372036854775808 ≤ n) (h2 : n ≤ 9223372036854775807) : wr .i64 n = n := by simp [wr, h1, h2]
section
variable {P : Program} {tt : Nat → Option TI} {w : World} {G : Gh} {H : List AB}
theorem J8 {cs : List C} {vs : List Value} (h : An w G H cs vs) : ∀ n, An w G H (zc cs n) (zc vs n)
 | 0 => An.nil
 | n + 1 => by rw [E4, E4]; exact h.append (J8 h n)
theorem Ia (T : By P tt) {t e : Nat} {i i' : TI} (ht : tt t = some i) (hd : i.desc = .slice e) (he : tt e = some i') {k k' : IntKind} {n c : Int} (h0 : 0 ≤ n) (h1 : n ≤ c) (h2 : (i'.bytes : Int) * c ≤ 140737488355328) (h3 : c ≤ lim)
  {a b : Value} (R : Rel w G H) (ha : Ag w G H (.c (.d (.int k n))) a) (hb : Ag w G H (.c (.d (.int k' c))) b) :
  Aj P (Instr.makeSlice t a b) w G H (.c (.ms H.length 0 n.toNat c.toNat)) (H ++ [.cells (zc i'.zero.cs c.toNat)]) := by
 obtain rfl := Bz ha
 obtain rfl := Bz hb
 obtain ⟨z, hz, hz1, hz2, hz3⟩ := T.run_zero he
 obtain ⟨inf, hi1, hi2⟩ := T.run_bytes he w
 have hzr := BD (w := w) (G := G) (H := H) hz2
 have hzs : z.cells.size = i'.size := by have := hzr.1; simp at this; omega
 have lim' : (lim : Int) = 140737488355328 := rfl
 have wn : IntKind.i64.wrap n = n := J6 n (by omega)
 have wc : IntKind.i64.wrap c = c := J6 c (by omega)
 have key : ∀ arr : Array Value, An w G H (zc i'.zero.cs c.toNat) arr.toList → Aj P (do pure (.slice (some (← newRow e arr)) n.toNat c.toNat)) w G H (.c (.ms H.length 0 n.toNat c.toNat)) (H ++ [.cells (zc i'.zero.cs c.toNat)]) := fun arr hc => by
  refine ⟨.slice (some ⟨w.heap.size, 0, none⟩) n.toNat c.toNat, w.alloc (.cells arr e), G.own H.length w.heap.size, by simp [newRow], ?_, R.alloc_cells e hc, Am.alloc_own R _ _⟩
  have := Ap.ms (w := w.alloc (.cells arr e)) (G := G.own H.length w.heap.size) (H := H ++ [.cells (zc i'.zero.cs c.toNat)]) H.length 0 n.toNat c.toNat (by simp)
  simp only [Gh.own, Ao] at this
  exact .c _ _ this
 have t1 : (decide (n < 0) || decide ((i'.bytes : Int) * n > 2 ^ 48)) = false := by
  have : (i'.bytes : Int) * n ≤ (i'.bytes : Int) * c := Int.mul_le_mul_of_nonneg_left h1 (by omega)
  simp; omega
 have t2 : (decide (c < 0) || decide ((i'.bytes : Int) * c > 2 ^ 48)) = false := by simp; omega
 have t3 : (decide (n < 0) || decide (n > c)) = false := by simp; omega
 by_cases hn : c.toNat * i'.size = 0
 ·obtain ⟨v, w', G', e1, e2⟩ := key #[] (by
   have : zc i'.zero.cs c.toNat = [] := List.eq_nil_of_length_eq_zero (by rw [CI, hz3]; exact hn)
   rw [this]; exact An.nil)
  refine ⟨v, w', G', ?_, e2⟩
  simp only [Instr.makeSlice, Sem.run_bind, T.run_at ht hd rfl, Result.andThen_ok, asInt, asIntOf, Sem.run_pure, hi1, hi2, wn, wc, t2, t3, Bool.false_or, Bool.false_eq_true, if_false, run_askRoom, T.run_sizeOf he, hn, if_true, Sem.run_ite]
  simpa [Array.range_zero'] using e1
 ·obtain ⟨v, w', G', e1, e2⟩ := key ((Array.range (c.toNat * i'.size)).map (fun j => z.cells[j % z.cells.size]!)) (by
   rw [← hzs, BE]; exact J8 hzr _)
  refine ⟨v, w', G', ?_, e2⟩
  simp only [Instr.makeSlice, Sem.run_bind, T.run_at ht hd rfl, Result.andThen_ok, asInt, asIntOf, Sem.run_pure, hi1, hi2, wn, wc, t2, t3, Bool.false_or, Bool.false_eq_true, if_false, run_askRoom, T.run_sizeOf he, hn, Sem.run_ite, hz]
  simpa using e1
theorem Bs {fl : Bool} {len cap : Nat} {lo hi mx : Option Value} {l h m : Nat} (hm : match mx with | some v => ∃ k, v = .int k m ∧ m ≤ cap | none => m = cap)
  (hh : match hi, mx with | some v, _ => (∃ k, v = .int k h) ∧ h ≤ m | none, none => h = len | none, some _ => False)
  (hl : match lo with | some v => (∃ k, v = .int k l) ∧ l ≤ h | none => l = 0) : (Instr.sliceBounds fl len cap lo hi mx).run P w = .ok (l, h, m) w := by
 have sb : ∀ (k : IntKind) (x y : Nat) (c : BoundsCode), x ≤ y → (Instr.sliceBound (.int k x) y c).run P w = .ok x w := fun k x y c h => by
  have : (0 : Int) ≤ x ∧ (x : Int) ≤ y := by omega
  simp [Instr.sliceBound, asIntOf, this]
 unfold Instr.sliceBounds
 cases mx with
 | none =>
  simp only at hm
  subst hm
  cases hi with
  | none =>
   simp only at hh
   subst hh
   cases lo with
   | none => simp only at hl; subst hl; simp
   | some v => obtain ⟨⟨k, rfl⟩, h2⟩ := hl; simp [sb k l h _ h2]
  | some u =>
   obtain ⟨⟨k', rfl⟩, h1⟩ := hh
   cases lo with
   | none => simp only at hl; subst hl; simp [sb k' h m _ h1]
   | some v => obtain ⟨⟨k, rfl⟩, h2⟩ := hl; simp [sb k l h _ h2, sb k' h m _ h1]
 | some x =>
  obtain ⟨k0, rfl, h0⟩ := hm
  cases hi with
  | none => exact hh.elim
  | some u =>
   obtain ⟨⟨k', rfl⟩, h1⟩ := hh
   cases lo with
   | none => simp only at hl; subst hl; simp [sb k' h m _ h1, sb k0 m cap _ h0]
   | some v => obtain ⟨⟨k, rfl⟩, h2⟩ := hl; simp [sb k l h _ h2, sb k' h m _ h1, sb k0 m cap _ h0]
theorem Va {S : Nat → Nat → Prop} {rows : List (List D)} {b o sz : Nat} {f : Nat → Nat → Value} (hlim : rows.length ≤ lim)
  (hsz : ∀ (i : Nat) (r : List D), rows[i]? = some r → r.length = sz) (hcell : ∀ i j, i < rows.length → j < sz → S b (o + i * sz + j) ∧ w.cell? ⟨b, o + i * sz + j, none⟩ = some (f i j))
  (hrel : ∀ (i j : Nat) (r : List D) (x : D), rows[i]? = some r → r[j]? = some x → Br w S x (f i j)) {l h : Nat} (hh : h ≤ rows.length) (hl : l ≤ h) {cap' : Nat} (hc : h - l ≤ cap') :
  Br w S (.sl ((rows.take h).drop l)) (.slice (some ⟨b, o + l * sz, none⟩) (h - l) cap') := by
 have hL : ((rows.take h).drop l).length = h - l := by simp; omega
 have get : ∀ i r, ((rows.take h).drop l)[i]? = some r → rows[l + i]? = some r := fun i r hr => by
  rw [List.getElem?_drop, List.getElem?_take] at hr
  split at hr
  ·exact hr
  ·cases hr
 have key := Br.sl (w := w) (S := S) ((rows.take h).drop l) b (o + l * sz) cap' sz (fun i j => f (l + i) j) (by omega) (by omega) (fun i r hr => hsz (l + i) r (get i r hr)) (fun i j hi hj => by
  have := hcell (l + i) j (by omega) hj
  have e : o + l * sz + i * sz + j = o + (l + i) * sz + j := by rw [Nat.add_mul]; omega
  rw [e]; exact this) (fun i j r x hr hx => hrel (l + i) j r x (get i r hr) hx)
 rw [hL] at key; exact key
theorem Hj (T : By P tt) {t e : Nat} {i i' : TI} (ht : tt t = some i) (hd : i.desc = .slice e) (he : tt e = some i') {x : C} {rows : List (List D)} (hx : CW x = some rows)
  (hrow : ∀ r ∈ rows, r.length = i'.size) {l h : Nat} (hh : h ≤ rows.length) (hl : l ≤ h) {a : Value} {lo hi mx : Option Value} (R : Rel w G H) (ha : Ag w G H (.c x) a)
  (e1 : match lo with | some v => ∃ k, v = .int k l | none => l = 0) (e2 : match hi with | some v => ∃ k, v = .int k h | none => h = rows.length)
  (e3 : match mx with | some v => (∃ k, v = .int k h) ∧ hi.isSome = true | none => True) :
  Aj P (Instr.sliceAt t a lo hi mx) w G H (.c (if mx.isSome then .full ((rows.take h).drop l) else .d (.sl ((rows.take h).drop l)))) H := by
 cases ha with
 | c _ _ ha =>
  obtain ⟨ad, cap, rfl, hD⟩ := Dp hx ha
  have hcap : rows.length ≤ cap ∨ rows = [] := by
   cases hD with
   | emp => exact .inr rfl
   | sl _ _ _ _ _ _ hc => exact .inl hc
  have hcap' : rows.length ≤ cap := by
   rcases hcap with h | h
   ·exact h
   ·subst h; simp
  obtain ⟨m, hm, hb⟩ : ∃ m, (mx.isSome = true → m = h) ∧ (Instr.sliceBounds true rows.length cap lo hi mx).run P w = .ok (l, h, m) w ∧ h ≤ m := by
   cases mx with
   | none =>
    refine ⟨cap, by simp, Bs rfl ?_ ?_, by omega⟩
    ·cases hi with
     | none => exact e2
     | some v => exact ⟨e2, by omega⟩
    ·cases lo with
     | none => exact e1
     | some v => exact ⟨e1, hl⟩
   | some v =>
    obtain ⟨⟨k, rfl⟩, h3⟩ := e3
    refine ⟨h, by simp, Bs ⟨k, rfl, by omega⟩ ?_ ?_, Nat.le_refl _⟩
    ·cases hi with
     | none => simp at h3
     | some v => exact ⟨e2, Nat.le_refl _⟩
    ·cases lo with
     | none => exact e1
     | some v => exact ⟨e1, hl⟩
  obtain ⟨hb, hhm⟩ := hb
  have hlen : ((rows.take h).drop l).length = h - l := by simp; omega
  have hD' : Br w G.S (.sl ((rows.take h).drop l)) (.slice (if m = l then ad else ad.map (·.add (l * i'.size))) (h - l) (m - l)) := by
   by_cases hz : h - l = 0
   ·have : (rows.take h).drop l = [] := List.eq_nil_of_length_eq_zero (by omega)
    rw [this, hz]; exact .emp _ _
   ·have hm' : ¬ m = l := by omega
    rw [if_neg hm']
    cases hD with
    | emp => simp at hh; omega
    | sl _ b o _ sz f h1 h2 h3 h4 h5 =>
     have hs : sz = i'.size := by
      have : 0 < rows.length := by omega
      rw [← h3 0 rows[0] (by simp [this])]; exact hrow _ (List.getElem_mem this)
     subst hs
     simp only [Option.map_some, Addr.add_lit]
     exact Va h2 h3 h4 h5 hh hl (by omega)
  refine Aj.still R (v := .slice (if m = l then ad else ad.map (·.add (l * i'.size))) (h - l) (m - l)) ?_ ?_
  ·simp only [Instr.sliceAt, Sem.run_bind, T.run_at ht hd rfl, Result.andThen_ok, Instr.slice, hb, T.run_sizeOf he, Sem.run_pure]
  ·cases hmx : mx.isSome with
   | true =>
    have := hm hmx
    subst this
    simp only [if_true]
    exact .c _ _ (.full _ _ (m - l) hlen.symm hD')
   | false => simp only [Bool.false_eq_true, if_false]; exact .c _ _ (.d _ _ hD')
theorem Ib (T : By P tt) {t n e : Nat} {i i' : TI} (ht : tt t = some i) (hd : i.desc = .array n e) (he : tt e = some i') {id off : Nat} {a : Value} (R : Rel w G H) (ha : Ag w G H (.c (.ptr id off)) a) :
  Aj P (Instr.sliceAt t a none none none) w G H (.c (.ms id off n n)) H := by
 obtain ⟨rfl, hid⟩ := F6 ha
 refine Aj.still R (v := .slice (some ⟨G.rho id, off, none⟩) n n) ?_ (.c _ _ (.ms _ _ _ _ hid))
 simp [Instr.sliceAt, T.run_at ht hd rfl, Instr.sureAddr, Instr.sliceBounds, T.run_sizeOf he, Addr.add_lit]
def J9 (sz id off l h m : Nat) : C := .ms id (if m = l then off else off + l * sz) (h - l) (m - l)
theorem Hk (T : By P tt) {t n e : Nat} {i i' : TI} (ht : tt t = some i) (hd : i.desc = .array n e) (he : tt e = some i') {id off : Nat} {a : Value} (R : Rel w G H) (ha : Ag w G H (.c (.ptr id off)) a) {lo hi mx : Option Value} {l h m : Nat}
  (hm : match mx with | some v => ∃ k, v = .int k m ∧ m ≤ n | none => m = n)
  (hh : match hi, mx with | some v, _ => (∃ k, v = .int k h) ∧ h ≤ m | none, none => h = n | none, some _ => False)
  (hl : match lo with | some v => (∃ k, v = .int k l) ∧ l ≤ h | none => l = 0) :
  Aj P (Instr.sliceAt t a lo hi mx) w G H (.c (J9 i'.size id off l h m)) H := by
 obtain ⟨rfl, hid⟩ := F6 ha
 have hb := Bs (P := P) (w := w) (fl := false) hm hh hl
 refine Aj.still R (v := .slice (some (if m = l then ⟨G.rho id, off, none⟩ else (⟨G.rho id, off, none⟩ : Addr).add (l * i'.size))) (h - l) (m - l)) ?_ ?_
 ·simp [Instr.sliceAt, T.run_at ht hd rfl, Instr.sureAddr, hb, T.run_sizeOf he]
 ·unfold J9
  by_cases e : m = l
  ·simp only [e, if_true]; exact .c _ _ (.ms _ _ _ _ hid)
  ·simp only [e, if_false, Addr.add_lit]; exact .c _ _ (.ms _ _ _ _ hid)
theorem Jy (T : By P tt) {t e : Nat} {i i' : TI} (ht : tt t = some i) (hd : i.desc = .slice e) (he : tt e = some i') {id off len cap : Nat} {a : Value} (R : Rel w G H) (ha : Ap w G H (.ms id off len cap) a) {lo hi mx : Option Value} {l h m : Nat}
  (hm : match mx with | some v => ∃ k, v = .int k m ∧ m ≤ cap | none => m = cap)
  (hh : match hi, mx with | some v, _ => (∃ k, v = .int k h) ∧ h ≤ m | none, none => h = len | none, some _ => False)
  (hl : match lo with | some v => (∃ k, v = .int k l) ∧ l ≤ h | none => l = 0) :
  Aj P (Instr.sliceAt t a lo hi mx) w G H (.c (J9 i'.size id off l h m)) H := by
 cases ha with
 | ms _ _ _ _ hid =>
  have hb := Bs (P := P) (w := w) (fl := true) hm hh hl
  refine Aj.still R (v := .slice (if m = l then some ⟨G.rho id, off, none⟩ else (some (⟨G.rho id, off, none⟩ : Addr)).map (·.add (l * i'.size))) (h - l) (m - l)) ?_ ?_
  ·simp only [Instr.sliceAt, Sem.run_bind, T.run_at ht hd rfl, Result.andThen_ok, Instr.slice, hb, T.run_sizeOf he, Sem.run_pure]
  ·unfold J9
   by_cases e : m = l
   ·simp only [e, if_true]; exact .c _ _ (.ms _ _ _ _ hid)
   ·simp only [e, if_false, Option.map_some, Addr.add_lit]; exact .c _ _ (.ms _ _ _ _ hid)
end
end Go.Abs
namespace Go.Abs
open Go
theorem AS {sz : Nat} : ∀ {rows : List (List D)}, (∀ r ∈ rows, r.length = sz) → rows.flatten.length = rows.length * sz
 | [], _ => by simp
 | r :: rows, h => by
  rw [List.flatten_cons, List.length_append, AS (fun x hx => h x (by simp [hx])), h r (by simp), List.length_cons, Nat.succ_mul, Nat.add_comm]
theorem IP {sz : Nat} : ∀ {rows : List (List D)}, (∀ r ∈ rows, r.length = sz) → ∀ (i j : Nat) (r : List D), rows[i]? = some r → j < sz → rows.flatten[i * sz + j]? = r[j]?
 | [], _, i, j, r, hr, _ => by simp at hr
 | q :: rows, h, 0, j, r, hr, hj => by
  simp at hr; subst hr
  rw [List.flatten_cons, Nat.zero_mul, Nat.zero_add, List.getElem?_append_left (by rw [h q (by simp)]; exact hj)]
 | q :: rows, h, i + 1, j, r, hr, hj => by
  simp at hr
  have hq := h q (by simp)
  rw [List.flatten_cons, List.getElem?_append_right (by rw [hq, Nat.succ_mul]; omega), hq]
  have : (i + 1) * sz + j - sz = i * sz + j := by rw [Nat.succ_mul]; omega
  rw [this]
  exact IP (fun x hx => h x (by simp [hx])) i j r hr hj
theorem ED {sz : Nat} : ∀ {rows : List (List D)} (ex : List D), (∀ r ∈ rows, r.length = sz) → BC sz rows.length (rows.flatten ++ ex) = rows
 | [], _, _ => rfl
 | r :: rows, ex, h => by
  have hr := h r (by simp)
  have e1 : ((r :: rows).flatten ++ ex).take sz = r := by rw [← hr]; simp
  have e2 : ((r :: rows).flatten ++ ex).drop sz = rows.flatten ++ ex := by rw [← hr]; simp
  have ih := ED (sz := sz) (rows := rows) ex (fun x hx => h x (List.mem_cons_of_mem _ hx))
  simp only [List.length_cons, BC, e1, e2, ih]
section
variable {P : Program} {tt : Nat → Option TI} {w : World} {G : Gh} {H : List AB}
theorem F7 {S : Nat → Nat → Prop} {rows : List (List D)} {a : Option Addr} {n cap sz : Nat} (h : Br w S (.sl rows) (.slice a n cap)) (hu : ∀ r ∈ rows, r.length = sz) (hz : 0 < sz) :
  n = rows.length ∧ (rows ≠ [] → rows.length ≤ lim ∧ n ≤ cap ∧ ∃ b o, a = some ⟨b, o, none⟩ ∧ ∃ f : Nat → Value, (∀ k, k < n * sz → S b (o + k) ∧ w.cell? ⟨b, o + k, none⟩ = some (f k)) ∧ ∀ (k : Nat) (x : D), rows.flatten[k]? = some x → Br w S x (f k)) := by
 cases h with
 | emp a cap => exact ⟨rfl, fun e => absurd rfl e⟩
 | sl _ b o _ s f hcap hlim hsz hcell hrel =>
  refine ⟨rfl, fun hne => ⟨hlim, hcap, b, o, rfl, fun k => f (k / sz) (k % sz), fun k hk => ?_, fun k x hx => ?_⟩⟩
  ·have hp : 0 < rows.length := by
    cases rows with
    | nil => exact absurd rfl hne
    | cons => simp
   have hs : s = sz := by rw [← hsz 0 rows[0] (by simp [hp])]; exact hu _ (List.getElem_mem hp)
   subst hs
   have h1 : k / s < rows.length := Nat.div_lt_of_lt_mul (by rw [Nat.mul_comm]; exact hk)
   have := hcell (k / s) (k % s) h1 (Nat.mod_lt _ hz)
   have e : o + k / s * s + k % s = o + k := by have := Nat.div_add_mod k s; rw [Nat.mul_comm] at this; omega
   rwa [e] at this
  ·have hk : k < rows.length * sz := by rw [← AS hu]; exact (List.getElem?_eq_some_iff.1 hx).1
   have h1 : k / sz < rows.length := Nat.div_lt_of_lt_mul (by rw [Nat.mul_comm]; exact hk)
   have e : k / sz * sz + k % sz = k := by have := Nat.div_add_mod k sz; rw [Nat.mul_comm] at this; omega
   have hr : rows[k / sz]? = some rows[k / sz] := by simp [h1]
   have := IP hu (k / sz) (k % sz) _ hr (Nat.mod_lt _ hz)
   rw [e, hx] at this
   exact hrel _ _ _ x hr this.symm
theorem Ea {rows : List (List D)} {a : Option Addr} {n cap sz : Nat} (h : Br w G.S (.sl rows) (.slice a n cap)) (hu : ∀ r ∈ rows, r.length = sz) (hz : 0 < sz) :
  ∃ vs : List Value, (∀ w' : World, w'.heap = w.heap → (Builtin.firstCells sz n (.slice a n cap)).run P w' = .ok vs.toArray w') ∧ An w G H (rows.flatten.map .d) vs ∧ vs.length = rows.length * sz := by
 obtain ⟨hn, hr⟩ := F7 h hu hz
 subst hn
 by_cases he : rows = []
 ·subst he
  refine ⟨[], fun w' _ => ?_, An.nil, by simp⟩
  cases a with
  | none => simp [Builtin.firstCells]
  | some x => simp [Builtin.firstCells, loadCells, loadCellsFrom]
 ·obtain ⟨_, _, b, o, rfl, f, h1, h2⟩ := hr he
  have hfl := AS hu
  refine ⟨(List.range (rows.length * sz)).map f, fun w' hw => ?_, ?_, by simp⟩
  ·simp only [Builtin.firstCells]
   exact run_loadCells w' ⟨b, o, none⟩ _ f (fun j hj => by
    rw [Addr.add_lit, AQ (w := w) (by rw [hw])]
    exact (h1 j hj).2)
  ·rw [← hfl]; exact Q4 h2
def Gh.adopt (G : Gh) (id : Nat) (a : Option Addr) (cap : Nat) : Gh := { G with g := upd G.g id (a, cap) }
theorem adopt {rows : List (List D)} {v : Value} (R : Rel w G H) (h : Ap w G H (.full rows) v) (sz : Nat) :
  ∃ G', Rel w G' (H ++ [.grow rows.length sz]) ∧ Am w G H w G' (H ++ [.grow rows.length sz]) ∧ Ap w G' (H ++ [.grow rows.length sz]) (.own H.length rows) v := by
 cases h with
 | full _ a n hn h =>
  subst hn
  have L : Am w G H w (G.adopt H.length a rows.length) (H ++ [.grow rows.length sz]) :=
   {size := Nat.le_refl _
    S := fun _ _ h => ⟨h, rfl⟩
    Snew := fun _ _ _ _ h => h
    len := by simp
    rho := fun _ _ => rfl
    grow := fun id n sz' hid h => ⟨n, by rwa [List.getElem?_append_left hid] at h, .inr ⟨rfl, AJ _ _ (Nat.ne_of_lt hid)⟩⟩
    vec := fun id n sz' cs hid h => ⟨n, sz', cs, by rwa [List.getElem?_append_left hid] at h, .inr ⟨rfl, AJ _ _ (Nat.ne_of_lt hid)⟩⟩
    role := fun _ _ => rfl
    frame := fun _ _ _ => rfl
    os := rfl
    out := rfl }
  refine ⟨G.adopt H.length a rows.length, ⟨R.sex, R.roleLt, fun id x hx => ?_⟩, L, ?_⟩
  ·by_cases e : id < H.length
   ·rw [List.getElem?_append_left e] at hx
    exact (R.ab id x hx).mono R L e (fun _ _ => rfl) (fun _ _ _ h => h) (AJ _ _ (Nat.ne_of_lt e))
   ·have : id = H.length := by
     have := (List.getElem?_eq_some_iff.1 hx).1
     simp at this
     omega
    subst this
    simp at hx
    rw [← hx]
    refine .grow _ _ a rows.length (Ao _ _ _) (Nat.le_refl _) (fun x _ hlt => absurd hlt (Nat.lt_irrefl _)) (fun ha => ?_)
    subst ha
    generalize hr : rows.length = k at h
    cases h with
    | emp => rfl
  ·refine .own _ _ a _ _ (by simp) rfl (h.mono L.S) (fun m sz' hm => ?_)
   simp at hm
   exact ⟨by omega, fun _ => Ao _ _ _⟩
theorem OK {id : Nat} {rows new : List (List D)} {sz b o cap : Nat} {us : List Value} (R : Rel w G H) (hid : H[id]? = some (.grow rows.length sz)) (hz : 0 < sz)
  (hu : ∀ r ∈ rows, r.length = sz) (hu' : ∀ r ∈ new, r.length = sz) (hg : G.g id = (some ⟨b, o, none⟩, cap)) (h : Br w G.S (.sl rows) (.slice (some ⟨b, o, none⟩) rows.length cap))
  (hc : rows.length + new.length ≤ cap) (hn : 0 < new.length) (hus : An w G H (new.flatten.map .d) us) (hl : rows.length + new.length ≤ lim) :
  ∃ w' G', (storeCells ⟨b, o + rows.length * sz, none⟩ us).run P w = .ok () w' ∧ Rel w' G' (H.set id (.grow (rows.length + new.length) sz)) ∧ Am w G H w' G' (H.set id (.grow (rows.length + new.length) sz)) ∧
   Ap w' G' (H.set id (.grow (rows.length + new.length) sz)) (.own id (rows ++ new)) (.slice (some ⟨b, o, none⟩) (rows.length + new.length) cap) := by
 have hidlt : id < H.length := (List.getElem?_eq_some_iff.1 hid).1
 have hul : us.length = new.length * sz := by have := hus.1; rw [List.length_map, AS hu'] at this; omega
 obtain ⟨arr, t, hb, hsz, hrole, hfree⟩ : ∃ arr t, w.heap[b]? = some (.cells arr t (0, 0)) ∧ o + cap * sz ≤ arr.size ∧ G.role b = some id ∧ ∀ j, o + rows.length * sz ≤ j → ¬ G.S b j := by
  cases R.ab id _ hid with
  | grow _ _ a cap' hg' hcap' hsp _ =>
   rw [hg] at hg'
   cases hg'
   obtain ⟨b', o', e, h1, ⟨arr, t, h2, h3⟩, h4⟩ := hsp _ rfl (by omega)
   cases e
   exact ⟨arr, t, h2, h3, h1, h4⟩
 have hmul : (rows.length + new.length) * sz ≤ cap * sz := Nat.mul_le_mul_right sz hc
 rw [Nat.add_mul] at hmul
 have hrun := BK P (b := b) (off := o + rows.length * sz) (t := t) us 0 w arr hb (by omega) hus.ones
 simp only [Nat.add_zero] at hrun
 let arr' : Array Value := (setMany arr.toList (o + rows.length * sz) us).toArray
 let G' : Gh := { G with S := fun b' j => G.S b' j ∨ (b' = b ∧ o + rows.length * sz ≤ j ∧ j < o + rows.length * sz + new.length * sz) }
 have hget : ∀ j, arr'[j]? = if o + rows.length * sz ≤ j ∧ j < o + rows.length * sz + us.length then us[j - (o + rows.length * sz)]? else arr[j]? := fun j => by
  have := FE us arr.toList (o + rows.length * sz) j (by simp; omega)
  simpa [arr'] using this
 have hsame : (w.putObj b (.cells arr' t (0, 0))).heap[b]? = some (.cells arr' t (0, 0)) := DH hb
 have hcellb : ∀ j, (w.putObj b (.cells arr' t (0, 0))).cell? ⟨b, j, none⟩ = arr'[j]? := fun j => cell_of_row _ b j arr' t (0, 0) hsame
 have hcell0 : ∀ j, w.cell? ⟨b, j, none⟩ = arr[j]? := fun j => cell_of_row w b j arr t (0, 0) hb
 have L : Am w G H (w.putObj b (.cells arr' t (0, 0))) G' (H.set id (.grow (rows.length + new.length) sz)) :=
  {size := by simp
   S := fun b' j hS => ⟨.inl hS, by
    by_cases e : b' = b
    ·subst e
     rw [hcellb, hcell0, hget, if_neg]
     intro hh
     exact hfree j hh.1 hS
    ·exact AQ (Do e) j⟩
   Snew := fun b' j _ hr hS => by
    rcases hS with hS | ⟨rfl, _⟩
    ·exact hS
    ·rw [hrole] at hr; cases hr
   len := by simp
   rho := fun _ _ => rfl
   grow := fun id' n sz' hid' hh => by
    by_cases e : id = id'
    ·subst e
     simp [hidlt] at hh
     exact ⟨rows.length, by rw [hid, hh.2], .inl (by omega)⟩
    ·rw [List.getElem?_set_ne e] at hh
     exact ⟨n, hh, .inr ⟨rfl, rfl⟩⟩
   vec := fun id' n sz' cs hid' hh => by
    by_cases e : id = id'
    ·subst e
     simp [hidlt] at hh
    ·rw [List.getElem?_set_ne e] at hh
     exact ⟨n, sz', cs, hh, .inr ⟨rfl, rfl⟩⟩
   role := fun _ _ => rfl
   frame := fun b' _ hr => Do (fun e => by rw [e, hrole] at hr; cases hr)
   os := rfl
   out := rfl }
 have hrest : ∀ j, o + rows.length * sz + new.length * sz ≤ j → ¬ G'.S b j := fun j hj hS => by
  rcases hS with hS | ⟨_, _, h2⟩
  ·exact hfree j (by omega) hS
  ·omega
 refine ⟨_, G', hrun, ⟨fun b' j hS => ?_, fun b' i hr => by simpa using R.roleLt b' i hr, fun i x hx => ?_⟩, L, ?_⟩
 ·rcases hS with hS | ⟨rfl, h1, h2⟩
  ·obtain ⟨v, hv⟩ := R.sex b' j hS
   exact ⟨v, ((L.S b' j hS).2).trans hv⟩
  ·have hj : j < arr'.size := by simp [arr', As]; omega
   exact ⟨arr'[j], by rw [hcellb]; simp [hj]⟩
 ·by_cases e : id = i
  ·subst e
   simp [hidlt] at hx
   rw [← hx]
   refine .grow _ _ (some ⟨b, o, none⟩) cap hg hc (fun x hx hlt => ?_) (fun e => by cases e)
   cases hx
   refine ⟨b, o, rfl, hrole, ⟨arr', t, hsame, by simp [arr', As]; omega⟩, fun j hj => hrest j (by rw [Nat.add_mul] at hj; omega)⟩
  ·rw [List.getElem?_set_ne e] at hx
   refine (R.ab i x hx).mono R L (List.getElem?_eq_some_iff.1 hx).1 (fun b' hb' => Do (fun e' => by rw [e', hrole] at hb'; exact e (Option.some.inj hb'))) (fun b' j hb' hS => ?_) rfl
   rcases hS with hS | ⟨rfl, _⟩
   ·exact hS
   ·rw [hrole] at hb'; exact absurd (Option.some.inj hb') e
 ·refine .own id (rows ++ new) _ _ cap (by simpa using hidlt) (by simp) ?_ (fun m sz' hm => ?_)
  ·have hu2 : ∀ r ∈ rows ++ new, r.length = sz := fun r hr => by
    rcases List.mem_append.1 hr with hr | hr
    ·exact hu r hr
    ·exact hu' r hr
   have hch := ED (sz := sz) (rows := rows ++ new) [] hu2
   rw [List.append_nil, List.length_append] at hch
   rw [← hch]
   have hfl := AS hu2
   rw [List.length_append] at hfl
   refine D9 (f := fun k => (arr'[o + k]?).getD undef) hc hl (by omega) (fun k hk => ?_) (fun k x hx => ?_)
   ·have hk2 : o + k < arr'.size := by rw [Nat.add_mul] at hk; simp [arr', As]; omega
    refine ⟨?_, by rw [hcellb]; simp [hk2]⟩
    by_cases hlt : k < rows.length * sz
    ·have hne : rows ≠ [] := by intro e; subst e; simp at hlt
     obtain ⟨_, _, b', o', e, f, h1, _⟩ := (F7 h hu hz).2 hne
     cases e
     exact .inl (h1 k hlt).1
    ·exact .inr ⟨rfl, by omega, by rw [Nat.add_mul] at hk; omega⟩
   ·have hk : k < (rows.length + new.length) * sz := by rw [← hfl]; exact (List.getElem?_eq_some_iff.1 hx).1
    rw [Nat.add_mul] at hk
    rw [List.flatten_append] at hx
    have hf1 := AS hu
    rw [hget]
    by_cases hlt : k < rows.length * sz
    ·have hne : rows ≠ [] := by intro e; subst e; simp at hlt
     obtain ⟨_, _, b', o', e, f, h1, h2⟩ := (F7 h hu hz).2 hne
     cases e
     rw [List.getElem?_append_left (by omega)] at hx
     have hc0 := (h1 k hlt).2
     rw [hcell0] at hc0
     rw [if_neg (by omega), hc0]
     exact (h2 k x hx).mono L.S
    ·rw [List.getElem?_append_right (by omega), hf1] at hx
     rw [if_pos (by omega)]
     have e : o + k - (o + rows.length * sz) = k - rows.length * sz := by omega
     rw [e]
     have hlu : k - rows.length * sz < us.length := by omega
     have := hus.2 (k - rows.length * sz) (.d x) us[k - rows.length * sz] (by rw [List.getElem?_map, hx]; rfl) (by simp [hlu])
     simp [hlu]
     cases this.1 with
     | d _ _ hd => exact hd.mono L.S
  ·simp [hidlt] at hm
   exact ⟨by simp; omega, fun _ => hg⟩
theorem TK {id : Nat} {rows new : List (List D)} {sz cap : Nat} {t : TypeId} {vs us ex : List Value} (R : Rel w G H) (hid : H[id]? = some (.grow rows.length sz)) (hz : 0 < sz)
  (hu : ∀ r ∈ rows, r.length = sz) (hu' : ∀ r ∈ new, r.length = sz) (hc : rows.length + new.length ≤ cap) (hn : 0 < new.length)
  (hvs : An w G H (rows.flatten.map .d) vs) (hus : An w G H (new.flatten.map .d) us) (hex : ex.length = (cap - (rows.length + new.length)) * sz) (hl : rows.length + new.length ≤ lim) {arr : Array Value} (harr : arr.toList = vs ++ us ++ ex) :
  ∃ G', Rel (w.alloc (.cells arr t)) G' (H.set id (.grow (rows.length + new.length) sz)) ∧ Am w G H (w.alloc (.cells arr t)) G' (H.set id (.grow (rows.length + new.length) sz)) ∧
   Ap (w.alloc (.cells arr t)) G' (H.set id (.grow (rows.length + new.length) sz)) (.own id (rows ++ new)) (.slice (some ⟨w.heap.size, 0, none⟩) (rows.length + new.length) cap) := by
 have hidlt : id < H.length := (List.getElem?_eq_some_iff.1 hid).1
 have hvl : vs.length = rows.length * sz := by have := hvs.1; rw [List.length_map, AS hu] at this; omega
 have hul : us.length = new.length * sz := by have := hus.1; rw [List.length_map, AS hu'] at this; omega
 have hmul : cap * sz = rows.length * sz + new.length * sz + (cap - (rows.length + new.length)) * sz := by
  rw [← Nat.add_mul, ← Nat.add_mul]; congr 1; omega
 have hal : arr.size = cap * sz := by
  have := congrArg List.length harr
  simp at this; omega
 let b := w.heap.size
 let G' : Gh := { S := fun b' j => G.S b' j ∨ (b' = b ∧ j < (rows.length + new.length) * sz), rho := G.rho, g := upd G.g id (some ⟨b, 0, none⟩, cap), role := upd G.role b (some id) }
 have hnew : (w.alloc (.cells arr t)).heap[b]? = some (.cells arr t (0, 0)) := Bx w _
 have hcellb : ∀ j, (w.alloc (.cells arr t)).cell? ⟨b, j, none⟩ = arr[j]? := fun j => cell_of_row _ b j arr t (0, 0) hnew
 have L : Am w G H (w.alloc (.cells arr t)) G' (H.set id (.grow (rows.length + new.length) sz)) :=
  {size := by simp
   S := fun b' j hS => ⟨.inl hS, by
    obtain ⟨v, hv⟩ := R.sex b' j hS
    exact AQ (AU w _ (World.block_lt_of_cell? w _ hv)) j⟩
   Snew := fun b' j hb' _ hS => by
    rcases hS with hS | ⟨rfl, _⟩
    ·exact hS
    ·exact absurd hb' (Nat.lt_irrefl _)
   len := by simp
   rho := fun _ _ => rfl
   grow := fun id' n sz' hid' hh => by
    by_cases e : id = id'
    ·subst e
     simp [hidlt] at hh
     exact ⟨rows.length, by rw [hid, hh.2], .inl (by omega)⟩
    ·rw [List.getElem?_set_ne e] at hh
     exact ⟨n, hh, .inr ⟨rfl, AJ _ _ (Ne.symm e)⟩⟩
   vec := fun id' n sz' cs hid' hh => by
    by_cases e : id = id'
    ·subst e
     simp [hidlt] at hh
    ·rw [List.getElem?_set_ne e] at hh
     exact ⟨n, sz', cs, hh, .inr ⟨rfl, AJ _ _ (Ne.symm e)⟩⟩
   role := fun b' hb' => AJ _ _ (Nat.ne_of_lt hb')
   frame := fun b' hb' _ => AU w _ hb'
   os := rfl
   out := rfl }
 refine ⟨G', ⟨fun b' j hS => ?_, fun b' i hr => ?_, fun i x hx => ?_⟩, L, ?_⟩
 ·rcases hS with hS | ⟨rfl, h1⟩
  ·obtain ⟨v, hv⟩ := R.sex b' j hS
   exact ⟨v, ((L.S b' j hS).2).trans hv⟩
  ·have hj : j < arr.size := by rw [Nat.add_mul] at h1; omega
   exact ⟨arr[j], by rw [hcellb]; simp [hj]⟩
 ·simp only [World.size_alloc]
  by_cases e : b' = b
  ·rw [e]; exact Nat.lt_succ_self _
  ·have := R.roleLt b' i (by simpa [G', AJ _ _ e] using hr)
   omega
 ·by_cases e : id = i
  ·subst e
   simp [hidlt] at hx
   rw [← hx]
   refine .grow _ _ (some ⟨b, 0, none⟩) cap (Ao _ _ _) hc (fun x hx hlt => ?_) (fun e => by cases e)
   cases hx
   refine ⟨b, 0, rfl, Ao _ _ _, ⟨arr, t, hnew, by omega⟩, fun j hj hS => ?_⟩
   rcases hS with hS | ⟨_, h1⟩
   ·exact R.noS_new j hS
   ·omega
  ·rw [List.getElem?_set_ne e] at hx
   refine (R.ab i x hx).mono R L (List.getElem?_eq_some_iff.1 hx).1 (fun b' hb' => AU w _ (R.roleLt b' i hb')) (fun b' j hb' hS => ?_) (AJ _ _ (Ne.symm e))
   rcases hS with hS | ⟨rfl, _⟩
   ·exact hS
   ·have := R.roleLt _ _ hb'; exact absurd this (Nat.lt_irrefl _)
 ·refine .own id (rows ++ new) _ _ cap (by simpa using hidlt) (by simp) ?_ (fun m sz' hm => ?_)
  ·have hu2 : ∀ r ∈ rows ++ new, r.length = sz := fun r hr => by
    rcases List.mem_append.1 hr with hr | hr
    ·exact hu r hr
    ·exact hu' r hr
   have hch := ED (sz := sz) (rows := rows ++ new) [] hu2
   rw [List.append_nil, List.length_append] at hch
   rw [← hch]
   have hfl := AS hu2
   rw [List.length_append] at hfl
   have hall := hvs.append hus
   rw [← List.map_append, ← List.flatten_append] at hall
   refine D9 (f := fun k => (arr[0 + k]?).getD undef) hc hl (by omega) (fun k hk => ?_) (fun k x hx => ?_)
   ·have hk2 : 0 + k < arr.size := by rw [Nat.add_mul] at hk; omega
    exact ⟨.inr ⟨rfl, by omega⟩, by rw [hcellb]; simp only [hk2, getElem?_pos, Option.getD_some]⟩
   ·have hk : k < (rows.length + new.length) * sz := by rw [← hfl]; exact (List.getElem?_eq_some_iff.1 hx).1
    rw [Nat.add_mul] at hk
    have hk2 : k < (vs ++ us).length := by simp; omega
    have := hall.2 k (.d x) (vs ++ us)[k] (by rw [List.getElem?_map, hx]; rfl) (by simp)
    have e : arr[0 + k]? = some (vs ++ us)[k] := by
     rw [Nat.zero_add, ← Array.getElem?_toList, harr, List.getElem?_append_left hk2]; simp
    rw [e, Option.getD_some]
    cases this.1 with
    | d _ _ hd => exact hd.mono L.S
  ·simp [hidlt] at hm
   exact ⟨by simp; omega, fun _ => Ao _ _ _⟩
theorem Mw (newLen : Nat) : ∀ (r c : Nat), c ≤ newLen → Builtin.growBy newLen r c ≤ newLen + newLen / 4 + 256
 | 0, c, h => by simp [Builtin.growBy]; omega
 | r + 1, c, h => by
  simp only [Builtin.growBy]
  split
  ·omega
  ·by_cases h2 : c + (c + 768) / 4 ≤ newLen
   ·exact Mw newLen r _ h2
   ·cases r with
    | zero => simp only [Builtin.growBy]; omega
    | succ r => simp only [Builtin.growBy]; rw [if_pos (by omega)]; omega
theorem Fv {need cap : Nat} (h : cap < need) : Builtin.nextslicecap need cap ≤ need + need / 4 + 256 := by
 unfold Builtin.nextslicecap
 split
 ·omega
 ·split
  ·omega
  ·exact Mw need 4 cap (Nat.le_of_lt h)
theorem Eb (T : By P tt) {t t2 e : Nat} {i i2 i' : TI} (ht : tt t = some i) (hd : i.desc = .slice e) (ht2 : tt t2 = some i2) (hd2 : ∃ e', i2.desc = .slice e') (he : tt e = some i') (hz : 0 < i'.size)
  {id : Nat} {rows new : List (List D)} {s : Value} {ax : Option Addr} {capx : Nat} {us : List Value} {ty : TypeId} (R : Rel w G H) (hid : H[id]? = some (.grow rows.length i'.size)) (hs : Ap w G H (.own id rows) s)
  (hus1 : ∀ w' : World, w'.heap = w.heap → (Builtin.firstCells i'.size new.length (.slice ax new.length capx)).run P w' = .ok us.toArray w') (hus2 : An w G H (new.flatten.map .d) us)
  (hu : ∀ r ∈ rows, r.length = i'.size) (hu' : ∀ r ∈ new, r.length = i'.size) (hb : (rows.length + new.length + (rows.length + new.length) / 4 + 256) * i'.bytes ≤ 281474976710656) (hl : rows.length + new.length ≤ lim) :
  Aj P (Builtin.append_ #[t, t2] ty #[s, .slice ax new.length capx]) w G H (.c (.own id (rows ++ new))) (H.set id (.grow (rows.length + new.length) i'.size)) := by
 obtain ⟨e', hd2⟩ := hd2
 have hidlt : id < H.length := (List.getElem?_eq_some_iff.1 hid).1
 cases hs with
 | own _ _ a n cap _ hn hD hg =>
  subst hn
  obtain ⟨_, hg⟩ := hg _ _ hid
  have hg := hg rfl
  obtain ⟨inf, hi1, hi2⟩ := T.run_bytes he w
  by_cases h0 : new = []
  ·subst h0
   simp only [List.flatten_nil, List.map_nil] at hus2
   have hus0 : us = [] := by have := hus2.1; simpa using this.symm
   subst hus0
   have hcap : rows.length ≤ cap := by
    cases R.ab id _ hid with
    | grow _ _ a' cap' hg' hcap' _ _ => rw [hg] at hg'; cases hg'; exact hcap'
   have hset : H.set id (.grow (rows.length + ([] : List (List D)).length) i'.size) = H := by
    simp only [List.length_nil, Nat.add_zero]
    apply List.ext_getElem?
    intro k
    by_cases e : id = k
    ·subst e; simp [hidlt]; rw [List.getElem?_eq_getElem hidlt] at hid; exact (Option.some.inj hid).symm
    ·rw [List.getElem?_set_ne e]
   rw [hset, List.append_nil]
   refine Aj.still R (v := .slice a rows.length cap) ?_ (.c _ _ (.own id rows a _ cap hidlt rfl hD (fun m sz hm => by rw [hid] at hm; cases hm; exact ⟨Nat.le_refl _, fun _ => hg⟩)))
   have := hus1 w rfl
   simp only [List.length_nil] at this
   cases a <;> simp [Builtin.append_, T.run_at ht hd rfl, T.run_sizeOf he, T.run_at ht2 hd2 rfl, Builtin.lenOf, hcap, this, storeCells]
  ·have hnl : 0 < new.length := List.length_pos_iff.2 h0
   by_cases hfit : rows.length + new.length ≤ cap
   ·obtain ⟨b, o, rfl⟩ : ∃ b o, a = some ⟨b, o, none⟩ := by
     cases R.ab id _ hid with
     | grow _ _ a' cap' hg' hcap' hsp hnil =>
      rw [hg] at hg'; cases hg'
      cases a with
      | none => have := hnil rfl; omega
      | some x => obtain ⟨b, o, e, _⟩ := hsp x rfl (by omega); exact ⟨b, o, by rw [e]⟩
    obtain ⟨w', G', h1, h2, h3, h4⟩ := OK (P := P) R hid hz hu hu' hg hD hfit hnl hus2 hl
    refine ⟨_, w', G', ?_, .c _ _ h4, h2, h3⟩
    simp [Builtin.append_, T.run_at ht hd rfl, T.run_sizeOf he, T.run_at ht2 hd2 rfl, Builtin.lenOf, hfit, hus1 w rfl, Addr.add_lit, h1]
   ·obtain ⟨vs, hvs1, hvs2, hvs3⟩ := Ea (P := P) (H := H) hD hu hz
    obtain ⟨z, hz0, _, hz2, hz3⟩ := T.run_zero he
    have hzs : z.cells.size = i'.size := by have := (BD (w := w) (G := G) (H := H) hz2).1; simp at this; omega
    have hnext : ¬ (Builtin.nextslicecap (rows.length + new.length) cap * inf.bytes > 2 ^ 48) := by
     have := Fv (need := rows.length + new.length) (cap := cap) (by omega)
     rw [hi2]
     have := Nat.mul_le_mul_right i'.bytes this
     omega
    have hint : ¬ (((rows.length + new.length : Nat) : Int) > IntKind.i64.max ∧ (false = true ∨ inf.bytes = 0)) := by
     intro h
     have h1 := h.1
     have : IntKind.i64.max = 9223372036854775807 := by decide
     rw [this] at h1
     have : (lim : Nat) = 140737488355328 := rfl
     omega
    have hint' : ¬ (((rows.length + new.length : Nat) : Int) > IntKind.i64.max ∧ (False ∨ inf.bytes = 0)) := fun h => hint ⟨h.1, by simpa using h.2⟩
    let q := Question.appendCap (rows.length + new.length) cap e
    let newCap := q.cut (w.tape w.drawn q)
    have hnc : rows.length + new.length ≤ newCap := by
     show _ ≤ (rows.length + new.length) + _
     omega
    obtain ⟨R1, L1⟩ := Rel.of_heap (w := w) (w' := w.drew) rfl R
    let arr : Array Value := vs.toArray ++ us.toArray ++ Builtin.zeroCells z.cells (newCap - (rows.length + new.length))
    have hzl : (Builtin.zeroCells z.cells (newCap - (rows.length + new.length))).toList = zc z.cells.toList (newCap - (rows.length + new.length)) := BE _ _
    obtain ⟨G', h2, h3, h4⟩ := TK (w := w.drew) (t := e) R1 hid hz hu hu' hnc hnl (hvs2.mono L1) (hus2.mono L1) (ex := zc z.cells.toList (newCap - (rows.length + new.length))) (by rw [CI]; simp [hzs]) hl (arr := arr) (by simp [arr, hzl])
    refine ⟨_, _, G', ?_, .c _ _ h4, h2, L1.trans h3⟩
    have hq : q.forced = false := rfl
    have hfit' : ¬ (rows.length + new.length ≤ cap) := hfit
    have hz0' := fun w' => hz0 w'
    have hi1' : ∀ w' : World, (typeInfo e).run P w' = .ok inf w' := fun w' => by
     have := hi1
     simp only [typeInfo, Sem.run_bind, run_program, Result.andThen_ok] at this ⊢
     cases hinf : P.info? e with
     | none => simp [hinf] at this
     | some x => simp [hinf] at this ⊢; exact this
    have hch : (choose (Question.appendCap (rows.length + new.length) cap e)).run P w = .ok newCap w.drew := by
     rw [run_choose]; rfl
    simp only [Builtin.append_, List.getElem?_toArray, List.getElem?_cons_zero, List.getElem?_cons_succ, Sem.run_bind, T.run_at ht hd rfl, Result.andThen_ok, T.run_sizeOf he, T.run_at ht2 hd2 rfl, Builtin.lenOf, Sem.run_pure, Bool.false_eq_true, if_false, hfit', hi1', if_neg hint', if_neg hnext, hch, run_askRoom, Bool.not_false, if_true, hvs1 w.drew rfl, hus1 w.drew rfl, hz0']
    simp only [newRow, Sem.run_bind, run_newObj, Result.andThen_ok, Sem.run_pure]
    rfl
def C4 (H : List AB) (sz : Nat) : C → Option (List (List D))
 | .ms id off len _ => match H[id]? with
  | some (.cells cs) => if off + len * sz ≤ cs.length then (DY ((cs.drop off).take (len * sz))).map (BC sz len) else none
  | _ => none
 | c => CW c
theorem Ka {α : Type} {sz : Nat} : ∀ (n : Nat) (l : List α), l.length = n * sz → (BC sz n l).flatten = l
 | 0, l, h => by have : l = [] := List.eq_nil_of_length_eq_zero (by simpa using h); subst this; rfl
 | n + 1, l, h => by
  rw [BC, List.flatten_cons, Ka n _ (by rw [List.length_drop, h, Nat.succ_mul]; omega), List.take_append_drop]
theorem Vb {c : C} {sz : Nat} {new : List (List D)} {v : Value} (hz : 0 < sz) (R : Rel w G H) (h : C4 H sz c = some new) (hu' : ∀ r ∈ new, r.length = sz) (hv : Ap w G H c v) :
  ∃ ax capx us, v = .slice ax new.length capx ∧ (∀ w' : World, w'.heap = w.heap → (Builtin.firstCells sz new.length (.slice ax new.length capx)).run P w' = .ok us.toArray w') ∧ An w G H (new.flatten.map .d) us := by
 cases c with
 | ms id off len cap =>
  simp only [C4] at h
  split at h
  ·rename_i cs hid
   split at h
   ·rename_i hle
    simp only [Option.map_eq_some_iff] at h
    obtain ⟨ds, h1, rfl⟩ := h
    cases hv with
    | ms _ _ _ _ hidl =>
     obtain ⟨arr, t, hb, hr⟩ := CQ R hid
     have hl := hr.1
     have hr' := (hr.drop off).take (len * sz)
     obtain ⟨g1, g2⟩ := Hd h1
     have hlen : ((arr.toList.drop off).take (len * sz)).length = len * sz := by rw [List.length_take, List.length_drop, ← hl]; omega
     have hdl : ds.length = len * sz := by rw [← g1, List.length_take, List.length_drop]; omega
     refine ⟨_, cap, (arr.toList.drop off).take (len * sz), by rw [BW], fun w' hw => ?_, ?_⟩
     ·rw [BW]
      have := run_loadCells_list (P := P) w' ⟨G.rho id, off, none⟩ ((arr.toList.drop off).take (len * sz)) (fun j v hj => by
       rw [Addr.add_lit, AQ (w := w) (by rw [hw]), Cr hb]
       rw [List.getElem?_take] at hj
       split at hj
       ·rwa [List.getElem?_drop] at hj
       ·cases hj)
      rw [hlen] at this
      simpa [Builtin.firstCells] using this
     ·rw [Ka _ _ hdl]
      refine ⟨by rw [List.length_map, hdl, hlen], fun i x v hx hv => ?_⟩
      have hlt : i < ((cs.drop off).take (len * sz)).length := by rw [g1]; simpa using (List.getElem?_eq_some_iff.1 hx).1
      have hc := List.getElem?_eq_getElem hlt
      obtain ⟨y, hy1, hy2⟩ := g2 i _ hc
      rw [List.getElem?_map, hy1] at hx
      cases hx
      obtain ⟨a1, a2⟩ := hr'.2 i _ v hc hv
      exact ⟨.d _ _ (JM hy2 a1), a2⟩
   ·cases h
  ·cases h
 | _ =>
  simp only [C4] at h
  obtain ⟨ax, capx, rfl, hDx⟩ := Dp h hv
  obtain ⟨us, hus1, hus2, _⟩ := Ea (P := P) (H := H) hDx hu' hz
  exact ⟨ax, capx, us, rfl, hus1, hus2⟩
end
end Go.Abs
namespace Go.Abs
open Go
def eqC : C → C → Option Bool
 | .d (.int k a), .d (.int k' b) => if k = k' then some (decide (a = b)) else none
 | _, _ => none
def C3 : List C → List C → Option Bool
 | [], [] => some true
 | x :: xs, y :: ys => match eqC x y, C3 xs ys with
  | some a, some b => some (a && b)
  | _, _ => none
 | _, _ => none
def CR (P : Program) (tt : Nat → Option TI) : Nat → Nat → Bool
 | 0, _ => false
 | n + 1, t => match tt t with
  | some i => match i.desc with
   | .int _ => i.size == 1
   | .struct _ => match P.underlying t with
    | some (.struct fs) => !P.stoodInHeld t && (fs.toList.foldl (fun (a : Bool × Nat) f => (a.1 && f.name != "_" && f.offset == a.2 && CR P tt n f.type && (tt f.type).isSome, a.2 + ((tt f.type).map (·.size)).getD 0)) (true, 0)) == (true, i.size)
    | _ => false
   | .array len e => CR P tt n e && (tt e).isSome && i.size == len * ((tt e).map (·.size)).getD 0
   | _ => false
  | none => false
theorem GG : ∀ (n : Nat) {a b : List C} {p : Bool}, C3 a b = some p → ∃ q r, C3 (a.take n) (b.take n) = some q ∧ C3 (a.drop n) (b.drop n) = some r ∧ p = (q && r)
 | 0, a, b, p, h => ⟨true, p, by simp [C3], by simpa using h, by simp⟩
 | n + 1, [], [], p, h => by simp [C3] at h; subst h; exact ⟨true, true, by simp [C3], by simp [C3], rfl⟩
 | n + 1, x :: a, y :: b, p, h => by
  simp only [C3] at h
  split at h
  ·rename_i u v hu hv
   cases h
   obtain ⟨q, r, h1, h2, h3⟩ := GG n hv
   exact ⟨u && q, r, by simp [C3, hu, h1], by simpa using h2, by rw [h3, Bool.and_assoc]⟩
  ·cases h
 | n + 1, [], _ :: _, _, h => by simp [C3] at h
 | n + 1, _ :: _, [], _, h => by simp [C3] at h
section
variable {P : Program} {tt : Nat → Option TI} {w : World} {G : Gh} {H : List AB}
theorem ST {x y : C} {v u : Value} {b : Bool} (h : eqC x y = some b) (hv : Ap w G H x v) (hu : Ap w G H y u) : ∃ k m n, v = .int k m ∧ u = .int k n ∧ b = decide (m = n) := by
 unfold eqC at h
 split at h
 ·rename_i k a k' c
  split at h
  ·rename_i e
   subst e
   cases h
   cases hv with | d _ _ hv => cases hv; cases hu with | d _ _ hu => cases hu; exact ⟨_, _, _, rfl, rfl, rfl⟩
  ·cases h
 ·cases h
def aFi (P : Program) (w : World) (d t : Nat) (xs ys : Array Value) (off : Nat) (b : Bool) : Prop :=
 ∃ v u, (part t xs off).run P w = .ok v w ∧ (part t ys off).run P w = .ok u w ∧ (Op.equalIn d t v u).run P w = .ok b w
theorem F8 (T : By P tt) : ∀ (n t : Nat) (i : TI), tt t = some i → CR P tt n t = true → ∀ (d : Nat), n ≤ d → ∀ (cs cs' : List C) (xs ys : Array Value) (off : Nat) (b : Bool), An w G H cs xs.toList → An w G H cs' ys.toList →
  off + i.size ≤ cs.length → off + i.size ≤ cs'.length → C3 ((cs.drop off).take i.size) ((cs'.drop off).take i.size) = some b → aFi P w d t xs ys off b
 | 0, t, i, _, hf, _, _, _, _, _, _, _, _, _, _, _, _, _ => by simp [CR] at hf
 | n + 1, t, i, ht, hf, d, hd, cs, cs', xs, ys, off, b, hx, hy, hl, hl', he => by
  obtain ⟨d, rfl⟩ : ∃ k, d = k + 1 := ⟨d - 1, by omega⟩
  have hlx : cs.length = xs.size := by have := hx.1; simpa using this
  have hly : cs'.length = ys.size := by have := hy.1; simpa using this
  simp only [CR, ht] at hf
  have single : BS i.desc = false → i.size = 1 → (∀ (k : IntKind) (m n : Int), b = decide (m = n) → (Op.equalIn (d + 1) t (.int k m) (.int k n)).run P w = .ok b w) → aFi P w (d + 1) t xs ys off b := fun ha h1 hrun => by
   have hox : off < cs.length := by omega
   have hoy : off < cs'.length := by omega
   obtain ⟨v, hv, hvx, _⟩ := hx.get (i := off) (x := cs[off]) (by simp [hox])
   obtain ⟨u, hu, huy, _⟩ := hy.get (i := off) (x := cs'[off]) (by simp [hoy])
   have e1 : (cs.drop off).take i.size = [cs[off]] := by rw [h1, List.drop_eq_getElem_cons hox]; rfl
   have e2 : (cs'.drop off).take i.size = [cs'[off]] := by rw [h1, List.drop_eq_getElem_cons hoy]; rfl
   rw [e1, e2] at he
   simp only [C3] at he
   split at he
   ·rename_i p q hp hq
    cases hq
    cases he
    obtain ⟨k, m, n, rfl, rfl, hb⟩ := ST hp hvx huy
    exact ⟨.int k m, .int k n, by simp [part, T.run_isAgg ht, ha, show xs[off]? = some _ by simpa using hv], by simp [part, T.run_isAgg ht, ha, show ys[off]? = some _ by simpa using hu], hrun k m n (by simpa using hb)⟩
   ·cases he
  have agg : BS i.desc = true → (∀ (xs' ys' : Array Value), An w G H ((cs.drop off).take i.size) xs'.toList → An w G H ((cs'.drop off).take i.size) ys'.toList → (Op.equalIn (d + 1) t (.agg xs') (.agg ys')).run P w = .ok b w) → aFi P w (d + 1) t xs ys off b := fun ha hrun => by
   refine ⟨.agg (xs.extract off (off + i.size)), .agg (ys.extract off (off + i.size)), by simp [part, T.run_isAgg ht, ha, T.run_sizeOf ht], by simp [part, T.run_isAgg ht, ha, T.run_sizeOf ht], hrun _ _ ?_ ?_⟩
   ·have e : (xs.extract off (off + i.size)).toList = (xs.toList.drop off).take i.size := by simp
    rw [e]; exact (hx.drop off).take i.size
   ·have e : (ys.extract off (off + i.size)).toList = (ys.toList.drop off).take i.size := by simp
    rw [e]; exact (hy.drop off).take i.size
  have tl : ((cs.drop off).take i.size).length = i.size := by simp; omega
  have tl' : ((cs'.drop off).take i.size).length = i.size := by simp; omega
  cases hdesc : i.desc with
  | int k0 =>
   simp only [hdesc, beq_iff_eq] at hf
   refine single (by rw [hdesc]; rfl) hf (fun k m n hb => ?_)
   rw [run_equalIn_int w d t k k0 m n (T.desc_at ht hdesc rfl), hb]
   rfl
  | struct fs0 =>
   obtain ⟨fs, hu, _⟩ := T.desc_struct ht hdesc
   simp only [hdesc, hu, Bool.and_eq_true, Bool.not_eq_true'] at hf
   obtain ⟨hst, hfold⟩ := hf
   refine agg (by rw [hdesc]; rfl) (fun xs' ys' hx' hy' => ?_)
   have hf0 : P.fieldsOf t = fs := by simp [Program.fieldsOf, hu]
   rw [run_equalIn_struct w d t xs' ys' (by rw [hf0, hu]) hst, hf0]
   generalize hA : (cs.drop off).take i.size = A at *
   generalize hB : (cs'.drop off).take i.size = B at *
   clear hA hB single agg
   have key : ∀ (fl : List Field) (k : Nat) (ok : Bool) (r : Bool), (fl.foldl (fun (a : Bool × Nat) f => (a.1 && f.name != "_" && f.offset == a.2 && CR P tt n f.type && (tt f.type).isSome, a.2 + ((tt f.type).map (·.size)).getD 0)) (ok, k)) = (true, i.size) →
     C3 (A.drop k) (B.drop k) = some r → (Op.eqFields d xs' ys' fl).run P w = .ok r w := by
    intro fl
    induction fl with
    | nil =>
     intro k ok r hk hr
     simp at hk
     obtain ⟨_, rfl⟩ := hk
     rw [List.drop_eq_nil_of_le (by omega), List.drop_eq_nil_of_le (by omega)] at hr
     simp [C3] at hr
     subst hr
     simp [Op.eqFields]
    | cons f fl ih =>
     intro k ok r hk hr
     simp only [List.foldl_cons] at hk
     have hok : ∀ (fl : List Field) (a : Bool × Nat), (fl.foldl (fun (a : Bool × Nat) f => (a.1 && f.name != "_" && f.offset == a.2 && CR P tt n f.type && (tt f.type).isSome, a.2 + ((tt f.type).map (·.size)).getD 0)) a).1 = true → a.1 = true := by
      intro fl
      induction fl with
      | nil => intro a h; exact h
      | cons g fl ih => intro a h; have := ih _ h; simp at this; exact this.1.1.1.1
     have hle : ∀ (fl : List Field) (a : Bool × Nat), a.2 ≤ (fl.foldl (fun (a : Bool × Nat) f => (a.1 && f.name != "_" && f.offset == a.2 && CR P tt n f.type && (tt f.type).isSome, a.2 + ((tt f.type).map (·.size)).getD 0)) a).2 := by
      intro fl
      induction fl with
      | nil => intro a; exact Nat.le_refl _
      | cons g fl ih => intro a; rw [List.foldl_cons]; exact Nat.le_trans (Nat.le_add_right _ _) (ih (a.1 && g.name != "_" && g.offset == a.2 && CR P tt n g.type && (tt g.type).isSome, a.2 + ((tt g.type).map (·.size)).getD 0))
     have h1 := hok fl _ (by rw [hk])
     have h2 := hle fl (ok && f.name != "_" && f.offset == k && CR P tt n f.type && (tt f.type).isSome, k + ((tt f.type).map (·.size)).getD 0)
     rw [hk] at h2
     simp only [Bool.and_eq_true, bne_iff_ne, ne_eq, beq_iff_eq] at h1
     obtain ⟨⟨⟨⟨_, hnm⟩, ho⟩, hfl⟩, hs⟩ := h1
     obtain ⟨i', hi'⟩ := Option.isSome_iff_exists.1 hs
     simp only [hi', Option.map_some, Option.getD_some] at h2 hk
     obtain ⟨q, r', e1, e2, e3⟩ := GG i'.size hr
     obtain ⟨v, u, p1, p2, p3⟩ := F8 T n f.type i' hi' hfl d (by omega) A B xs' ys' f.offset q hx' hy' (by rw [ho]; omega) (by rw [ho]; omega) (by rw [ho]; exact e1)
     simp only [Op.eqFields, ne_eq, hnm, not_false_eq_true, if_true, Sem.run_bind, p1, p2, p3, Result.andThen_ok]
     have ih' := ih (k + i'.size) _ r' hk (by rw [List.drop_drop, List.drop_drop] at e2; exact e2)
     cases q with
     | true => simp at e3; subst e3; simpa using ih'
     | false => simp at e3; subst e3; simp
   simp only [beq_iff_eq] at hfold
   exact key fs.toList 0 true b hfold (by simpa using he)
  | array len e =>
   simp only [hdesc, Bool.and_eq_true, beq_iff_eq] at hf
   obtain ⟨⟨hfl, hs⟩, hsz⟩ := hf
   obtain ⟨i', hi'⟩ := Option.isSome_iff_exists.1 hs
   simp only [hi', Option.map_some, Option.getD_some] at hsz
   refine agg (by rw [hdesc]; rfl) (fun xs' ys' hx' hy' => ?_)
   generalize hA : (cs.drop off).take i.size = A at *
   generalize hB : (cs'.drop off).take i.size = B at *
   clear hA hB single agg
   simp only [Op.equalIn, Sem.run_bind, T.run_at ht hdesc rfl, Result.andThen_ok, T.run_sizeOf hi']
   rw [Std.Legacy.Range.forIn_eq_forIn_range']
   have key : ∀ (m k : Nat) (r : Bool), k + m = len → C3 (A.drop (k * i'.size)) (B.drop (k * i'.size)) = some r →
     ∃ s, (forIn (List.range' k m) ((none : Option Bool), ()) (fun j (_ : Option Bool × Unit) => (do
      let __do_lift ← part e xs' (j * i'.size)
      let __do_lift_1 ← part e ys' (j * i'.size)
      let __do_lift ← Op.equalIn d e __do_lift __do_lift_1
      if (!__do_lift) = true then pure (ForInStep.done (some false, ())) else pure (ForInStep.yield (none, ())) : Sem (ForInStep (Option Bool × Unit))))).run P w = .ok (s, ()) w ∧ s.getD true = r := by
    intro m
    induction m with
    | zero =>
     intro k r hk hr
     have : k = len := by omega
     subst this
     rw [List.drop_eq_nil_of_le (by omega), List.drop_eq_nil_of_le (by omega)] at hr
     simp [C3] at hr
     exact ⟨none, by simp, by simp [hr]⟩
    | succ m ih =>
     intro k r hk hr
     have hmul : (k + 1) * i'.size ≤ len * i'.size := Nat.mul_le_mul_right _ (by omega)
     rw [Nat.succ_mul] at hmul
     obtain ⟨q, r', e1, e2, e3⟩ := GG i'.size hr
     obtain ⟨v, u, p1, p2, p3⟩ := F8 T n e i' hi' hfl d (by omega) A B xs' ys' (k * i'.size) q hx' hy' (by omega) (by omega) e1
     simp only [List.range'_succ, List.forIn_cons, Sem.run_bind, p1, p2, p3, Result.andThen_ok]
     cases q with
     | true =>
      have e3' : r = r' := by simpa using e3
      subst e3'
      obtain ⟨s, h1, h2⟩ := ih (k + 1) r (by omega) (by rw [List.drop_drop, List.drop_drop] at e2; rw [Nat.succ_mul]; exact e2)
      refine ⟨s, ?_, h2⟩
      simpa using h1
     | false => simp at e3; subst e3; exact ⟨some false, by simp, rfl⟩
   obtain ⟨s, h1, h2⟩ := key len 0 b (by omega) (by simpa using he)
   have e0 : (List.range' ([:len] : Std.Legacy.Range).start ([:len] : Std.Legacy.Range).size ([:len] : Std.Legacy.Range).step) = List.range' 0 len := by simp [Std.Legacy.Range.size]
   rw [e0, h1]
   cases s with
   | none => simp at h2; subst h2; simp
   | some x => simp at h2; subst h2; simp
  | _ => simp [hdesc] at hf
end
end Go.Abs
