/- Addresses, elements, parts; lengths and slices. -/
import Derived.Test.YtklmpopomokglaaAbs6
set_option linter.unusedSimpArgs false
set_option linter.unusedVariables false
namespace Go.Abs
open Go

def rowsOf : C → Option (List (List D))
  | .d (.sl r) => some r
  | .full r => some r
  | .own _ r => some r
  | _ => none
def toD : C → Option D
  | .d x => some x
  | .full r => some (.sl r)
  | .own _ r => some (.sl r)
  | _ => none
def toDs : List C → Option (List D)
  | [] => some []
  | c :: cs => match toD c, toDs cs with
    | some x, some xs => some (x :: xs)
    | _, _ => none

section
variable {P : Program} {tt : Nat → Option TI} {w : World} {G : Gh} {H : List AB}

theorem rowsOf_rel {x : C} {v : Value} {rows : List (List D)} (hx : rowsOf x = some rows) (h : CRel w G H x v) : ∃ a cap, v = .slice a rows.length cap ∧ DRel w G.S (.sl rows) v := by
  cases x <;> simp [rowsOf] at hx
  case d x =>
    cases x <;> simp at hx
    subst hx
    cases h with
    | d _ _ h =>
      have h0 := h
      cases h with
      | emp a cap => exact ⟨a, cap, rfl, h0⟩
      | sl rows b o cap sz f h1 h2 h3 h4 h5 => exact ⟨_, cap, rfl, h0⟩
  case full r => subst hx; cases h with | full _ a n hn h => subst hn; exact ⟨a, _, rfl, h⟩
  case own id r => subst hx; cases h with | own _ _ a n cap hid hn h hg => subst hn; exact ⟨a, cap, rfl, h⟩

theorem toD_rel {x : C} {v : Value} {y : D} (hx : toD x = some y) (h : CRel w G H x v) : DRel w G.S y v := by
  cases x <;> simp [toD] at hx
  case d x => subst hx; cases h; assumption
  case full r => subst hx; cases h; assumption
  case own id r => subst hx; cases h; assumption

theorem toDs_rel : ∀ {cs : List C} {ds : List D}, toDs cs = some ds → cs.length = ds.length ∧ ∀ (i : Nat) (x : C), cs[i]? = some x → ∃ y, ds[i]? = some y ∧ toD x = some y
  | [], ds, h => by simp [toDs] at h; subst h; exact ⟨rfl, fun i x h => by simp at h⟩
  | c :: cs, ds, h => by
    simp only [toDs] at h
    split at h
    · rename_i x xs hx hxs
      simp at h; subst h
      obtain ⟨h1, h2⟩ := toDs_rel hxs
      refine ⟨by simp [h1], fun i y hy => ?_⟩
      cases i with
      | zero => simp at hy; subst hy; exact ⟨x, by simp, hx⟩
      | succ i => simp at hy; simpa using h2 i y hy
    · cases h

theorem int_rel {k : IntKind} {n : Int} {v : Value} (h : VRel w G H (.c (.d (.int k n))) v) : v = .int k n := by
  cases h with | c _ _ h => cases h with | d _ _ h => cases h; rfl
theorem bool_rel {b : Bool} {v : Value} (h : VRel w G H (.c (.d (.bool b))) v) : v = .bool b := by
  cases h with | c _ _ h => cases h with | d _ _ h => cases h; rfl
theorem ptr_rel {id off : Nat} {v : Value} (h : VRel w G H (.c (.ptr id off)) v) : v = .pointer (some ⟨G.rho id, off, none⟩) ∧ id < H.length := by
  cases h with | c _ _ h => cases h with | ptr _ _ h => exact ⟨rfl, h⟩
theorem dp_rel {ds : List D} {v : Value} (h : VRel w G H (.c (.dp ds)) v) : ∃ (b o : Nat) (f : Nat → Value), v = .pointer (some ⟨b, o, none⟩) ∧ (∀ j, j < ds.length → G.S b (o + j) ∧ w.cell? ⟨b, o + j, none⟩ = some (f j)) ∧
    (∀ (j : Nat) (x : D), ds[j]? = some x → DRel w G.S x (f j)) := by
  cases h with | c _ _ h => cases h with | dp _ b o f h1 h2 => exact ⟨b, o, f, rfl, h1, h2⟩

theorem dp_drop {ds : List D} {b o : Nat} {f : Nat → Value} (h1 : ∀ j, j < ds.length → G.S b (o + j) ∧ w.cell? ⟨b, o + j, none⟩ = some (f j)) (h2 : ∀ (j : Nat) (x : D), ds[j]? = some x → DRel w G.S x (f j)) (n : Nat) :
    VRel w G H (.c (.dp (ds.drop n))) (.pointer (some ⟨b, o + n, none⟩)) :=
  .c _ _ (.dp _ b (o + n) (fun j => f (n + j)) (fun j hj => by have := h1 (n + j) (by simp at hj; omega); rwa [← Nat.add_assoc] at this) (fun j x hx => h2 (n + j) x (by simpa using hx)))

theorem yields_load_dp (T : TTok P tt) {t : Nat} {i : TI} (ht : tt t = some i) {ds : List D} {a : Value} (R : Rel w G H) (hoff : i.size ≤ ds.length)
    (ha : VRel w G H (.c (.dp ds)) a) : Yields P (Instr.loadAt t a) w G H (mkV i (ds.map .d) 0) H := by
  obtain ⟨b, o, f, rfl, h1, h2⟩ := dp_rel ha
  have hr : CsRel w G H (List.replicate o .any ++ ds.map .d) (List.replicate o (Value.bool false) ++ (List.range ds.length).map f) := by
    refine CsRel.append ⟨by simp, fun i x v hx hv => ?_⟩ (dcells h2)
    simp [List.getElem?_replicate] at hx hv
    obtain ⟨_, rfl⟩ := hx
    obtain ⟨_, rfl⟩ := hv
    exact ⟨.any _, rfl⟩
  have := yields_loadVar T ht (b := b) (off := o) R hr (by simp; omega) (fun j hj => by
    rw [(h1 j (by omega)).2, List.getElem?_append_right (by simp)]
    have : j < ds.length := by omega
    simp [this])
  obtain ⟨v, w', G', e1, e2⟩ := this
  refine ⟨v, w', G', by simpa [Instr.loadAt, Instr.sureAddr] using e1, ?_⟩
  have : mkV i (List.replicate o .any ++ ds.map .d) o = mkV i (ds.map .d) 0 := by
    unfold mkV
    congr 1
    · rw [List.drop_append_of_le_length (by simp)]; simp
    · rw [List.getElem?_append_right (by simp)]; simp
  rwa [this] at e2

theorem yields_fieldAt (T : TTok P tt) {t f : Nat} {i i' : TI} {fs : Array Field} {fd : Field} (ht : tt t = some i) (hd : i.desc = .struct fs) (hf : fs[f]? = some fd) (hi : tt fd.type = some i') (hz : i'.size ≠ 0)
    {id off : Nat} {a : Value} (R : Rel w G H) (ha : VRel w G H (.c (.ptr id off)) a) : Yields P (Instr.fieldAt t a f) w G H (.c (.ptr id (off + fd.offset))) H := by
  obtain ⟨rfl, hid⟩ := ptr_rel ha
  refine Yields.still R (v := .pointer (some ⟨G.rho id, off + fd.offset, none⟩)) ?_ (.c _ _ (.ptr _ _ hid))
  obtain ⟨fs', e1, e2⟩ := T.run_struct ht hd w
  obtain ⟨fd', e3, e4, e5⟩ := field_of e2 hf
  rw [← e4] at hi
  simp [Instr.fieldAt, e1, e3, ← e5, Instr.sureAddr, fieldPlace, T.run_sizeOf hi, hz, Addr.add_lit]

theorem yields_fieldAt_dp (T : TTok P tt) {t f : Nat} {i i' : TI} {fs : Array Field} {fd : Field} (ht : tt t = some i) (hd : i.desc = .struct fs) (hf : fs[f]? = some fd) (hi : tt fd.type = some i') (hz : i'.size ≠ 0)
    {ds : List D} {a : Value} (R : Rel w G H) (ha : VRel w G H (.c (.dp ds)) a) : Yields P (Instr.fieldAt t a f) w G H (.c (.dp (ds.drop fd.offset))) H := by
  obtain ⟨b, o, g, rfl, h1, h2⟩ := dp_rel ha
  refine Yields.still R (v := .pointer (some ⟨b, o + fd.offset, none⟩)) ?_ (dp_drop h1 h2 _)
  obtain ⟨fs', e1, e2⟩ := T.run_struct ht hd w
  obtain ⟨fd', e3, e4, e5⟩ := field_of e2 hf
  rw [← e4] at hi
  simp [Instr.fieldAt, e1, e3, ← e5, Instr.sureAddr, fieldPlace, T.run_sizeOf hi, hz, Addr.add_lit]

theorem yields_indexAt_arr (T : TTok P tt) {t len e : Nat} {i i' : TI} (ht : tt t = some i) (hd : i.desc = .array len e) (he : tt e = some i') {k : IntKind} {n : Int} (h0 : 0 ≤ n) (h1 : n < len)
    {id off : Nat} {a ix : Value} (R : Rel w G H) (ha : VRel w G H (.c (.ptr id off)) a) (hx : VRel w G H (.c (.d (.int k n))) ix) : Yields P (Instr.indexAt t a ix) w G H (.c (.ptr id (off + n.toNat * i'.size))) H := by
  obtain ⟨rfl, hid⟩ := ptr_rel ha
  obtain rfl := int_rel hx
  refine Yields.still R (v := .pointer (some ⟨G.rho id, off + n.toNat * i'.size, none⟩)) ?_ (.c _ _ (.ptr _ _ hid))
  simp [Instr.indexAt, asIntOf, T.run_at ht hd rfl, Instr.sureAddr, T.run_sizeOf he, h0, h1, Addr.add_lit]

theorem yields_indexAt_dp (T : TTok P tt) {t len e : Nat} {i i' : TI} (ht : tt t = some i) (hd : i.desc = .array len e) (he : tt e = some i') {k : IntKind} {n : Int} (h0 : 0 ≤ n) (h1 : n < len)
    {ds : List D} {a ix : Value} (R : Rel w G H) (ha : VRel w G H (.c (.dp ds)) a) (hx : VRel w G H (.c (.d (.int k n))) ix) : Yields P (Instr.indexAt t a ix) w G H (.c (.dp (ds.drop (n.toNat * i'.size)))) H := by
  obtain ⟨b, o, g, rfl, h2, h3⟩ := dp_rel ha
  obtain rfl := int_rel hx
  refine Yields.still R (v := .pointer (some ⟨b, o + n.toNat * i'.size, none⟩)) ?_ (dp_drop h2 h3 _)
  simp [Instr.indexAt, asIntOf, T.run_at ht hd rfl, Instr.sureAddr, T.run_sizeOf he, h0, h1, Addr.add_lit]

theorem yields_indexAt_sl (T : TTok P tt) {t e : Nat} {i i' : TI} (ht : tt t = some i) (hd : i.desc = .slice e) (he : tt e = some i') {k : IntKind} {n : Int} (h0 : 0 ≤ n)
    {x : C} {rows : List (List D)} {r : List D} (hr : rowsOf x = some rows) (h1 : rows[n.toNat]? = some r) (h2 : r.length = i'.size) {a ix : Value} (R : Rel w G H) (ha : VRel w G H (.c x) a) (hx : VRel w G H (.c (.d (.int k n))) ix) :
    Yields P (Instr.indexAt t a ix) w G H (.c (.dp r)) H := by
  cases ha with
  | c _ _ ha =>
    obtain ⟨ad, cap, rfl, hD⟩ := rowsOf_rel hr ha
    obtain rfl := int_rel hx
    have hlt : n.toNat < rows.length := (List.getElem?_eq_some_iff.1 h1).1
    have hlt' : n < rows.length := by omega
    cases hD with
    | emp a cap => simp at hlt
    | sl _ b o _ sz f hcap hlim hsz hcell hrel =>
      have es : sz = i'.size := by rw [← h2]; exact (hsz _ r h1).symm
      subst es
      refine Yields.still R (v := .pointer (some ⟨b, o + n.toNat * i'.size, none⟩)) ?_ (.c _ _ (.dp r b _ (f n.toNat) (fun j hj => hcell _ j hlt (by omega)) (fun j y hy => hrel _ j r y h1 hy)))
      simp [Instr.indexAt, asIntOf, T.run_at ht hd rfl, T.run_sizeOf he, h0, hlt', Addr.add_lit]

theorem yields_indexAt_ms (T : TTok P tt) {t e : Nat} {i i' : TI} (ht : tt t = some i) (hd : i.desc = .slice e) (he : tt e = some i') {k : IntKind} {n : Int} (h0 : 0 ≤ n) {id off len cap : Nat} (h1 : n < len)
    {a ix : Value} (R : Rel w G H) (ha : VRel w G H (.c (.ms id off len cap)) a) (hx : VRel w G H (.c (.d (.int k n))) ix) : Yields P (Instr.indexAt t a ix) w G H (.c (.ptr id (off + n.toNat * i'.size))) H := by
  cases ha with
  | c _ _ ha =>
    cases ha with
    | ms _ _ _ _ hid =>
      obtain rfl := int_rel hx
      refine Yields.still R (v := .pointer (some ⟨G.rho id, off + n.toNat * i'.size, none⟩)) ?_ (.c _ _ (.ptr _ _ hid))
      simp [Instr.indexAt, asIntOf, T.run_at ht hd rfl, T.run_sizeOf he, h0, h1, Addr.add_lit]

theorem agg_rel {cs : List C} {v : Value} (h : VRel w G H (.agg cs) v) : ∃ arr, v = .agg arr ∧ CsRel w G H cs arr.toList := by
  cases h with | agg _ arr h => exact ⟨arr, rfl, h⟩

theorem yields_part (T : TTok P tt) {t : Nat} {i : TI} (ht : tt t = some i) {cs : List C} {arr : Array Value} (R : Rel w G H) (h : CsRel w G H cs arr.toList) {off : Nat} (hoff : off + i.size ≤ cs.length) :
    Yields P (part t arr off) w G H (mkV i cs off) H := by
  unfold mkV
  have hl : cs.length = arr.size := by have := h.1; simpa using this
  cases ha : isAggD i.desc with
  | true =>
    refine Yields.still R (v := .agg (arr.extract off (off + i.size))) ?_ ?_
    · simp [part, T.run_isAgg ht, ha, T.run_sizeOf ht]
    · simp only [if_true]
      refine .agg _ _ ?_
      have := (h.drop off).take i.size
      have e : (arr.extract off (off + i.size)).toList = (arr.toList.drop off).take i.size := by simp
      rw [e]; exact this
  | false =>
    have h1 := T.one t i ht ha
    have hlt : off < cs.length := by omega
    obtain ⟨v, hv, hx, _⟩ := h.get (i := off) (x := cs[off]) (by simp [hlt])
    have hv' : arr[off]? = some v := by simpa using hv
    refine Yields.still R (v := v) ?_ ?_
    · simp [part, T.run_isAgg ht, ha, hv']
    · simp only [Bool.false_eq_true, if_false, List.getElem?_eq_getElem hlt, Option.getD_some]
      exact .c _ _ hx

theorem yields_field (T : TTok P tt) {t f : Nat} {i i' : TI} {fs : Array Field} {fd : Field} (ht : tt t = some i) (hd : i.desc = .struct fs) (hf : fs[f]? = some fd) (hi : tt fd.type = some i') {cs : List C} {a : Value}
    (R : Rel w G H) (ha : VRel w G H (.agg cs) a) (hoff : fd.offset + i'.size ≤ cs.length) : Yields P (Instr.field t a f) w G H (mkV i' cs fd.offset) H := by
  obtain ⟨arr, rfl, hr⟩ := agg_rel ha
  obtain ⟨v, w', G', h1, h2⟩ := yields_part (P := P) T hi R hr hoff
  refine ⟨v, w', G', ?_, h2⟩
  obtain ⟨fs', e1, e2⟩ := T.run_struct ht hd w
  obtain ⟨fd', e3, e4, e5⟩ := field_of e2 hf
  simp [Instr.field, e1, e3, e4, e5, asAgg, h1]

theorem yields_index (T : TTok P tt) {t len e : Nat} {i i' : TI} (ht : tt t = some i) (hd : i.desc = .array len e) (he : tt e = some i') {k : IntKind} {n : Int} (h0 : 0 ≤ n) (h1 : n < len) {cs : List C} {a ix : Value}
    (R : Rel w G H) (ha : VRel w G H (.agg cs) a) (hx : VRel w G H (.c (.d (.int k n))) ix) (hoff : n.toNat * i'.size + i'.size ≤ cs.length) : Yields P (Instr.index t a ix) w G H (mkV i' cs (n.toNat * i'.size)) H := by
  obtain ⟨arr, rfl, hr⟩ := agg_rel ha
  obtain rfl := int_rel hx
  obtain ⟨v, w', G', h2, h3⟩ := yields_part (P := P) T he R hr hoff
  refine ⟨v, w', G', ?_, h3⟩
  simp [Instr.index, asIntOf, T.run_at ht hd rfl, h0, h1, T.run_sizeOf he, h2]

theorem yields_extract {n : Nat} {vs : List V} {x : V} {v : Value} (R : Rel w G H) (h : VRel w G H (.tup vs) v) (hx : vs[n]? = some x) : Yields P (Instr.extract v n) w G H x H := by
  cases h with
  | tup _ arr hs h =>
    have hlt : n < arr.size := by rw [hs]; exact (List.getElem?_eq_some_iff.1 hx).1
    refine Yields.still R (v := arr[n]) ?_ (h n x _ hx (by simp [hlt]))
    simp [Instr.extract, hlt]
end
end Go.Abs
