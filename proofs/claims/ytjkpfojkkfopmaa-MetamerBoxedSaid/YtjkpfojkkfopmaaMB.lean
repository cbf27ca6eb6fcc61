/- Numbers; slices: made, cut, appended to, copied. -/
import Derived.Test.YtjkpfojkkfopmaaMA
import Derived.Laws.StructEq
set_option linter.unusedSimpArgs false
set_option linter.unusedVariables false
namespace Go.Abs
open Go

/-- Wrapping, quick where it does nothing. -/
def wr : IntKind → Int → Int
  | .i64, n => if -9223372036854775808 ≤ n ∧ n ≤ 9223372036854775807 then n else IntKind.i64.wrap n
  | k, n => k.wrap n

theorem wrap_i64 (n : Int) (h : -9223372036854775808 ≤ n ∧ n ≤ 9223372036854775807) : IntKind.i64.wrap n = n := by
  simp only [IntKind.wrap, IntKind.bits, IntKind.signed]; simp; split <;> omega
theorem wr_eq (k : IntKind) (n : Int) : wr k n = k.wrap n := by
  cases k <;> simp only [wr]
  split
  · rename_i h; exact (wrap_i64 n h).symm
  · rfl
theorem wr_i64 (n : Int) (h1 : -9223372036854775808 ≤ n) (h2 : n ≤ 9223372036854775807) : wr .i64 n = n := by simp [wr, h1, h2]
theorem wr_u8 (n : Int) (h1 : 0 ≤ n) (h2 : n < 256) : wr .u8 n = n := by
  rw [wr_eq]; simp [IntKind.wrap, IntKind.bits, IntKind.signed]; omega
theorem wr_u16 (n : Int) (h1 : 0 ≤ n) (h2 : n < 65536) : wr .u16 n = n := by
  rw [wr_eq]; simp [IntKind.wrap, IntKind.bits, IntKind.signed]; omega
theorem wr_u32 (n : Int) (h1 : 0 ≤ n) (h2 : n < 4294967296) : wr .u32 n = n := by
  rw [wr_eq]; simp [IntKind.wrap, IntKind.bits, IntKind.signed]; omega
theorem wr_u64 (n : Int) (h1 : 0 ≤ n) (h2 : n < 18446744073709551616) : wr .u64 n = n := by
  rw [wr_eq]; simp [IntKind.wrap, IntKind.bits, IntKind.signed]; omega

section
variable {P : Program} {tt : Nat → Option TI} {w : World} {G : Gh} {H : List AB}

theorem zc_rel {cs : List C} {vs : List Value} (h : CsRel w G H cs vs) : ∀ n, CsRel w G H (zc cs n) (zc vs n)
  | 0 => CsRel.nil
  | n + 1 => by rw [zc_succ, zc_succ]; exact h.append (zc_rel h n)

theorem yields_makeSlice (T : TTok P tt) {t e : Nat} {i i' : TI} (ht : tt t = some i) (hd : i.desc = .slice e) (he : tt e = some i') {k k' : IntKind} {n c : Int} (h0 : 0 ≤ n) (h1 : n ≤ c) (h2 : (i'.bytes : Int) * c ≤ 140737488355328) (h3 : c ≤ lim)
    {a b : Value} (R : Rel w G H) (ha : VRel w G H (.c (.d (.int k n))) a) (hb : VRel w G H (.c (.d (.int k' c))) b) :
    Yields P (Instr.makeSlice t a b) w G H (.c (.ms H.length 0 n.toNat c.toNat)) (H ++ [.cells (zc i'.zero.cs c.toNat)]) := by
  obtain rfl := int_rel ha
  obtain rfl := int_rel hb
  obtain ⟨z, hz, hz1, hz2, hz3⟩ := T.run_zero he
  obtain ⟨inf, hi1, hi2⟩ := T.run_bytes he w
  have hzr := zeroCs_rel (w := w) (G := G) (H := H) hz2
  have hzs : z.cells.size = i'.size := by have := hzr.1; simp at this; omega
  have lim' : (lim : Int) = 140737488355328 := rfl
  have wn : IntKind.i64.wrap n = n := wrap_i64 n (by omega)
  have wc : IntKind.i64.wrap c = c := wrap_i64 c (by omega)
  have key : ∀ arr : Array Value, CsRel w G H (zc i'.zero.cs c.toNat) arr.toList → Yields P (do pure (.slice (some (← newRow e arr)) n.toNat c.toNat)) w G H (.c (.ms H.length 0 n.toNat c.toNat)) (H ++ [.cells (zc i'.zero.cs c.toNat)]) := fun arr hc => by
    refine ⟨.slice (some ⟨w.heap.size, 0, none⟩) n.toNat c.toNat, w.alloc (.cells arr e), G.own H.length w.heap.size, by simp [newRow], ?_, R.alloc_cells e hc, Later.alloc_own R _ _⟩
    have := CRel.ms (w := w.alloc (.cells arr e)) (G := G.own H.length w.heap.size) (H := H ++ [.cells (zc i'.zero.cs c.toNat)]) H.length 0 n.toNat c.toNat (by simp)
    simp only [Gh.own, upd_same] at this
    exact .c _ _ this
  have t1 : (decide (n < 0) || decide ((i'.bytes : Int) * n > 2 ^ 48)) = false := by
    have : (i'.bytes : Int) * n ≤ (i'.bytes : Int) * c := Int.mul_le_mul_of_nonneg_left h1 (by omega)
    simp; omega
  have t2 : (decide (c < 0) || decide ((i'.bytes : Int) * c > 2 ^ 48)) = false := by simp; omega
  have t3 : (decide (n < 0) || decide (n > c)) = false := by simp; omega
  by_cases hn : c.toNat * i'.size = 0
  · obtain ⟨v, w', G', e1, e2⟩ := key #[] (by
      have : zc i'.zero.cs c.toNat = [] := List.eq_nil_of_length_eq_zero (by rw [zc_length, hz3]; exact hn)
      rw [this]; exact CsRel.nil)
    refine ⟨v, w', G', ?_, e2⟩
    simp only [Instr.makeSlice, Sem.run_bind, T.run_at ht hd rfl, Result.andThen_ok, asInt, asIntOf, Sem.run_pure, hi1, hi2, wn, wc, t2, t3, Bool.false_or, Bool.false_eq_true, if_false, run_askRoom, T.run_sizeOf he, hn, if_true, Sem.run_ite]
    simpa [Array.range_zero'] using e1
  · obtain ⟨v, w', G', e1, e2⟩ := key ((Array.range (c.toNat * i'.size)).map (fun j => z.cells[j % z.cells.size]!)) (by
      rw [← hzs, rangeMap_toList]; exact zc_rel hzr _)
    refine ⟨v, w', G', ?_, e2⟩
    simp only [Instr.makeSlice, Sem.run_bind, T.run_at ht hd rfl, Result.andThen_ok, asInt, asIntOf, Sem.run_pure, hi1, hi2, wn, wc, t2, t3, Bool.false_or, Bool.false_eq_true, if_false, run_askRoom, T.run_sizeOf he, hn, Sem.run_ite, hz]
    simpa using e1

/-! ### A slice expression -/
theorem run_sliceBounds_slice {fl : Bool} {len cap : Nat} {lo hi mx : Option Value} {l h m : Nat} (hm : match mx with | some v => ∃ k, v = .int k m ∧ m ≤ cap | none => m = cap)
    (hh : match hi, mx with | some v, _ => (∃ k, v = .int k h) ∧ h ≤ m | none, none => h = len | none, some _ => False)
    (hl : match lo with | some v => (∃ k, v = .int k l) ∧ l ≤ h | none => l = 0) : (Instr.sliceBounds fl len cap lo hi mx).run P w = .ok (l, h, m) w := by
  have sb : ∀ (k : IntKind) (x y : Nat) (c : BoundsCode), x ≤ y → (Instr.sliceBound (.int k x) y c).run P w = .ok x w := fun k x y c h => by
    have : (0 : Int) ≤ x ∧ (x : Int) ≤ y := by omega
    simp [Instr.sliceBound, asIntOf, this]
  unfold Instr.sliceBounds
  cases mx with
  | none =>
    simp only at hm
    subst hm
    cases hi with
    | none =>
      simp only at hh
      subst hh
      cases lo with
      | none => simp only at hl; subst hl; simp
      | some v => obtain ⟨⟨k, rfl⟩, h2⟩ := hl; simp [sb k l h _ h2]
    | some u =>
      obtain ⟨⟨k', rfl⟩, h1⟩ := hh
      cases lo with
      | none => simp only at hl; subst hl; simp [sb k' h m _ h1]
      | some v => obtain ⟨⟨k, rfl⟩, h2⟩ := hl; simp [sb k l h _ h2, sb k' h m _ h1]
  | some x =>
    obtain ⟨k0, rfl, h0⟩ := hm
    cases hi with
    | none => exact hh.elim
    | some u =>
      obtain ⟨⟨k', rfl⟩, h1⟩ := hh
      cases lo with
      | none => simp only at hl; subst hl; simp [sb k' h m _ h1, sb k0 m cap _ h0]
      | some v => obtain ⟨⟨k, rfl⟩, h2⟩ := hl; simp [sb k l h _ h2, sb k' h m _ h1, sb k0 m cap _ h0]

theorem drel_cut {S : Nat → Nat → Prop} {rows : List (List D)} {b o sz : Nat} {f : Nat → Nat → Value} (hlim : rows.length ≤ lim)
    (hsz : ∀ (i : Nat) (r : List D), rows[i]? = some r → r.length = sz) (hcell : ∀ i j, i < rows.length → j < sz → S b (o + i * sz + j) ∧ w.cell? ⟨b, o + i * sz + j, none⟩ = some (f i j))
    (hrel : ∀ (i j : Nat) (r : List D) (x : D), rows[i]? = some r → r[j]? = some x → DRel w S x (f i j)) {l h : Nat} (hh : h ≤ rows.length) (hl : l ≤ h) {cap' : Nat} (hc : h - l ≤ cap') :
    DRel w S (.sl ((rows.take h).drop l)) (.slice (some ⟨b, o + l * sz, none⟩) (h - l) cap') := by
  have hL : ((rows.take h).drop l).length = h - l := by simp; omega
  have get : ∀ i r, ((rows.take h).drop l)[i]? = some r → rows[l + i]? = some r := fun i r hr => by
    rw [List.getElem?_drop, List.getElem?_take] at hr
    split at hr
    · exact hr
    · cases hr
  have key := DRel.sl (w := w) (S := S) ((rows.take h).drop l) b (o + l * sz) cap' sz (fun i j => f (l + i) j) (by omega) (by omega) (fun i r hr => hsz (l + i) r (get i r hr)) (fun i j hi hj => by
    have := hcell (l + i) j (by omega) hj
    have e : o + l * sz + i * sz + j = o + (l + i) * sz + j := by rw [Nat.add_mul]; omega
    rw [e]; exact this) (fun i j r x hr hx => hrel (l + i) j r x (get i r hr) hx)
  rw [hL] at key; exact key

/-- Cutting a slice of data. 'mx': the third index is there, and is the second. -/
theorem yields_slice (T : TTok P tt) {t e : Nat} {i i' : TI} (ht : tt t = some i) (hd : i.desc = .slice e) (he : tt e = some i') {x : C} {rows : List (List D)} (hx : rowsOf x = some rows)
    (hrow : ∀ r ∈ rows, r.length = i'.size) {l h : Nat} (hh : h ≤ rows.length) (hl : l ≤ h) {a : Value} {lo hi mx : Option Value} (R : Rel w G H) (ha : VRel w G H (.c x) a)
    (e1 : match lo with | some v => ∃ k, v = .int k l | none => l = 0) (e2 : match hi with | some v => ∃ k, v = .int k h | none => h = rows.length)
    (e3 : match mx with | some v => (∃ k, v = .int k h) ∧ hi.isSome = true | none => True) :
    Yields P (Instr.sliceAt t a lo hi mx) w G H (.c (if mx.isSome then .full ((rows.take h).drop l) else .d (.sl ((rows.take h).drop l)))) H := by
  cases ha with
  | c _ _ ha =>
    obtain ⟨ad, cap, rfl, hD⟩ := rowsOf_rel hx ha
    have hcap : rows.length ≤ cap ∨ rows = [] := by
      cases hD with
      | emp => exact .inr rfl
      | sl _ _ _ _ _ _ hc => exact .inl hc
    have hcap' : rows.length ≤ cap := by
      rcases hcap with h | h
      · exact h
      · subst h; simp
    obtain ⟨m, hm, hb⟩ : ∃ m, (mx.isSome = true → m = h) ∧ (Instr.sliceBounds true rows.length cap lo hi mx).run P w = .ok (l, h, m) w ∧ h ≤ m := by
      cases mx with
      | none =>
        refine ⟨cap, by simp, run_sliceBounds_slice rfl ?_ ?_, by omega⟩
        · cases hi with
          | none => exact e2
          | some v => exact ⟨e2, by omega⟩
        · cases lo with
          | none => exact e1
          | some v => exact ⟨e1, hl⟩
      | some v =>
        obtain ⟨⟨k, rfl⟩, h3⟩ := e3
        refine ⟨h, by simp, run_sliceBounds_slice ⟨k, rfl, by omega⟩ ?_ ?_, Nat.le_refl _⟩
        · cases hi with
          | none => simp at h3
          | some v => exact ⟨e2, Nat.le_refl _⟩
        · cases lo with
          | none => exact e1
          | some v => exact ⟨e1, hl⟩
    obtain ⟨hb, hhm⟩ := hb
    have hlen : ((rows.take h).drop l).length = h - l := by simp; omega
    have hD' : DRel w G.S (.sl ((rows.take h).drop l)) (.slice (if m = l then ad else ad.map (·.add (l * i'.size))) (h - l) (m - l)) := by
      by_cases hz : h - l = 0
      · have : (rows.take h).drop l = [] := List.eq_nil_of_length_eq_zero (by omega)
        rw [this, hz]; exact .emp _ _
      · have hm' : ¬ m = l := by omega
        rw [if_neg hm']
        cases hD with
        | emp => simp at hh; omega
        | sl _ b o _ sz f h1 h2 h3 h4 h5 =>
          have hs : sz = i'.size := by
            have : 0 < rows.length := by omega
            rw [← h3 0 rows[0] (by simp [this])]; exact hrow _ (List.getElem_mem this)
          subst hs
          simp only [Option.map_some, Addr.add_lit]
          exact drel_cut h2 h3 h4 h5 hh hl (by omega)
    refine Yields.still R (v := .slice (if m = l then ad else ad.map (·.add (l * i'.size))) (h - l) (m - l)) ?_ ?_
    · simp only [Instr.sliceAt, Sem.run_bind, T.run_at ht hd rfl, Result.andThen_ok, Instr.slice, hb, T.run_sizeOf he, Sem.run_pure]
    · cases hmx : mx.isSome with
      | true =>
        have := hm hmx
        subst this
        simp only [if_true]
        exact .c _ _ (.full _ _ (m - l) hlen.symm hD')
      | false => simp only [Bool.false_eq_true, if_false]; exact .c _ _ (.d _ _ hD')

/-- Cutting an array variable whole or in part. -/
theorem yields_slice_arr (T : TTok P tt) {t n e : Nat} {i i' : TI} (ht : tt t = some i) (hd : i.desc = .array n e) (he : tt e = some i') {id off : Nat} {a : Value} (R : Rel w G H) (ha : VRel w G H (.c (.ptr id off)) a) :
    Yields P (Instr.sliceAt t a none none none) w G H (.c (.ms id off n n)) H := by
  obtain ⟨rfl, hid⟩ := ptr_rel ha
  refine Yields.still R (v := .slice (some ⟨G.rho id, off, none⟩) n n) ?_ (.c _ _ (.ms _ _ _ _ hid))
  simp [Instr.sliceAt, T.run_at ht hd rfl, Instr.sureAddr, Instr.sliceBounds, T.run_sizeOf he, Addr.add_lit]

def cutMs (sz id off l h m : Nat) : C := .ms id (if m = l then off else off + l * sz) (h - l) (m - l)
theorem yields_slice_arr2 (T : TTok P tt) {t n e : Nat} {i i' : TI} (ht : tt t = some i) (hd : i.desc = .array n e) (he : tt e = some i') {id off : Nat} {a : Value} (R : Rel w G H) (ha : VRel w G H (.c (.ptr id off)) a) {lo hi mx : Option Value} {l h m : Nat}
    (hm : match mx with | some v => ∃ k, v = .int k m ∧ m ≤ n | none => m = n)
    (hh : match hi, mx with | some v, _ => (∃ k, v = .int k h) ∧ h ≤ m | none, none => h = n | none, some _ => False)
    (hl : match lo with | some v => (∃ k, v = .int k l) ∧ l ≤ h | none => l = 0) :
    Yields P (Instr.sliceAt t a lo hi mx) w G H (.c (cutMs i'.size id off l h m)) H := by
  obtain ⟨rfl, hid⟩ := ptr_rel ha
  have hb := run_sliceBounds_slice (P := P) (w := w) (fl := false) hm hh hl
  refine Yields.still R (v := .slice (some (if m = l then ⟨G.rho id, off, none⟩ else (⟨G.rho id, off, none⟩ : Addr).add (l * i'.size))) (h - l) (m - l)) ?_ ?_
  · simp [Instr.sliceAt, T.run_at ht hd rfl, Instr.sureAddr, hb, T.run_sizeOf he]
  · unfold cutMs
    by_cases e : m = l
    · simp only [e, if_true]; exact .c _ _ (.ms _ _ _ _ hid)
    · simp only [e, if_false, Addr.add_lit]; exact .c _ _ (.ms _ _ _ _ hid)
theorem yields_slice_ms (T : TTok P tt) {t e : Nat} {i i' : TI} (ht : tt t = some i) (hd : i.desc = .slice e) (he : tt e = some i') {id off len cap : Nat} {a : Value} (R : Rel w G H) (ha : CRel w G H (.ms id off len cap) a) {lo hi mx : Option Value} {l h m : Nat}
    (hm : match mx with | some v => ∃ k, v = .int k m ∧ m ≤ cap | none => m = cap)
    (hh : match hi, mx with | some v, _ => (∃ k, v = .int k h) ∧ h ≤ m | none, none => h = len | none, some _ => False)
    (hl : match lo with | some v => (∃ k, v = .int k l) ∧ l ≤ h | none => l = 0) :
    Yields P (Instr.sliceAt t a lo hi mx) w G H (.c (cutMs i'.size id off l h m)) H := by
  cases ha with
  | ms _ _ _ _ hid =>
    have hb := run_sliceBounds_slice (P := P) (w := w) (fl := true) hm hh hl
    refine Yields.still R (v := .slice (if m = l then some ⟨G.rho id, off, none⟩ else (some (⟨G.rho id, off, none⟩ : Addr)).map (·.add (l * i'.size))) (h - l) (m - l)) ?_ ?_
    · simp only [Instr.sliceAt, Sem.run_bind, T.run_at ht hd rfl, Result.andThen_ok, Instr.slice, hb, T.run_sizeOf he, Sem.run_pure]
    · unfold cutMs
      by_cases e : m = l
      · simp only [e, if_true]; exact .c _ _ (.ms _ _ _ _ hid)
      · simp only [e, if_false, Option.map_some, Addr.add_lit]; exact .c _ _ (.ms _ _ _ _ hid)
end
end Go.Abs
/- append. -/
namespace Go.Abs
open Go

theorem flatten_length {sz : Nat} : ∀ {rows : List (List D)}, (∀ r ∈ rows, r.length = sz) → rows.flatten.length = rows.length * sz
  | [], _ => by simp
  | r :: rows, h => by
    rw [List.flatten_cons, List.length_append, flatten_length (fun x hx => h x (by simp [hx])), h r (by simp), List.length_cons, Nat.succ_mul, Nat.add_comm]
theorem flatten_get {sz : Nat} : ∀ {rows : List (List D)}, (∀ r ∈ rows, r.length = sz) → ∀ (i j : Nat) (r : List D), rows[i]? = some r → j < sz → rows.flatten[i * sz + j]? = r[j]?
  | [], _, i, j, r, hr, _ => by simp at hr
  | q :: rows, h, 0, j, r, hr, hj => by
    simp at hr; subst hr
    rw [List.flatten_cons, Nat.zero_mul, Nat.zero_add, List.getElem?_append_left (by rw [h q (by simp)]; exact hj)]
  | q :: rows, h, i + 1, j, r, hr, hj => by
    simp at hr
    have hq := h q (by simp)
    rw [List.flatten_cons, List.getElem?_append_right (by rw [hq, Nat.succ_mul]; omega), hq]
    have : (i + 1) * sz + j - sz = i * sz + j := by rw [Nat.succ_mul]; omega
    rw [this]
    exact flatten_get (fun x hx => h x (by simp [hx])) i j r hr hj
theorem chunk_flatten {sz : Nat} : ∀ {rows : List (List D)} (ex : List D), (∀ r ∈ rows, r.length = sz) → chunk sz rows.length (rows.flatten ++ ex) = rows
  | [], _, _ => rfl
  | r :: rows, ex, h => by
    have hr := h r (by simp)
    have e1 : ((r :: rows).flatten ++ ex).take sz = r := by rw [← hr]; simp
    have e2 : ((r :: rows).flatten ++ ex).drop sz = rows.flatten ++ ex := by rw [← hr]; simp
    have ih := chunk_flatten (sz := sz) (rows := rows) ex (fun x hx => h x (List.mem_cons_of_mem _ hx))
    simp only [List.length_cons, chunk, e1, e2, ih]

section
variable {P : Program} {tt : Nat → Option TI} {w : World} {G : Gh} {H : List AB}

/-- A slice of data, cell by cell. -/
theorem drel_flat {S : Nat → Nat → Prop} {rows : List (List D)} {a : Option Addr} {n cap sz : Nat} (h : DRel w S (.sl rows) (.slice a n cap)) (hu : ∀ r ∈ rows, r.length = sz) (hz : 0 < sz) :
    n = rows.length ∧ (rows ≠ [] → rows.length ≤ lim ∧ n ≤ cap ∧ ∃ b o, a = some ⟨b, o, none⟩ ∧ ∃ f : Nat → Value, (∀ k, k < n * sz → S b (o + k) ∧ w.cell? ⟨b, o + k, none⟩ = some (f k)) ∧ ∀ (k : Nat) (x : D), rows.flatten[k]? = some x → DRel w S x (f k)) := by
  cases h with
  | emp a cap => exact ⟨rfl, fun e => absurd rfl e⟩
  | sl _ b o _ s f hcap hlim hsz hcell hrel =>
    refine ⟨rfl, fun hne => ⟨hlim, hcap, b, o, rfl, fun k => f (k / sz) (k % sz), fun k hk => ?_, fun k x hx => ?_⟩⟩
    · have hp : 0 < rows.length := by
        cases rows with
        | nil => exact absurd rfl hne
        | cons => simp
      have hs : s = sz := by rw [← hsz 0 rows[0] (by simp [hp])]; exact hu _ (List.getElem_mem hp)
      subst hs
      have h1 : k / s < rows.length := Nat.div_lt_of_lt_mul (by rw [Nat.mul_comm]; exact hk)
      have := hcell (k / s) (k % s) h1 (Nat.mod_lt _ hz)
      have e : o + k / s * s + k % s = o + k := by have := Nat.div_add_mod k s; rw [Nat.mul_comm] at this; omega
      rwa [e] at this
    · have hk : k < rows.length * sz := by rw [← flatten_length hu]; exact (List.getElem?_eq_some_iff.1 hx).1
      have h1 : k / sz < rows.length := Nat.div_lt_of_lt_mul (by rw [Nat.mul_comm]; exact hk)
      have e : k / sz * sz + k % sz = k := by have := Nat.div_add_mod k sz; rw [Nat.mul_comm] at this; omega
      have hr : rows[k / sz]? = some rows[k / sz] := by simp [h1]
      have := flatten_get hu (k / sz) (k % sz) _ hr (Nat.mod_lt _ hz)
      rw [e, hx] at this
      exact hrel _ _ _ x hr this.symm

/-- The cells of a slice of data, read. -/
theorem run_firstCells {rows : List (List D)} {a : Option Addr} {n cap sz : Nat} (h : DRel w G.S (.sl rows) (.slice a n cap)) (hu : ∀ r ∈ rows, r.length = sz) (hz : 0 < sz) :
    ∃ vs : List Value, (∀ w' : World, w'.heap = w.heap → (Builtin.firstCells sz n (.slice a n cap)).run P w' = .ok vs.toArray w') ∧ CsRel w G H (rows.flatten.map .d) vs ∧ vs.length = rows.length * sz := by
  obtain ⟨hn, hr⟩ := drel_flat h hu hz
  subst hn
  by_cases he : rows = []
  · subst he
    refine ⟨[], fun w' _ => ?_, CsRel.nil, by simp⟩
    cases a with
    | none => simp [Builtin.firstCells]
    | some x => simp [Builtin.firstCells, loadCells, loadCellsFrom]
  · obtain ⟨_, _, b, o, rfl, f, h1, h2⟩ := hr he
    have hfl := flatten_length hu
    refine ⟨(List.range (rows.length * sz)).map f, fun w' hw => ?_, ?_, by simp⟩
    · simp only [Builtin.firstCells]
      exact run_loadCells w' ⟨b, o, none⟩ _ f (fun j hj => by
        rw [Addr.add_lit, cell_of_heap (w := w) (by rw [hw])]
        exact (h1 j hj).2)
    · rw [← hfl]; exact dcells h2

/-- A slice that fills its array may be appended to under a name of its own. -/
def Gh.adopt (G : Gh) (id : Nat) (a : Option Addr) (cap : Nat) : Gh := { G with g := upd G.g id (a, cap) }

theorem adopt {rows : List (List D)} {v : Value} (R : Rel w G H) (h : CRel w G H (.full rows) v) (sz : Nat) :
    ∃ G', Rel w G' (H ++ [.grow rows.length sz]) ∧ Later w G H w G' (H ++ [.grow rows.length sz]) ∧ CRel w G' (H ++ [.grow rows.length sz]) (.own H.length rows) v := by
  cases h with
  | full _ a n hn h =>
    subst hn
    have L : Later w G H w (G.adopt H.length a rows.length) (H ++ [.grow rows.length sz]) :=
      { size := Nat.le_refl _
        S := fun _ _ h => ⟨h, rfl⟩
        Snew := fun _ _ _ _ h => h
        len := by simp
        rho := fun _ _ => rfl
        grow := fun id n sz' hid h => ⟨n, by rwa [List.getElem?_append_left hid] at h, .inr ⟨rfl, upd_ne _ _ (Nat.ne_of_lt hid)⟩⟩
        vec := fun id n sz' cs hid h => ⟨n, sz', cs, by rwa [List.getElem?_append_left hid] at h, .inr ⟨rfl, upd_ne _ _ (Nat.ne_of_lt hid)⟩⟩
        role := fun _ _ => rfl
        frame := fun _ _ _ => rfl
        os := rfl
        out := rfl }
    refine ⟨G.adopt H.length a rows.length, ⟨R.sex, R.roleLt, fun id x hx => ?_⟩, L, ?_⟩
    · by_cases e : id < H.length
      · rw [List.getElem?_append_left e] at hx
        exact (R.ab id x hx).mono R L e (fun _ _ => rfl) (fun _ _ _ h => h) (upd_ne _ _ (Nat.ne_of_lt e))
      · have : id = H.length := by
          have := (List.getElem?_eq_some_iff.1 hx).1
          simp at this
          omega
        subst this
        simp at hx
        rw [← hx]
        refine .grow _ _ a rows.length (upd_same _ _ _) (Nat.le_refl _) (fun x _ hlt => absurd hlt (Nat.lt_irrefl _)) (fun ha => ?_)
        subst ha
        generalize hr : rows.length = k at h
        cases h with
        | emp => rfl
    · refine .own _ _ a _ _ (by simp) rfl (h.mono L.S) (fun m sz' hm => ?_)
      simp at hm
      exact ⟨by omega, fun _ => upd_same _ _ _⟩

/-- Cells of data written behind what stands, in the same array. -/
theorem own_inplace {id : Nat} {rows new : List (List D)} {sz b o cap : Nat} {us : List Value} (R : Rel w G H) (hid : H[id]? = some (.grow rows.length sz)) (hz : 0 < sz)
    (hu : ∀ r ∈ rows, r.length = sz) (hu' : ∀ r ∈ new, r.length = sz) (hg : G.g id = (some ⟨b, o, none⟩, cap)) (h : DRel w G.S (.sl rows) (.slice (some ⟨b, o, none⟩) rows.length cap))
    (hc : rows.length + new.length ≤ cap) (hn : 0 < new.length) (hus : CsRel w G H (new.flatten.map .d) us) (hl : rows.length + new.length ≤ lim) :
    ∃ w' G', (storeCells ⟨b, o + rows.length * sz, none⟩ us).run P w = .ok () w' ∧ Rel w' G' (H.set id (.grow (rows.length + new.length) sz)) ∧ Later w G H w' G' (H.set id (.grow (rows.length + new.length) sz)) ∧
      CRel w' G' (H.set id (.grow (rows.length + new.length) sz)) (.own id (rows ++ new)) (.slice (some ⟨b, o, none⟩) (rows.length + new.length) cap) := by
  have hidlt : id < H.length := (List.getElem?_eq_some_iff.1 hid).1
  have hul : us.length = new.length * sz := by have := hus.1; rw [List.length_map, flatten_length hu'] at this; omega
  obtain ⟨arr, t, hb, hsz, hrole, hfree⟩ : ∃ arr t, w.heap[b]? = some (.cells arr t (0, 0)) ∧ o + cap * sz ≤ arr.size ∧ G.role b = some id ∧ ∀ j, o + rows.length * sz ≤ j → ¬ G.S b j := by
    cases R.ab id _ hid with
    | grow _ _ a cap' hg' hcap' hsp _ =>
      rw [hg] at hg'
      cases hg'
      obtain ⟨b', o', e, h1, ⟨arr, t, h2, h3⟩, h4⟩ := hsp _ rfl (by omega)
      cases e
      exact ⟨arr, t, h2, h3, h1, h4⟩
  have hmul : (rows.length + new.length) * sz ≤ cap * sz := Nat.mul_le_mul_right sz hc
  rw [Nat.add_mul] at hmul
  have hrun := run_storeCells P (b := b) (off := o + rows.length * sz) (t := t) us 0 w arr hb (by omega) hus.ones
  simp only [Nat.add_zero] at hrun
  let arr' : Array Value := (setMany arr.toList (o + rows.length * sz) us).toArray
  let G' : Gh := { G with S := fun b' j => G.S b' j ∨ (b' = b ∧ o + rows.length * sz ≤ j ∧ j < o + rows.length * sz + new.length * sz) }
  have hget : ∀ j, arr'[j]? = if o + rows.length * sz ≤ j ∧ j < o + rows.length * sz + us.length then us[j - (o + rows.length * sz)]? else arr[j]? := fun j => by
    have := setMany_get us arr.toList (o + rows.length * sz) j (by simp; omega)
    simpa [arr'] using this
  have hsame : (w.putObj b (.cells arr' t (0, 0))).heap[b]? = some (.cells arr' t (0, 0)) := put_same hb
  have hcellb : ∀ j, (w.putObj b (.cells arr' t (0, 0))).cell? ⟨b, j, none⟩ = arr'[j]? := fun j => cell_of_row _ b j arr' t (0, 0) hsame
  have hcell0 : ∀ j, w.cell? ⟨b, j, none⟩ = arr[j]? := fun j => cell_of_row w b j arr t (0, 0) hb
  have L : Later w G H (w.putObj b (.cells arr' t (0, 0))) G' (H.set id (.grow (rows.length + new.length) sz)) :=
    { size := by simp
      S := fun b' j hS => ⟨.inl hS, by
        by_cases e : b' = b
        · subst e
          rw [hcellb, hcell0, hget, if_neg]
          intro hh
          exact hfree j hh.1 hS
        · exact cell_of_heap (put_other e) j⟩
      Snew := fun b' j _ hr hS => by
        rcases hS with hS | ⟨rfl, _⟩
        · exact hS
        · rw [hrole] at hr; cases hr
      len := by simp
      rho := fun _ _ => rfl
      grow := fun id' n sz' hid' hh => by
        by_cases e : id = id'
        · subst e
          simp [hidlt] at hh
          exact ⟨rows.length, by rw [hid, hh.2], .inl (by omega)⟩
        · rw [List.getElem?_set_ne e] at hh
          exact ⟨n, hh, .inr ⟨rfl, rfl⟩⟩
      vec := fun id' n sz' cs hid' hh => by
        by_cases e : id = id'
        · subst e
          simp [hidlt] at hh
        · rw [List.getElem?_set_ne e] at hh
          exact ⟨n, sz', cs, hh, .inr ⟨rfl, rfl⟩⟩
      role := fun _ _ => rfl
      frame := fun b' _ hr => put_other (fun e => by rw [e, hrole] at hr; cases hr)
      os := rfl
      out := rfl }
  have hrest : ∀ j, o + rows.length * sz + new.length * sz ≤ j → ¬ G'.S b j := fun j hj hS => by
    rcases hS with hS | ⟨_, _, h2⟩
    · exact hfree j (by omega) hS
    · omega
  refine ⟨_, G', hrun, ⟨fun b' j hS => ?_, fun b' i hr => by simpa using R.roleLt b' i hr, fun i x hx => ?_⟩, L, ?_⟩
  · rcases hS with hS | ⟨rfl, h1, h2⟩
    · obtain ⟨v, hv⟩ := R.sex b' j hS
      exact ⟨v, ((L.S b' j hS).2).trans hv⟩
    · have hj : j < arr'.size := by simp [arr', setMany_length]; omega
      exact ⟨arr'[j], by rw [hcellb]; simp [hj]⟩
  · by_cases e : id = i
    · subst e
      simp [hidlt] at hx
      rw [← hx]
      refine .grow _ _ (some ⟨b, o, none⟩) cap hg hc (fun x hx hlt => ?_) (fun e => by cases e)
      cases hx
      refine ⟨b, o, rfl, hrole, ⟨arr', t, hsame, by simp [arr', setMany_length]; omega⟩, fun j hj => hrest j (by rw [Nat.add_mul] at hj; omega)⟩
    · rw [List.getElem?_set_ne e] at hx
      refine (R.ab i x hx).mono R L (List.getElem?_eq_some_iff.1 hx).1 (fun b' hb' => put_other (fun e' => by rw [e', hrole] at hb'; exact e (Option.some.inj hb'))) (fun b' j hb' hS => ?_) rfl
      rcases hS with hS | ⟨rfl, _⟩
      · exact hS
      · rw [hrole] at hb'; exact absurd (Option.some.inj hb') e
  · refine .own id (rows ++ new) _ _ cap (by simpa using hidlt) (by simp) ?_ (fun m sz' hm => ?_)
    · have hu2 : ∀ r ∈ rows ++ new, r.length = sz := fun r hr => by
        rcases List.mem_append.1 hr with hr | hr
        · exact hu r hr
        · exact hu' r hr
      have hch := chunk_flatten (sz := sz) (rows := rows ++ new) [] hu2
      rw [List.append_nil, List.length_append] at hch
      rw [← hch]
      have hfl := flatten_length hu2
      rw [List.length_append] at hfl
      refine rows_rel (f := fun k => (arr'[o + k]?).getD undef) hc hl (by omega) (fun k hk => ?_) (fun k x hx => ?_)
      · have hk2 : o + k < arr'.size := by rw [Nat.add_mul] at hk; simp [arr', setMany_length]; omega
        refine ⟨?_, by rw [hcellb]; simp [hk2]⟩
        by_cases hlt : k < rows.length * sz
        · have hne : rows ≠ [] := by intro e; subst e; simp at hlt
          obtain ⟨_, _, b', o', e, f, h1, _⟩ := (drel_flat h hu hz).2 hne
          cases e
          exact .inl (h1 k hlt).1
        · exact .inr ⟨rfl, by omega, by rw [Nat.add_mul] at hk; omega⟩
      · have hk : k < (rows.length + new.length) * sz := by rw [← hfl]; exact (List.getElem?_eq_some_iff.1 hx).1
        rw [Nat.add_mul] at hk
        rw [List.flatten_append] at hx
        have hf1 := flatten_length hu
        rw [hget]
        by_cases hlt : k < rows.length * sz
        · have hne : rows ≠ [] := by intro e; subst e; simp at hlt
          obtain ⟨_, _, b', o', e, f, h1, h2⟩ := (drel_flat h hu hz).2 hne
          cases e
          rw [List.getElem?_append_left (by omega)] at hx
          have hc0 := (h1 k hlt).2
          rw [hcell0] at hc0
          rw [if_neg (by omega), hc0]
          exact (h2 k x hx).mono L.S
        · rw [List.getElem?_append_right (by omega), hf1] at hx
          rw [if_pos (by omega)]
          have e : o + k - (o + rows.length * sz) = k - rows.length * sz := by omega
          rw [e]
          have hlu : k - rows.length * sz < us.length := by omega
          have := hus.2 (k - rows.length * sz) (.d x) us[k - rows.length * sz] (by rw [List.getElem?_map, hx]; rfl) (by simp [hlu])
          simp [hlu]
          cases this.1 with
          | d _ _ hd => exact hd.mono L.S
    · simp [hidlt] at hm
      exact ⟨by simp; omega, fun _ => hg⟩

/-- The array is left behind: all cells of data lie in a new one. -/
theorem own_moved {id : Nat} {rows new : List (List D)} {sz cap : Nat} {t : TypeId} {vs us ex : List Value} (R : Rel w G H) (hid : H[id]? = some (.grow rows.length sz)) (hz : 0 < sz)
    (hu : ∀ r ∈ rows, r.length = sz) (hu' : ∀ r ∈ new, r.length = sz) (hc : rows.length + new.length ≤ cap) (hn : 0 < new.length)
    (hvs : CsRel w G H (rows.flatten.map .d) vs) (hus : CsRel w G H (new.flatten.map .d) us) (hex : ex.length = (cap - (rows.length + new.length)) * sz) (hl : rows.length + new.length ≤ lim) {arr : Array Value} (harr : arr.toList = vs ++ us ++ ex) :
    ∃ G', Rel (w.alloc (.cells arr t)) G' (H.set id (.grow (rows.length + new.length) sz)) ∧ Later w G H (w.alloc (.cells arr t)) G' (H.set id (.grow (rows.length + new.length) sz)) ∧
      CRel (w.alloc (.cells arr t)) G' (H.set id (.grow (rows.length + new.length) sz)) (.own id (rows ++ new)) (.slice (some ⟨w.heap.size, 0, none⟩) (rows.length + new.length) cap) := by
  have hidlt : id < H.length := (List.getElem?_eq_some_iff.1 hid).1
  have hvl : vs.length = rows.length * sz := by have := hvs.1; rw [List.length_map, flatten_length hu] at this; omega
  have hul : us.length = new.length * sz := by have := hus.1; rw [List.length_map, flatten_length hu'] at this; omega
  have hmul : cap * sz = rows.length * sz + new.length * sz + (cap - (rows.length + new.length)) * sz := by
    rw [← Nat.add_mul, ← Nat.add_mul]; congr 1; omega
  have hal : arr.size = cap * sz := by
    have := congrArg List.length harr
    simp at this; omega
  let b := w.heap.size
  let G' : Gh := { S := fun b' j => G.S b' j ∨ (b' = b ∧ j < (rows.length + new.length) * sz), rho := G.rho, g := upd G.g id (some ⟨b, 0, none⟩, cap), role := upd G.role b (some id) }
  have hnew : (w.alloc (.cells arr t)).heap[b]? = some (.cells arr t (0, 0)) := heap_alloc_at w _
  have hcellb : ∀ j, (w.alloc (.cells arr t)).cell? ⟨b, j, none⟩ = arr[j]? := fun j => cell_of_row _ b j arr t (0, 0) hnew
  have L : Later w G H (w.alloc (.cells arr t)) G' (H.set id (.grow (rows.length + new.length) sz)) :=
    { size := by simp
      S := fun b' j hS => ⟨.inl hS, by
        obtain ⟨v, hv⟩ := R.sex b' j hS
        exact cell_of_heap (heap_alloc_lt w _ (World.block_lt_of_cell? w _ hv)) j⟩
      Snew := fun b' j hb' _ hS => by
        rcases hS with hS | ⟨rfl, _⟩
        · exact hS
        · exact absurd hb' (Nat.lt_irrefl _)
      len := by simp
      rho := fun _ _ => rfl
      grow := fun id' n sz' hid' hh => by
        by_cases e : id = id'
        · subst e
          simp [hidlt] at hh
          exact ⟨rows.length, by rw [hid, hh.2], .inl (by omega)⟩
        · rw [List.getElem?_set_ne e] at hh
          exact ⟨n, hh, .inr ⟨rfl, upd_ne _ _ (Ne.symm e)⟩⟩
      vec := fun id' n sz' cs hid' hh => by
        by_cases e : id = id'
        · subst e
          simp [hidlt] at hh
        · rw [List.getElem?_set_ne e] at hh
          exact ⟨n, sz', cs, hh, .inr ⟨rfl, upd_ne _ _ (Ne.symm e)⟩⟩
      role := fun b' hb' => upd_ne _ _ (Nat.ne_of_lt hb')
      frame := fun b' hb' _ => heap_alloc_lt w _ hb'
      os := rfl
      out := rfl }
  refine ⟨G', ⟨fun b' j hS => ?_, fun b' i hr => ?_, fun i x hx => ?_⟩, L, ?_⟩
  · rcases hS with hS | ⟨rfl, h1⟩
    · obtain ⟨v, hv⟩ := R.sex b' j hS
      exact ⟨v, ((L.S b' j hS).2).trans hv⟩
    · have hj : j < arr.size := by rw [Nat.add_mul] at h1; omega
      exact ⟨arr[j], by rw [hcellb]; simp [hj]⟩
  · simp only [World.size_alloc]
    by_cases e : b' = b
    · rw [e]; exact Nat.lt_succ_self _
    · have := R.roleLt b' i (by simpa [G', upd_ne _ _ e] using hr)
      omega
  · by_cases e : id = i
    · subst e
      simp [hidlt] at hx
      rw [← hx]
      refine .grow _ _ (some ⟨b, 0, none⟩) cap (upd_same _ _ _) hc (fun x hx hlt => ?_) (fun e => by cases e)
      cases hx
      refine ⟨b, 0, rfl, upd_same _ _ _, ⟨arr, t, hnew, by omega⟩, fun j hj hS => ?_⟩
      rcases hS with hS | ⟨_, h1⟩
      · exact R.noS_new j hS
      · omega
    · rw [List.getElem?_set_ne e] at hx
      refine (R.ab i x hx).mono R L (List.getElem?_eq_some_iff.1 hx).1 (fun b' hb' => heap_alloc_lt w _ (R.roleLt b' i hb')) (fun b' j hb' hS => ?_) (upd_ne _ _ (Ne.symm e))
      rcases hS with hS | ⟨rfl, _⟩
      · exact hS
      · have := R.roleLt _ _ hb'; exact absurd this (Nat.lt_irrefl _)
  · refine .own id (rows ++ new) _ _ cap (by simpa using hidlt) (by simp) ?_ (fun m sz' hm => ?_)
    · have hu2 : ∀ r ∈ rows ++ new, r.length = sz := fun r hr => by
        rcases List.mem_append.1 hr with hr | hr
        · exact hu r hr
        · exact hu' r hr
      have hch := chunk_flatten (sz := sz) (rows := rows ++ new) [] hu2
      rw [List.append_nil, List.length_append] at hch
      rw [← hch]
      have hfl := flatten_length hu2
      rw [List.length_append] at hfl
      have hall := hvs.append hus
      rw [← List.map_append, ← List.flatten_append] at hall
      refine rows_rel (f := fun k => (arr[0 + k]?).getD undef) hc hl (by omega) (fun k hk => ?_) (fun k x hx => ?_)
      · have hk2 : 0 + k < arr.size := by rw [Nat.add_mul] at hk; omega
        exact ⟨.inr ⟨rfl, by omega⟩, by rw [hcellb]; simp only [hk2, getElem?_pos, Option.getD_some]⟩
      · have hk : k < (rows.length + new.length) * sz := by rw [← hfl]; exact (List.getElem?_eq_some_iff.1 hx).1
        rw [Nat.add_mul] at hk
        have hk2 : k < (vs ++ us).length := by simp; omega
        have := hall.2 k (.d x) (vs ++ us)[k] (by rw [List.getElem?_map, hx]; rfl) (by simp)
        have e : arr[0 + k]? = some (vs ++ us)[k] := by
          rw [Nat.zero_add, ← Array.getElem?_toList, harr, List.getElem?_append_left hk2]; simp
        rw [e, Option.getD_some]
        cases this.1 with
        | d _ _ hd => exact hd.mono L.S
    · simp [hidlt] at hm
      exact ⟨by simp; omega, fun _ => upd_same _ _ _⟩

theorem growBy_le (newLen : Nat) : ∀ (r c : Nat), c ≤ newLen → Builtin.growBy newLen r c ≤ newLen + newLen / 4 + 256
  | 0, c, h => by simp [Builtin.growBy]; omega
  | r + 1, c, h => by
    simp only [Builtin.growBy]
    split
    · omega
    · by_cases h2 : c + (c + 768) / 4 ≤ newLen
      · exact growBy_le newLen r _ h2
      · cases r with
        | zero => simp only [Builtin.growBy]; omega
        | succ r => simp only [Builtin.growBy]; rw [if_pos (by omega)]; omega

theorem nextslicecap_le {need cap : Nat} (h : cap < need) : Builtin.nextslicecap need cap ≤ need + need / 4 + 256 := by
  unfold Builtin.nextslicecap
  split
  · omega
  · split
    · omega
    · exact growBy_le need 4 cap (Nat.le_of_lt h)

theorem yields_append_own' (T : TTok P tt) {t t2 e : Nat} {i i2 i' : TI} (ht : tt t = some i) (hd : i.desc = .slice e) (ht2 : tt t2 = some i2) (hd2 : ∃ e', i2.desc = .slice e') (he : tt e = some i') (hz : 0 < i'.size)
    {id : Nat} {rows new : List (List D)} {s : Value} {ax : Option Addr} {capx : Nat} {us : List Value} {ty : TypeId} (R : Rel w G H) (hid : H[id]? = some (.grow rows.length i'.size)) (hs : CRel w G H (.own id rows) s)
    (hus1 : ∀ w' : World, w'.heap = w.heap → (Builtin.firstCells i'.size new.length (.slice ax new.length capx)).run P w' = .ok us.toArray w') (hus2 : CsRel w G H (new.flatten.map .d) us)
    (hu : ∀ r ∈ rows, r.length = i'.size) (hu' : ∀ r ∈ new, r.length = i'.size) (hb : (rows.length + new.length + (rows.length + new.length) / 4 + 256) * i'.bytes ≤ 281474976710656) (hl : rows.length + new.length ≤ lim) :
    Yields P (Builtin.append_ #[t, t2] ty #[s, .slice ax new.length capx]) w G H (.c (.own id (rows ++ new))) (H.set id (.grow (rows.length + new.length) i'.size)) := by
  obtain ⟨e', hd2⟩ := hd2
  have hidlt : id < H.length := (List.getElem?_eq_some_iff.1 hid).1
  cases hs with
  | own _ _ a n cap _ hn hD hg =>
    subst hn
    obtain ⟨_, hg⟩ := hg _ _ hid
    have hg := hg rfl
    obtain ⟨inf, hi1, hi2⟩ := T.run_bytes he w
    by_cases h0 : new = []
    · subst h0
      simp only [List.flatten_nil, List.map_nil] at hus2
      have hus0 : us = [] := by have := hus2.1; simpa using this.symm
      subst hus0
      have hcap : rows.length ≤ cap := by
        cases R.ab id _ hid with
        | grow _ _ a' cap' hg' hcap' _ _ => rw [hg] at hg'; cases hg'; exact hcap'
      have hset : H.set id (.grow (rows.length + ([] : List (List D)).length) i'.size) = H := by
        simp only [List.length_nil, Nat.add_zero]
        apply List.ext_getElem?
        intro k
        by_cases e : id = k
        · subst e; simp [hidlt]; rw [List.getElem?_eq_getElem hidlt] at hid; exact (Option.some.inj hid).symm
        · rw [List.getElem?_set_ne e]
      rw [hset, List.append_nil]
      refine Yields.still R (v := .slice a rows.length cap) ?_ (.c _ _ (.own id rows a _ cap hidlt rfl hD (fun m sz hm => by rw [hid] at hm; cases hm; exact ⟨Nat.le_refl _, fun _ => hg⟩)))
      have := hus1 w rfl
      simp only [List.length_nil] at this
      cases a <;> simp [Builtin.append_, T.run_at ht hd rfl, T.run_sizeOf he, T.run_at ht2 hd2 rfl, Builtin.lenOf, hcap, this, storeCells]
    · have hnl : 0 < new.length := List.length_pos_iff.2 h0
      by_cases hfit : rows.length + new.length ≤ cap
      · obtain ⟨b, o, rfl⟩ : ∃ b o, a = some ⟨b, o, none⟩ := by
          cases R.ab id _ hid with
          | grow _ _ a' cap' hg' hcap' hsp hnil =>
            rw [hg] at hg'; cases hg'
            cases a with
            | none => have := hnil rfl; omega
            | some x => obtain ⟨b, o, e, _⟩ := hsp x rfl (by omega); exact ⟨b, o, by rw [e]⟩
        obtain ⟨w', G', h1, h2, h3, h4⟩ := own_inplace (P := P) R hid hz hu hu' hg hD hfit hnl hus2 hl
        refine ⟨_, w', G', ?_, .c _ _ h4, h2, h3⟩
        simp [Builtin.append_, T.run_at ht hd rfl, T.run_sizeOf he, T.run_at ht2 hd2 rfl, Builtin.lenOf, hfit, hus1 w rfl, Addr.add_lit, h1]
      · obtain ⟨vs, hvs1, hvs2, hvs3⟩ := run_firstCells (P := P) (H := H) hD hu hz
        obtain ⟨z, hz0, _, hz2, hz3⟩ := T.run_zero he
        have hzs : z.cells.size = i'.size := by have := (zeroCs_rel (w := w) (G := G) (H := H) hz2).1; simp at this; omega
        have hnext : ¬ (Builtin.nextslicecap (rows.length + new.length) cap * inf.bytes > 2 ^ 48) := by
          have := nextslicecap_le (need := rows.length + new.length) (cap := cap) (by omega)
          rw [hi2]
          have := Nat.mul_le_mul_right i'.bytes this
          omega
        have hint : ¬ (((rows.length + new.length : Nat) : Int) > IntKind.i64.max ∧ (false = true ∨ inf.bytes = 0)) := by
          intro h
          have h1 := h.1
          have : IntKind.i64.max = 9223372036854775807 := by decide
          rw [this] at h1
          have : (lim : Nat) = 140737488355328 := rfl
          omega
        have hint' : ¬ (((rows.length + new.length : Nat) : Int) > IntKind.i64.max ∧ (False ∨ inf.bytes = 0)) := fun h => hint ⟨h.1, by simpa using h.2⟩
        let q := Question.appendCap (rows.length + new.length) cap e
        let newCap := q.cut (w.tape w.drawn q)
        have hnc : rows.length + new.length ≤ newCap := by
          show _ ≤ (rows.length + new.length) + _
          omega
        obtain ⟨R1, L1⟩ := Rel.of_heap (w := w) (w' := w.drew) rfl R
        let arr : Array Value := vs.toArray ++ us.toArray ++ Builtin.zeroCells z.cells (newCap - (rows.length + new.length))
        have hzl : (Builtin.zeroCells z.cells (newCap - (rows.length + new.length))).toList = zc z.cells.toList (newCap - (rows.length + new.length)) := rangeMap_toList _ _
        obtain ⟨G', h2, h3, h4⟩ := own_moved (w := w.drew) (t := e) R1 hid hz hu hu' hnc hnl (hvs2.mono L1) (hus2.mono L1) (ex := zc z.cells.toList (newCap - (rows.length + new.length))) (by rw [zc_length]; simp [hzs]) hl (arr := arr) (by simp [arr, hzl])
        refine ⟨_, _, G', ?_, .c _ _ h4, h2, L1.trans h3⟩
        have hq : q.forced = false := rfl
        have hfit' : ¬ (rows.length + new.length ≤ cap) := hfit
        have hz0' := fun w' => hz0 w'
        have hi1' : ∀ w' : World, (typeInfo e).run P w' = .ok inf w' := fun w' => by
          have := hi1
          simp only [typeInfo, Sem.run_bind, run_program, Result.andThen_ok] at this ⊢
          cases hinf : P.info? e with
          | none => simp [hinf] at this
          | some x => simp [hinf] at this ⊢; exact this
        have hch : (choose (Question.appendCap (rows.length + new.length) cap e)).run P w = .ok newCap w.drew := by
          rw [run_choose]; rfl
        simp only [Builtin.append_, List.getElem?_toArray, List.getElem?_cons_zero, List.getElem?_cons_succ, Sem.run_bind, T.run_at ht hd rfl, Result.andThen_ok, T.run_sizeOf he, T.run_at ht2 hd2 rfl, Builtin.lenOf, Sem.run_pure, Bool.false_eq_true, if_false, hfit', hi1', if_neg hint', if_neg hnext, hch, run_askRoom, Bool.not_false, if_true, hvs1 w.drew rfl, hus1 w.drew rfl, hz0']
        simp only [newRow, Sem.run_bind, run_newObj, Result.andThen_ok, Sem.run_pure]
        rfl

theorem yields_append_own (T : TTok P tt) {t t2 e : Nat} {i i2 i' : TI} (ht : tt t = some i) (hd : i.desc = .slice e) (ht2 : tt t2 = some i2) (hd2 : ∃ e', i2.desc = .slice e') (he : tt e = some i') (hz : 0 < i'.size)
    {id : Nat} {rows new : List (List D)} {y : C} {s x : Value} {ty : TypeId} (R : Rel w G H) (hid : H[id]? = some (.grow rows.length i'.size)) (hs : CRel w G H (.own id rows) s) (hy : rowsOf y = some new) (hx : CRel w G H y x)
    (hu : ∀ r ∈ rows, r.length = i'.size) (hu' : ∀ r ∈ new, r.length = i'.size) (hb : (rows.length + new.length + (rows.length + new.length) / 4 + 256) * i'.bytes ≤ 281474976710656) (hl : rows.length + new.length ≤ lim) :
    Yields P (Builtin.append_ #[t, t2] ty #[s, x]) w G H (.c (.own id (rows ++ new))) (H.set id (.grow (rows.length + new.length) i'.size)) := by
  obtain ⟨ax, capx, rfl, hDx⟩ := rowsOf_rel hy hx
  obtain ⟨us, hus1, hus2, _⟩ := run_firstCells (P := P) (H := H) hDx hu' hz
  exact yields_append_own' T ht hd ht2 hd2 he hz R hid hs hus1 hus2 hu hu' hb hl

/-- The rows of a source: data, or the cells of an owned block that are data. -/
def srcRows (H : List AB) (sz : Nat) : C → Option (List (List D))
  | .ms id off len _ => match H[id]? with
    | some (.cells cs) => if off + len * sz ≤ cs.length then (toDs ((cs.drop off).take (len * sz))).map (chunk sz len) else none
    | _ => none
  | c => rowsOf c

theorem chunk_flat {α : Type} {sz : Nat} : ∀ (n : Nat) (l : List α), l.length = n * sz → (chunk sz n l).flatten = l
  | 0, l, h => by have : l = [] := List.eq_nil_of_length_eq_zero (by simpa using h); subst this; rfl
  | n + 1, l, h => by
    rw [chunk, List.flatten_cons, chunk_flat n _ (by rw [List.length_drop, h, Nat.succ_mul]; omega), List.take_append_drop]

theorem src_of {c : C} {sz : Nat} {new : List (List D)} {v : Value} (hz : 0 < sz) (R : Rel w G H) (h : srcRows H sz c = some new) (hu' : ∀ r ∈ new, r.length = sz) (hv : CRel w G H c v) :
    ∃ ax capx us, v = .slice ax new.length capx ∧ (∀ w' : World, w'.heap = w.heap → (Builtin.firstCells sz new.length (.slice ax new.length capx)).run P w' = .ok us.toArray w') ∧ CsRel w G H (new.flatten.map .d) us := by
  cases c with
  | ms id off len cap =>
    simp only [srcRows] at h
    split at h
    · rename_i cs hid
      split at h
      · rename_i hle
        simp only [Option.map_eq_some_iff] at h
        obtain ⟨ds, h1, rfl⟩ := h
        cases hv with
        | ms _ _ _ _ hidl =>
          obtain ⟨arr, t, hb, hr⟩ := cells_at R hid
          have hl := hr.1
          have hr' := (hr.drop off).take (len * sz)
          obtain ⟨g1, g2⟩ := toDs_rel h1
          have hlen : ((arr.toList.drop off).take (len * sz)).length = len * sz := by rw [List.length_take, List.length_drop, ← hl]; omega
          have hdl : ds.length = len * sz := by rw [← g1, List.length_take, List.length_drop]; omega
          refine ⟨_, cap, (arr.toList.drop off).take (len * sz), by rw [chunk_length], fun w' hw => ?_, ?_⟩
          · rw [chunk_length]
            have := run_loadCells_list (P := P) w' ⟨G.rho id, off, none⟩ ((arr.toList.drop off).take (len * sz)) (fun j v hj => by
              rw [Addr.add_lit, cell_of_heap (w := w) (by rw [hw]), cell_arr hb]
              rw [List.getElem?_take] at hj
              split at hj
              · rwa [List.getElem?_drop] at hj
              · cases hj)
            rw [hlen] at this
            simpa [Builtin.firstCells] using this
          · rw [chunk_flat _ _ hdl]
            refine ⟨by rw [List.length_map, hdl, hlen], fun i x v hx hv => ?_⟩
            have hlt : i < ((cs.drop off).take (len * sz)).length := by rw [g1]; simpa using (List.getElem?_eq_some_iff.1 hx).1
            have hc := List.getElem?_eq_getElem hlt
            obtain ⟨y, hy1, hy2⟩ := g2 i _ hc
            rw [List.getElem?_map, hy1] at hx
            cases hx
            obtain ⟨a1, a2⟩ := hr'.2 i _ v hc hv
            exact ⟨.d _ _ (toD_rel hy2 a1), a2⟩
      · cases h
    · cases h
  | _ =>
    simp only [srcRows] at h
    obtain ⟨ax, capx, rfl, hDx⟩ := rowsOf_rel h hv
    obtain ⟨us, hus1, hus2, _⟩ := run_firstCells (P := P) (H := H) hDx hu' hz
    exact ⟨ax, capx, us, rfl, hus1, hus2⟩
end
end Go.Abs
/- Numbers and equality. -/
namespace Go.Abs
open Go

def eqC : C → C → Option Bool
  | .d (.int k a), .d (.int k' b) => if k = k' then some (decide (a = b)) else none
  | _, _ => none
def eqCs : List C → List C → Option Bool
  | [], [] => some true
  | x :: xs, y :: ys => match eqC x y, eqCs xs ys with
    | some a, some b => some (a && b)
    | _, _ => none
  | _, _ => none

/-- Types whose values are numbers, one behind the other. -/
def flatB (P : Program) (tt : Nat → Option TI) : Nat → Nat → Bool
  | 0, _ => false
  | n + 1, t => match tt t with
    | some i => match i.desc with
      | .int _ => i.size == 1
      | .struct _ => match P.underlying t with
        | some (.struct fs) => !P.stoodInHeld t && (fs.toList.foldl (fun (a : Bool × Nat) f => (a.1 && f.name != "_" && f.offset == a.2 && flatB P tt n f.type && (tt f.type).isSome, a.2 + ((tt f.type).map (·.size)).getD 0)) (true, 0)) == (true, i.size)
        | _ => false
      | .array len e => flatB P tt n e && (tt e).isSome && i.size == len * ((tt e).map (·.size)).getD 0
      | _ => false
    | none => false

theorem eqCs_append : ∀ {a b c d : List C} {p q : Bool}, eqCs a b = some p → eqCs c d = some q → eqCs (a ++ c) (b ++ d) = some (p && q)
  | [], [], c, d, p, q, h, h' => by simp [eqCs] at h; subst h; simpa using h'
  | x :: a, y :: b, c, d, p, q, h, h' => by
    simp only [eqCs] at h
    split at h
    · rename_i u v hu hv
      cases h
      simp only [List.cons_append, eqCs, hu, eqCs_append hv h', Bool.and_assoc]
    · cases h
  | [], _ :: _, _, _, _, _, h, _ => by simp [eqCs] at h
  | _ :: _, [], _, _, _, _, h, _ => by simp [eqCs] at h
theorem eqCs_split : ∀ (n : Nat) {a b : List C} {p : Bool}, eqCs a b = some p → ∃ q r, eqCs (a.take n) (b.take n) = some q ∧ eqCs (a.drop n) (b.drop n) = some r ∧ p = (q && r)
  | 0, a, b, p, h => ⟨true, p, by simp [eqCs], by simpa using h, by simp⟩
  | n + 1, [], [], p, h => by simp [eqCs] at h; subst h; exact ⟨true, true, by simp [eqCs], by simp [eqCs], rfl⟩
  | n + 1, x :: a, y :: b, p, h => by
    simp only [eqCs] at h
    split at h
    · rename_i u v hu hv
      cases h
      obtain ⟨q, r, h1, h2, h3⟩ := eqCs_split n hv
      exact ⟨u && q, r, by simp [eqCs, hu, h1], by simpa using h2, by rw [h3, Bool.and_assoc]⟩
    · cases h
  | n + 1, [], _ :: _, _, h => by simp [eqCs] at h
  | n + 1, _ :: _, [], _, h => by simp [eqCs] at h

section
variable {P : Program} {tt : Nat → Option TI} {w : World} {G : Gh} {H : List AB}

theorem eqC_one {x y : C} {v u : Value} {b : Bool} (h : eqC x y = some b) (hv : CRel w G H x v) (hu : CRel w G H y u) : ∃ k m n, v = .int k m ∧ u = .int k n ∧ b = decide (m = n) := by
  unfold eqC at h
  split at h
  · rename_i k a k' c
    split at h
    · rename_i e
      subst e
      cases h
      cases hv with | d _ _ hv => cases hv; cases hu with | d _ _ hu => cases hu; exact ⟨_, _, _, rfl, rfl, rfl⟩
    · cases h
  · cases h

/-- A part that is compared. -/
def EqAt (P : Program) (w : World) (d t : Nat) (xs ys : Array Value) (off : Nat) (b : Bool) : Prop :=
  ∃ v u, (part t xs off).run P w = .ok v w ∧ (part t ys off).run P w = .ok u w ∧ (Op.equalIn d t v u).run P w = .ok b w

theorem eqAt_flat (T : TTok P tt) : ∀ (n t : Nat) (i : TI), tt t = some i → flatB P tt n t = true → ∀ (d : Nat), n ≤ d → ∀ (cs cs' : List C) (xs ys : Array Value) (off : Nat) (b : Bool), CsRel w G H cs xs.toList → CsRel w G H cs' ys.toList →
    off + i.size ≤ cs.length → off + i.size ≤ cs'.length → eqCs ((cs.drop off).take i.size) ((cs'.drop off).take i.size) = some b → EqAt P w d t xs ys off b
  | 0, t, i, _, hf, _, _, _, _, _, _, _, _, _, _, _, _, _ => by simp [flatB] at hf
  | n + 1, t, i, ht, hf, d, hd, cs, cs', xs, ys, off, b, hx, hy, hl, hl', he => by
    obtain ⟨d, rfl⟩ : ∃ k, d = k + 1 := ⟨d - 1, by omega⟩
    have hlx : cs.length = xs.size := by have := hx.1; simpa using this
    have hly : cs'.length = ys.size := by have := hy.1; simpa using this
    simp only [flatB, ht] at hf
    -- one cell
    have single : isAggD i.desc = false → i.size = 1 → (∀ (k : IntKind) (m n : Int), b = decide (m = n) → (Op.equalIn (d + 1) t (.int k m) (.int k n)).run P w = .ok b w) → EqAt P w (d + 1) t xs ys off b := fun ha h1 hrun => by
      have hox : off < cs.length := by omega
      have hoy : off < cs'.length := by omega
      obtain ⟨v, hv, hvx, _⟩ := hx.get (i := off) (x := cs[off]) (by simp [hox])
      obtain ⟨u, hu, huy, _⟩ := hy.get (i := off) (x := cs'[off]) (by simp [hoy])
      have e1 : (cs.drop off).take i.size = [cs[off]] := by rw [h1, List.drop_eq_getElem_cons hox]; rfl
      have e2 : (cs'.drop off).take i.size = [cs'[off]] := by rw [h1, List.drop_eq_getElem_cons hoy]; rfl
      rw [e1, e2] at he
      simp only [eqCs] at he
      split at he
      · rename_i p q hp hq
        cases hq
        cases he
        obtain ⟨k, m, n, rfl, rfl, hb⟩ := eqC_one hp hvx huy
        exact ⟨.int k m, .int k n, by simp [part, T.run_isAgg ht, ha, show xs[off]? = some _ by simpa using hv], by simp [part, T.run_isAgg ht, ha, show ys[off]? = some _ by simpa using hu], hrun k m n (by simpa using hb)⟩
      · cases he
    have agg : isAggD i.desc = true → (∀ (xs' ys' : Array Value), CsRel w G H ((cs.drop off).take i.size) xs'.toList → CsRel w G H ((cs'.drop off).take i.size) ys'.toList → (Op.equalIn (d + 1) t (.agg xs') (.agg ys')).run P w = .ok b w) → EqAt P w (d + 1) t xs ys off b := fun ha hrun => by
      refine ⟨.agg (xs.extract off (off + i.size)), .agg (ys.extract off (off + i.size)), by simp [part, T.run_isAgg ht, ha, T.run_sizeOf ht], by simp [part, T.run_isAgg ht, ha, T.run_sizeOf ht], hrun _ _ ?_ ?_⟩
      · have e : (xs.extract off (off + i.size)).toList = (xs.toList.drop off).take i.size := by simp
        rw [e]; exact (hx.drop off).take i.size
      · have e : (ys.extract off (off + i.size)).toList = (ys.toList.drop off).take i.size := by simp
        rw [e]; exact (hy.drop off).take i.size
    have tl : ((cs.drop off).take i.size).length = i.size := by simp; omega
    have tl' : ((cs'.drop off).take i.size).length = i.size := by simp; omega
    cases hdesc : i.desc with
    | int k0 =>
      simp only [hdesc, beq_iff_eq] at hf
      refine single (by rw [hdesc]; rfl) hf (fun k m n hb => ?_)
      rw [run_equalIn_int w d t k k0 m n (T.desc_at ht hdesc rfl), hb]
      rfl
    | struct fs0 =>
      obtain ⟨fs, hu, _⟩ := T.desc_struct ht hdesc
      simp only [hdesc, hu, Bool.and_eq_true, Bool.not_eq_true'] at hf
      obtain ⟨hst, hfold⟩ := hf
      refine agg (by rw [hdesc]; rfl) (fun xs' ys' hx' hy' => ?_)
      have hf0 : P.fieldsOf t = fs := by simp [Program.fieldsOf, hu]
      rw [run_equalIn_struct w d t xs' ys' (by rw [hf0, hu]) hst, hf0]
      generalize hA : (cs.drop off).take i.size = A at *
      generalize hB : (cs'.drop off).take i.size = B at *
      clear hA hB single agg
      have key : ∀ (fl : List Field) (k : Nat) (ok : Bool) (r : Bool), (fl.foldl (fun (a : Bool × Nat) f => (a.1 && f.name != "_" && f.offset == a.2 && flatB P tt n f.type && (tt f.type).isSome, a.2 + ((tt f.type).map (·.size)).getD 0)) (ok, k)) = (true, i.size) →
          eqCs (A.drop k) (B.drop k) = some r → (Op.eqFields d xs' ys' fl).run P w = .ok r w := by
        intro fl
        induction fl with
        | nil =>
          intro k ok r hk hr
          simp at hk
          obtain ⟨_, rfl⟩ := hk
          rw [List.drop_eq_nil_of_le (by omega), List.drop_eq_nil_of_le (by omega)] at hr
          simp [eqCs] at hr
          subst hr
          simp [Op.eqFields]
        | cons f fl ih =>
          intro k ok r hk hr
          simp only [List.foldl_cons] at hk
          have hok : ∀ (fl : List Field) (a : Bool × Nat), (fl.foldl (fun (a : Bool × Nat) f => (a.1 && f.name != "_" && f.offset == a.2 && flatB P tt n f.type && (tt f.type).isSome, a.2 + ((tt f.type).map (·.size)).getD 0)) a).1 = true → a.1 = true := by
            intro fl
            induction fl with
            | nil => intro a h; exact h
            | cons g fl ih => intro a h; have := ih _ h; simp at this; exact this.1.1.1.1
          have hle : ∀ (fl : List Field) (a : Bool × Nat), a.2 ≤ (fl.foldl (fun (a : Bool × Nat) f => (a.1 && f.name != "_" && f.offset == a.2 && flatB P tt n f.type && (tt f.type).isSome, a.2 + ((tt f.type).map (·.size)).getD 0)) a).2 := by
            intro fl
            induction fl with
            | nil => intro a; exact Nat.le_refl _
            | cons g fl ih => intro a; rw [List.foldl_cons]; exact Nat.le_trans (Nat.le_add_right _ _) (ih (a.1 && g.name != "_" && g.offset == a.2 && flatB P tt n g.type && (tt g.type).isSome, a.2 + ((tt g.type).map (·.size)).getD 0))
          have h1 := hok fl _ (by rw [hk])
          have h2 := hle fl (ok && f.name != "_" && f.offset == k && flatB P tt n f.type && (tt f.type).isSome, k + ((tt f.type).map (·.size)).getD 0)
          rw [hk] at h2
          simp only [Bool.and_eq_true, bne_iff_ne, ne_eq, beq_iff_eq] at h1
          obtain ⟨⟨⟨⟨_, hnm⟩, ho⟩, hfl⟩, hs⟩ := h1
          obtain ⟨i', hi'⟩ := Option.isSome_iff_exists.1 hs
          simp only [hi', Option.map_some, Option.getD_some] at h2 hk
          obtain ⟨q, r', e1, e2, e3⟩ := eqCs_split i'.size hr
          obtain ⟨v, u, p1, p2, p3⟩ := eqAt_flat T n f.type i' hi' hfl d (by omega) A B xs' ys' f.offset q hx' hy' (by rw [ho]; omega) (by rw [ho]; omega) (by rw [ho]; exact e1)
          simp only [Op.eqFields, ne_eq, hnm, not_false_eq_true, if_true, Sem.run_bind, p1, p2, p3, Result.andThen_ok]
          have ih' := ih (k + i'.size) _ r' hk (by rw [List.drop_drop, List.drop_drop] at e2; exact e2)
          cases q with
          | true => simp at e3; subst e3; simpa using ih'
          | false => simp at e3; subst e3; simp
      simp only [beq_iff_eq] at hfold
      exact key fs.toList 0 true b hfold (by simpa using he)
    | array len e =>
      simp only [hdesc, Bool.and_eq_true, beq_iff_eq] at hf
      obtain ⟨⟨hfl, hs⟩, hsz⟩ := hf
      obtain ⟨i', hi'⟩ := Option.isSome_iff_exists.1 hs
      simp only [hi', Option.map_some, Option.getD_some] at hsz
      refine agg (by rw [hdesc]; rfl) (fun xs' ys' hx' hy' => ?_)
      generalize hA : (cs.drop off).take i.size = A at *
      generalize hB : (cs'.drop off).take i.size = B at *
      clear hA hB single agg
      simp only [Op.equalIn, Sem.run_bind, T.run_at ht hdesc rfl, Result.andThen_ok, T.run_sizeOf hi']
      rw [Std.Legacy.Range.forIn_eq_forIn_range']
      have key : ∀ (m k : Nat) (r : Bool), k + m = len → eqCs (A.drop (k * i'.size)) (B.drop (k * i'.size)) = some r →
          ∃ s, (forIn (List.range' k m) ((none : Option Bool), ()) (fun j (_ : Option Bool × Unit) => (do
            let __do_lift ← part e xs' (j * i'.size)
            let __do_lift_1 ← part e ys' (j * i'.size)
            let __do_lift ← Op.equalIn d e __do_lift __do_lift_1
            if (!__do_lift) = true then pure (ForInStep.done (some false, ())) else pure (ForInStep.yield (none, ())) : Sem (ForInStep (Option Bool × Unit))))).run P w = .ok (s, ()) w ∧ s.getD true = r := by
        intro m
        induction m with
        | zero =>
          intro k r hk hr
          have : k = len := by omega
          subst this
          rw [List.drop_eq_nil_of_le (by omega), List.drop_eq_nil_of_le (by omega)] at hr
          simp [eqCs] at hr
          exact ⟨none, by simp, by simp [hr]⟩
        | succ m ih =>
          intro k r hk hr
          have hmul : (k + 1) * i'.size ≤ len * i'.size := Nat.mul_le_mul_right _ (by omega)
          rw [Nat.succ_mul] at hmul
          obtain ⟨q, r', e1, e2, e3⟩ := eqCs_split i'.size hr
          obtain ⟨v, u, p1, p2, p3⟩ := eqAt_flat T n e i' hi' hfl d (by omega) A B xs' ys' (k * i'.size) q hx' hy' (by omega) (by omega) e1
          simp only [List.range'_succ, List.forIn_cons, Sem.run_bind, p1, p2, p3, Result.andThen_ok]
          cases q with
          | true =>
            have e3' : r = r' := by simpa using e3
            subst e3'
            obtain ⟨s, h1, h2⟩ := ih (k + 1) r (by omega) (by rw [List.drop_drop, List.drop_drop] at e2; rw [Nat.succ_mul]; exact e2)
            refine ⟨s, ?_, h2⟩
            simpa using h1
          | false => simp at e3; subst e3; exact ⟨some false, by simp, rfl⟩
      obtain ⟨s, h1, h2⟩ := key len 0 b (by omega) (by simpa using he)
      have e0 : (List.range' ([:len] : Std.Legacy.Range).start ([:len] : Std.Legacy.Range).size ([:len] : Std.Legacy.Range).step) = List.range' 0 len := by simp [Std.Legacy.Range.size]
      rw [e0, h1]
      cases s with
      | none => simp at h2; subst h2; simp
      | some x => simp at h2; subst h2; simp
    | _ => simp [hdesc] at hf
end
end Go.Abs
/- Operators and builtins. -/
namespace Go.Abs
open Go

structure Tx where
  P : Program
  tt : Nat → Option TI
  vm : Bool := false
  eqs : Nat → Bool
  ok : TTok P tt
  eok : ∀ t, eqs t = true → flatB P tt 20 t = true ∧ P.eqGuardType P.depth t = false

abbrev I (n : Int) : V := .c (.d (.int .i64 n))
abbrev B (b : Bool) : V := .c (.d (.bool b))

def intOp (op : BinOp) (k : IntKind) (a b : Int) : Option (Bool × V) :=
  match op with
  | .add => some (true, .c (.d (.int k (wr k (a + b)))))
  | .sub => some (true, .c (.d (.int k (wr k (a - b)))))
  | .mul => some (true, .c (.d (.int k (wr k (a * b)))))
  | .quo => some (!decide (b = 0), .c (.d (.int k (wr k (a.tdiv b)))))
  | .rem => some (!decide (b = 0), .c (.d (.int k (a.tmod b))))
  | .and => some (true, .c (.d (.int k (bits .and k a b))))
  | .or => some (true, .c (.d (.int k (bits .or k a b))))
  | .xor => some (true, .c (.d (.int k (bits .xor k a b))))
  | .andNot => some (true, .c (.d (.int k (bits .andNot k a b))))
  | .eql => some (true, B (decide (a = b)))
  | .neq => some (true, B (!decide (a = b)))
  | .lss => some (true, B (decide (a < b)))
  | .leq => some (true, B (decide (a ≤ b)))
  | .gtr => some (true, B (decide (b < a)))
  | .geq => some (true, B (decide (b ≤ a)))
  | _ => none

def binV (X : Tx) (op : BinOp) (t : Nat) (x y : V) : Option (Bool × V) :=
  match x, y with
  | .c (.d (.int k a)), .c (.d (.int k' b)) =>
    match op with
    | .shl => some (decide (0 ≤ b), .c (.d (.int k (wr k (a * 2 ^ min b.toNat k.bits)))))
    | .shr => some (decide (0 ≤ b), .c (.d (.int k (a.fdiv (2 ^ min b.toNat k.bits)))))
    | _ => if k = k' then intOp op k a b else none
  | .c (.d (.bool a)), .c (.d (.bool b)) =>
    match X.tt t with
    | some i => match i.desc with
      | .bool => match op with
        | .eql => some (true, B (a == b))
        | .neq => some (true, B (a != b))
        | _ => none
      | _ => none
    | none => none
  | .agg xs, .agg ys =>
    match X.tt t with
    | some i =>
      if X.eqs t && isAggD i.desc then
        match eqCs xs ys, op with
        | some b, .eql => some (decide (xs.length = i.size) && decide (ys.length = i.size), B b)
        | some b, .neq => some (decide (xs.length = i.size) && decide (ys.length = i.size), B (!b))
        | _, _ => none
      else none
    | none => none
  | .c p, .c .nilp =>
    match X.tt t with
    | some i => match i.desc with
      | .pointer _ =>
        match p, op with
        | .nilp, .eql => some (true, B true)
        | .nilp, .neq => some (true, B false)
        | .ptr _ _, .eql => some (true, B false)
        | .ptr _ _, .neq => some (true, B true)
        | .dp _, .eql => some (true, B false)
        | .dp _, .neq => some (true, B true)
        | _, _ => none
      | _ => none
    | none => none
  | _, _ => none

section
variable {X : Tx} {w : World} {G : Gh} {H : List AB}

theorem intOp_run {op : BinOp} {k : IntKind} {a b : Int} {z : V} (h : intOp op k a b = some (true, z)) (hsh : op ≠ .shl) (hsr : op ≠ .shr) (t : Nat) (P : Program) : ∃ v, (binOp op t (.int k a) (.int k b)).run P w = .ok v w ∧ VRel w G H z v := by
  have mk : ∀ n : Int, VRel w G H (.c (.d (.int k n))) (.int k n) := fun n => .c _ _ (.d _ _ (.int _ _))
  have mb : ∀ b : Bool, VRel w G H (B b) (.bool b) := fun n => .c _ _ (.d _ _ (.bool _))
  cases op <;> simp [intOp] at h
  case add => subst h; exact ⟨.int k (k.wrap (a + b)), by simp [binOp, Op.intArith], by rw [wr_eq]; exact mk _⟩
  case sub => subst h; exact ⟨.int k (k.wrap (a - b)), by simp [binOp, Op.intArith], by rw [wr_eq]; exact mk _⟩
  case mul => subst h; exact ⟨.int k (k.wrap (a * b)), by simp [binOp, Op.intArith], by rw [wr_eq]; exact mk _⟩
  case quo => obtain ⟨h0, rfl⟩ := h; exact ⟨.int k (k.wrap (a.tdiv b)), by simp [binOp, Op.intDiv, h0], by rw [wr_eq]; exact mk _⟩
  case rem => obtain ⟨h0, rfl⟩ := h; exact ⟨.int k (a.tmod b), by simp [binOp, Op.intDiv, h0], mk _⟩
  case and => subst h; exact ⟨_, by rw [binOp_and]; rfl, mk _⟩
  case or => subst h; exact ⟨_, by rw [binOp_or]; rfl, mk _⟩
  case xor => subst h; exact ⟨_, by rw [binOp_xor]; rfl, mk _⟩
  case andNot => subst h; exact ⟨_, by rw [binOp_andNot]; rfl, mk _⟩
  case eql => subst h; exact ⟨.bool (decide (a = b)), by simp [binOp, Op.intCmp]; rfl, mb _⟩
  case neq => subst h; exact ⟨.bool (!decide (a = b)), by simp [binOp, Op.intCmp]; rfl, mb _⟩
  case lss => subst h; exact ⟨.bool (decide (a < b)), by simp [binOp, Op.intCmp], mb _⟩
  case leq => subst h; exact ⟨.bool (decide (a ≤ b)), by simp [binOp, Op.intCmp], mb _⟩
  case gtr => subst h; exact ⟨.bool (decide (b < a)), by simp [binOp, Op.intCmp], mb _⟩
  case geq => subst h; exact ⟨.bool (decide (b ≤ a)), by simp [binOp, Op.intCmp], mb _⟩

theorem eqGuard_one {op : BinOp} {t : Nat} {x y : Operand} {v u : Value} (P : Program) (hv : v.oneCell' = true) (hn : v ≠ .nilIface) : (eqGuard op t x y v u).run P w = .ok () w := by
  cases op <;> cases v <;> simp [eqGuard, Value.oneCell'] at hv hn ⊢

theorem equalIn_nil1 {P : Program} {t e : Nat} (hu : P.underlying t = some (.pointer e)) (d : Nat) (a : Addr) : (Op.equalIn (d + 1) t (.pointer (some a)) (.pointer none)).run P w = .ok false w := by
  simp only [Op.equalIn, Sem.run_bind, Go.run_underlying hu, Result.andThen_ok, Sem.run_pure]
theorem equalIn_nil2 {P : Program} {t e : Nat} (hu : P.underlying t = some (.pointer e)) (d : Nat) : (Op.equalIn (d + 1) t (.pointer none) (.pointer none)).run P w = .ok true w := by
  simp only [Op.equalIn, Sem.run_bind, Go.run_underlying hu, Result.andThen_ok, Sem.run_pure, Option.isNone_none]

theorem yields_binOp {op : BinOp} {t : Nat} {x y : Operand} {p q z : V} {v u : Value} (R : Rel w G H) (hp : VRel w G H p v) (hq : VRel w G H q u) (h : binV X op t p q = some (true, z)) :
    Yields X.P (do eqGuard op t x y v u; binOp op t v u) w G H z H := by
  have still : ∀ r, (binOp op t v u).run X.P w = .ok r w → VRel w G H z r → (eqGuard op t x y v u).run X.P w = .ok () w → Yields X.P (do eqGuard op t x y v u; binOp op t v u) w G H z H := fun r h1 h2 h3 =>
    Yields.still R (v := r) (by simp only [Sem.run_bind, h3, Result.andThen_ok, h1]) h2
  have mk : ∀ (k : IntKind) (n : Int), VRel w G H (.c (.d (.int k n))) (.int k n) := fun _ n => .c _ _ (.d _ _ (.int _ _))
  have mb : ∀ b : Bool, VRel w G H (B b) (.bool b) := fun n => .c _ _ (.d _ _ (.bool _))
  unfold binV at h
  split at h
  · -- numbers
    rename_i k a k' b
    obtain rfl := int_rel hp
    obtain rfl := int_rel hq
    have hg := eqGuard_one (w := w) (op := op) (t := t) (x := x) (y := y) (u := .int k' b) X.P (v := .int k a) rfl (by simp)
    split at h
    · simp at h
      obtain ⟨h0, rfl⟩ := h
      refine still _ ?_ (by rw [wr_eq]; exact mk _ _) hg
      simp [binOp, Op.shift, Int.not_lt.2 h0]
    · simp at h
      obtain ⟨h0, rfl⟩ := h
      refine still _ ?_ (mk _ _) hg
      simp [binOp, Op.shift, Int.not_lt.2 h0]
    · rename_i h1 h2
      split at h
      · rename_i e
        subst e
        obtain ⟨r, h3, h4⟩ := intOp_run (w := w) (G := G) (H := H) h (fun e => h1 e) (fun e => h2 e) t X.P
        exact still r h3 h4 hg
      · cases h
  · -- truth values
    rename_i a b
    obtain rfl := bool_rel hp
    obtain rfl := bool_rel hq
    have hg := eqGuard_one (w := w) (op := op) (t := t) (x := x) (y := y) (u := .bool b) X.P (v := .bool a) rfl (by simp)
    split at h
    · rename_i i hi
      split at h
      · rename_i hd
        have hu := X.ok.desc_at hi hd rfl
        have he := run_equalIn_bool' (P := X.P) w 9999 t a b hu
        split at h
        · simp at h; subst h
          refine still (.bool (a == b)) ?_ (mb _) hg
          simp [binOp, Op.equal, Op.maxDepth, he]
        · simp at h; subst h
          refine still (.bool (a != b)) ?_ (mb _) hg
          simp only [binOp]
          simp [Op.equal, Op.maxDepth, he, bne]
        · cases h
      · cases h
    · cases h
  · -- aggregates
    rename_i xs ys
    obtain ⟨arr, rfl, hx⟩ := agg_rel hp
    obtain ⟨arr', rfl, hy⟩ := agg_rel hq
    split at h
    · rename_i i hi
      split at h
      · rename_i hc
        simp only [Bool.and_eq_true] at hc
        obtain ⟨hc, ha⟩ := hc
        obtain ⟨hf, hgt⟩ := X.eok t hc
        have hg : (eqGuard op t x y (.agg arr) (.agg arr')).run X.P w = .ok () w := by
          cases op <;> simp [eqGuard, hgt]
        have core : ∀ b, eqCs xs ys = some b → xs.length = i.size → ys.length = i.size → (Op.equalIn 10000 t (.agg arr) (.agg arr')).run X.P w = .ok b w := fun b hb h1 h2 => by
          obtain ⟨v, u, e1, e2, e3⟩ := eqAt_flat (w := w) (G := G) (H := H) X.ok 20 t i hi hf 10000 (by omega) xs ys arr arr' 0 b hx hy (by omega) (by omega) (by
            rw [List.drop_zero, List.drop_zero, List.take_of_length_le (by omega), List.take_of_length_le (by omega)]; exact hb)
          have l1 : arr.size = i.size := by have := hx.1; simp at this; omega
          have l2 : arr'.size = i.size := by have := hy.1; simp at this; omega
          have f1 : (part t arr 0).run X.P w = .ok (.agg arr) w := by
            simp [part, X.ok.run_isAgg hi, ha, X.ok.run_sizeOf hi, ← l1]
          have f2 : (part t arr' 0).run X.P w = .ok (.agg arr') w := by
            simp [part, X.ok.run_isAgg hi, ha, X.ok.run_sizeOf hi, ← l2]
          rw [f1] at e1; rw [f2] at e2
          cases e1; cases e2
          exact e3
        split at h
        · rename_i b hb
          simp at h
          obtain ⟨⟨h1, h2⟩, rfl⟩ := h
          refine still (.bool b) ?_ (mb _) hg
          simp [binOp, Op.equal, Op.maxDepth, core b hb h1 h2]
        · rename_i b hb
          simp at h
          obtain ⟨⟨h1, h2⟩, rfl⟩ := h
          refine still (.bool (!b)) ?_ (mb _) hg
          simp [binOp, Op.equal, Op.maxDepth, core b hb h1 h2]
        · cases h
      · cases h
    · cases h
  · -- pointers
    rename_i p'
    split at h
    · rename_i i hi
      split at h
      · rename_i e hd
        have hu := X.ok.desc_at hi hd rfl
        have hq' : u = .pointer none := by cases hq with | c _ _ h => cases h; rfl
        subst hq'
        have hg : v.oneCell' = true → v ≠ .nilIface → (eqGuard op t x y v (.pointer none)).run X.P w = .ok () w := fun a b => eqGuard_one X.P a b
        have run1 : ∀ a, (Op.equalIn 10000 t (.pointer (some a)) (.pointer none)).run X.P w = .ok false w := fun a => equalIn_nil1 hu 9999 a
        have run2 : (Op.equalIn 10000 t (.pointer none) (.pointer none)).run X.P w = .ok true w := equalIn_nil2 hu 9999
        have fin : ∀ b : Bool, z = B b → (binOp op t v (.pointer none)).run X.P w = .ok (.bool b) w → v.oneCell' = true → v ≠ .nilIface → Yields X.P (do eqGuard op t x y v (.pointer none); binOp op t v (.pointer none)) w G H z H := fun b e1 e2 e3 e4 => by
          subst e1
          exact still (.bool b) e2 (mb _) (hg e3 e4)
        cases p' with
        | nilp =>
          cases hp with
          | c _ _ hp =>
            cases hp
            cases op <;> simp at h
            · exact fin true h.symm (by simp [binOp, Op.equal, Op.maxDepth, run2]) rfl (by simp)
            · exact fin false h.symm (by simp [binOp, Op.equal, Op.maxDepth, run2]) rfl (by simp)
        | ptr a b =>
          cases hp with
          | c _ _ hp =>
            cases hp
            cases op <;> simp at h
            · exact fin false h.symm (by simp [binOp, Op.equal, Op.maxDepth, run1]) rfl (by simp)
            · exact fin true h.symm (by simp [binOp, Op.equal, Op.maxDepth, run1]) rfl (by simp)
        | dp ds =>
          cases hp with
          | c _ _ hp =>
            cases hp
            cases op <;> simp at h
            · exact fin false h.symm (by simp [binOp, Op.equal, Op.maxDepth, run1]) rfl (by simp)
            · exact fin true h.symm (by simp [binOp, Op.equal, Op.maxDepth, run1]) rfl (by simp)
        | _ => cases op <;> cases h
      · cases h
    · cases h
  · cases h
end
end Go.Abs
/- Builtins. -/
namespace Go.Abs
open Go

def intsOf : List V → Option (IntKind × List Int)
  | [.c (.d (.int k n))] => some (k, [n])
  | .c (.d (.int k n)) :: r => match intsOf r with
    | some (k', l) => if k = k' then some (k, n :: l) else none
    | none => none
  | _ => none
def minL : Int → List Int → Int
  | m, [] => m
  | m, x :: r => minL (min m x) r
def maxL : Int → List Int → Int
  | m, [] => m
  | m, x :: r => maxL (max m x) r

/-- What the cells of a source are, as far as n rows. -/
def srcCells (H : List AB) (sz n : Nat) : C → Option (List C)
  | .ms id off len _ => match H[id]? with
    | some (.cells cs) => if n ≤ len ∧ off + n * sz ≤ cs.length then some ((cs.drop off).take (n * sz)) else none
    | _ => none
  | c => match rowsOf c with
    | some rows => if n ≤ rows.length ∧ rows.all (fun r => r.length == sz) then some ((rows.take n).flatten.map .d) else none
    | none => none
def lenC : C → Option Nat
  | .ms _ _ len _ => some len
  | c => (rowsOf c).map (·.length)

section
variable {X : Tx} {w : World} {G : Gh} {H : List AB}

theorem lenC_rel {c : C} {n : Nat} {v : Value} (h : lenC c = some n) (hv : CRel w G H c v) : ∃ a cap, v = .slice a n cap := by
  cases c with
  | ms id off len cap => simp [lenC] at h; subst h; cases hv; exact ⟨_, _, rfl⟩
  | _ =>
    simp only [lenC] at h
    cases hr : rowsOf _ with
    | none => rw [hr] at h; cases h
    | some rows =>
      rw [hr] at h
      simp at h
      subst h
      obtain ⟨a, cap, e, _⟩ := rowsOf_rel hr hv
      exact ⟨a, cap, e⟩

theorem lenC_le {c : C} {n : Nat} {v : Value} (h : lenC c = some n) (hv : CRel w G H c v) (hm : ∀ id off len cap, c ≠ .ms id off len cap) : n ≤ lim := by
  cases c with
  | ms id off len cap => exact absurd rfl (hm _ _ _ _)
  | _ =>
    simp only [lenC] at h
    cases hr : rowsOf _ with
    | none => rw [hr] at h; cases h
    | some rows =>
      rw [hr] at h
      simp at h
      subst h
      obtain ⟨a, cap, e, hD⟩ := rowsOf_rel hr hv
      subst e
      cases hD with
      | emp => exact Nat.zero_le _
      | sl _ _ _ _ _ _ _ h => exact h

theorem yields_len {t e : Nat} {i : TI} (ht : X.tt t = some i) (hd : i.desc = .slice e) {c : C} {n : Nat} {x : Value} {ty : TypeId} (R : Rel w G H) (hc : lenC c = some n) (hx : CRel w G H c x) :
    Yields X.P (Builtin.len_ #[t] ty #[x]) w G H (I n) H := by
  obtain ⟨a, cap, rfl⟩ := lenC_rel hc hx
  refine Yields.still R (v := .int .i64 n) ?_ (.c _ _ (.d _ _ (.int _ _)))
  simp [Builtin.len_, X.ok.run_at ht hd rfl, goInt]

theorem yields_len_arr {t e n : Nat} {i : TI} (ht : X.tt t = some i) (hd : i.desc = .array n e) {x : Value} {ty : TypeId} (R : Rel w G H) :
    Yields X.P (Builtin.len_ #[t] ty #[x]) w G H (I n) H := by
  refine Yields.still R (v := .int .i64 n) ?_ (.c _ _ (.d _ _ (.int _ _)))
  simp [Builtin.len_, X.ok.run_at ht hd rfl, goInt]

theorem yields_len_map {t k e id : Nat} {i : TI} {es : List (V × V)} (ht : X.tt t = some i) (hd : i.desc = .map k e) {x : Value} {ty : TypeId} (R : Rel w G H) (hid : H[id]? = some (.mp es)) (hx : CRel w G H (.mp id) x) :
    Yields X.P (Builtin.len_ #[t] ty #[x]) w G H (I es.length) H := by
  cases hx
  cases R.ab id _ hid with
  | mp _ rs clock hb hr hrole =>
    refine Yields.still R (v := .int .i64 es.length) ?_ (.c _ _ (.d _ _ (.int _ _)))
    have : (getObj (G.rho id)).run X.P w = .ok (.map rs clock) w := by simp [getObj, Sem.run, hb]
    simp [Builtin.len_, X.ok.run_at ht hd rfl, goInt, this, hr.1]

theorem ints_rel : ∀ {vs : List V} {k : IntKind} {l : List Int} {us : List Value}, intsOf vs = some (k, l) → vs.length = us.length → (∀ (i : Nat) (x : V) (v : Value), vs[i]? = some x → us[i]? = some v → VRel w G H x v) → us = l.map (Value.int k)
  | [], k, l, us, h, _, _ => by simp [intsOf] at h
  | v :: r, k, l, us, h, hl, hr => by
    cases us with
    | nil => simp at hl
    | cons u us =>
      have h0 := hr 0 v u rfl rfl
      unfold intsOf at h
      split at h
      · rename_i k' n heq
        cases heq
        cases h
        obtain rfl := int_rel h0
        have : us = [] := by simpa using hl.symm
        subst this; rfl
      · rename_i k' n r' hne heq
        cases heq
        split at h
        · rename_i k2 l2 h2
          split at h
          · rename_i e
            subst e
            cases h
            obtain rfl := int_rel h0
            have ih := ints_rel (us := us) h2 (by simpa using hl) (fun i x v hx hv => hr (i + 1) x v (by simpa using hx) (by simpa using hv))
            rw [ih]
            rfl
          · cases h
        · cases h
      · cases h

theorem run_minL (k : IntKind) (P : Program) : ∀ (l : List Int) (m : Int), ((l.map (Value.int k)).foldlM Builtin.min2 (.int k m)).run P w = .ok (.int k (minL m l)) w
  | [], m => by simp [minL]
  | x :: l, m => by
    simp only [List.map_cons, List.foldlM_cons, Sem.run_bind, Builtin.min2, Sem.run_pure, Result.andThen_ok, minL]
    rw [run_minL k P l]
    congr 3
    simp only [Int.min_def]; split <;> split <;> omega
theorem run_maxL (k : IntKind) (P : Program) : ∀ (l : List Int) (m : Int), ((l.map (Value.int k)).foldlM Builtin.max2 (.int k m)).run P w = .ok (.int k (maxL m l)) w
  | [], m => by simp [maxL]
  | x :: l, m => by
    simp only [List.map_cons, List.foldlM_cons, Sem.run_bind, Builtin.max2, Sem.run_pure, Result.andThen_ok, maxL]
    rw [run_maxL k P l]
    congr 3
    simp only [Int.max_def]; split <;> split <;> omega

theorem yields_min {vs : List V} {k : IntKind} {m : Int} {l : List Int} {us : Array Value} {ts : Array TypeId} {ty : TypeId} (R : Rel w G H) (h : intsOf vs = some (k, m :: l)) (hl : vs.length = us.toList.length)
    (hr : ∀ (i : Nat) (x : V) (v : Value), vs[i]? = some x → us.toList[i]? = some v → VRel w G H x v) : Yields X.P (Builtin.min_ ts ty us) w G H (.c (.d (.int k (minL m l)))) H := by
  have e := ints_rel h hl hr
  refine Yields.still R (v := .int k (minL m l)) ?_ (.c _ _ (.d _ _ (.int _ _)))
  simp only [Builtin.min_, e, List.map_cons]
  exact run_minL k X.P l m
theorem yields_max {vs : List V} {k : IntKind} {m : Int} {l : List Int} {us : Array Value} {ts : Array TypeId} {ty : TypeId} (R : Rel w G H) (h : intsOf vs = some (k, m :: l)) (hl : vs.length = us.toList.length)
    (hr : ∀ (i : Nat) (x : V) (v : Value), vs[i]? = some x → us.toList[i]? = some v → VRel w G H x v) : Yields X.P (Builtin.max_ ts ty us) w G H (.c (.d (.int k (maxL m l)))) H := by
  have e := ints_rel h hl hr
  refine Yields.still R (v := .int k (maxL m l)) ?_ (.c _ _ (.d _ _ (.int _ _)))
  simp only [Builtin.max_, e, List.map_cons]
  exact run_maxL k X.P l m

theorem flatten_take {sz n : Nat} : ∀ {rows : List (List D)}, (∀ r ∈ rows, r.length = sz) → (rows.take n).flatten = rows.flatten.take (n * sz) := by
  induction n with
  | zero => intro rows _; simp
  | succ n ih =>
    intro rows h
    cases rows with
    | nil => simp
    | cons r rows =>
      have hr := h r (by simp)
      have ih' := ih (rows := rows) (fun x hx => h x (List.mem_cons_of_mem _ hx))
      have e1 : (n + 1) * sz - sz = n * sz := by rw [Nat.succ_mul]; omega
      have e2 : r.take ((n + 1) * sz) = r := List.take_of_length_le (by rw [Nat.succ_mul]; omega)
      rw [List.take_succ_cons, List.flatten_cons, List.flatten_cons, ih', List.take_append, hr, e1, e2]

/-- The first rows of a source, read. -/
theorem run_src {c : C} {sz n : Nat} {cs : List C} {v : Value} (R : Rel w G H) (h : srcCells H sz n c = some cs) (hz : 0 < sz) (hv : CRel w G H c v) :
    ∃ vs : List Value, (Builtin.firstCells sz n v).run X.P w = .ok vs.toArray w ∧ CsRel w G H cs vs := by
  cases c with
  | ms id off len cap =>
    simp only [srcCells] at h
    split at h
    · rename_i cs0 hid
      split at h
      · rename_i hc
        cases h
        cases hv
        obtain ⟨arr, t, hb, hr⟩ := cells_at R hid
        have hl := hr.1
        have hr' := (hr.drop off).take (n * sz)
        refine ⟨(arr.toList.drop off).take (n * sz), ?_, hr'⟩
        have := run_loadCells_list (P := X.P) w ⟨G.rho id, off, none⟩ ((arr.toList.drop off).take (n * sz)) (fun j v hj => by
          rw [Addr.add_lit, cell_arr hb]
          rw [List.getElem?_take] at hj
          split at hj
          · rwa [List.getElem?_drop] at hj
          · cases hj)
        have hlen : ((arr.toList.drop off).take (n * sz)).length = n * sz := by rw [List.length_take, List.length_drop, ← hl]; omega
        rw [hlen] at this
        simpa [Builtin.firstCells] using this
      · cases h
    · cases h
  | _ =>
    simp only [srcCells] at h
    split at h
    · rename_i rows hr
      split at h
      · rename_i hc
        cases h
        obtain ⟨a, cap, rfl, hD⟩ := rowsOf_rel hr hv
        have hu : ∀ r ∈ rows, r.length = sz := fun r hm => by simpa using List.all_eq_true.1 hc.2 r hm
        have hfl := flatten_length hu
        by_cases he : rows = []
        · subst he
          have : n = 0 := by have := hc.1; simp at this; exact this
          subst this
          refine ⟨[], ?_, CsRel.nil⟩
          cases a with
          | none => simp [Builtin.firstCells]
          | some x => simp [Builtin.firstCells, loadCells, loadCellsFrom]
        · obtain ⟨_, hr2⟩ := drel_flat hD hu hz
          obtain ⟨_, _, b, o, rfl, f, h1, h2⟩ := hr2 he
          have hmul : n * sz ≤ rows.length * sz := Nat.mul_le_mul_right _ hc.1
          refine ⟨(List.range (n * sz)).map f, ?_, ?_⟩
          · simp only [Builtin.firstCells]
            exact run_loadCells w ⟨b, o, none⟩ _ f (fun j hj => by rw [Addr.add_lit]; exact (h1 j (by omega)).2)
          · rw [flatten_take hu]
            have hk := dcells (w := w) (G := G) (H := H) (ds := rows.flatten.take (n * sz)) (f := f) (fun j x hx => by
              rw [List.getElem?_take] at hx
              split at hx
              · exact h2 j x hx
              · cases hx)
            have e : (rows.flatten.take (n * sz)).length = n * sz := by rw [List.length_take, hfl]; omega
            rwa [e] at hk
      · cases h
    · cases h

theorem yields_copy {t t2 e : Nat} {i i' : TI} (ht : X.tt t = some i) (hd : i.desc = .slice e) (he : X.tt e = some i') (hz : 0 < i'.size) {id off len cap n m : Nat} {c : C} {cs cs' : List C} {dst src : Value} {ty : TypeId} (R : Rel w G H)
    (hid : H[id]? = some (.cells cs)) (hdst : CRel w G H (.ms id off len cap) dst) (hl : lenC c = some m) (hn : n = Nat.min m len) (hs : srcCells H i'.size n c = some cs') (hsrc : CRel w G H c src) (hb : off + n * i'.size ≤ cs.length) (hcl : cs'.length = n * i'.size) :
    Yields X.P (Builtin.copy_ #[t, t2] ty #[dst, src]) w G H (I n) (H.set id (.cells (setMany cs off cs'))) := by
  cases hdst with
  | ms _ _ _ _ hidl =>
    obtain ⟨vs, h1, h2⟩ := run_src (X := X) R hs hz hsrc
    obtain ⟨a, capx, rfl⟩ := lenC_rel hl hsrc
    obtain ⟨arr, t', hbk, hr⟩ := cells_at R hid
    have hvl : vs.length = n * i'.size := by rw [← h2.1, hcl]
    have hrl : cs.length = arr.size := by have := hr.1; simpa using this
    obtain ⟨R', L'⟩ := R.put_cells (cs' := setMany cs off cs') (arr' := (setMany arr.toList off vs).toArray) hid hbk (by simpa using hr.setMany off h2)
    refine ⟨.int .i64 n, _, G, ?_, .c _ _ (.d _ _ (.int _ _)), R', L'⟩
    have hst := run_storeCells X.P (b := G.rho id) (off := off) (t := t') vs 0 w arr hbk (by omega) h2.ones
    simp only [Nat.add_zero] at hst
    subst hn
    simp [Builtin.copy_, X.ok.run_at ht hd rfl, Builtin.lenOf, X.ok.run_sizeOf he, h1, hst, goInt]

theorem yields_clear {t e : Nat} {i i' : TI} (ht : X.tt t = some i) (hd : i.desc = .slice e) (he : X.tt e = some i') {id off len cap : Nat} {cs : List C} {x : Value} {ty : TypeId} (R : Rel w G H) (hlen : len ≠ 0)
    (hid : H[id]? = some (.cells cs)) (hx : CRel w G H (.ms id off len cap) x) (hb : off + len * i'.size ≤ cs.length) :
    Yields X.P (Builtin.clear_ #[t] ty #[x]) w G H (.tup []) (H.set id (.cells (setMany cs off (zc i'.zero.cs len)))) := by
  cases hx with
  | ms _ _ _ _ hidl =>
    obtain ⟨z, hz, hz1, hz2, hz3⟩ := X.ok.run_zero he
    have hzr := zeroCs_rel (w := w) (G := G) (H := H) hz2
    obtain ⟨arr, t', hbk, hr⟩ := cells_at R hid
    have hrl : cs.length = arr.size := by have := hr.1; simpa using this
    have hzc := zc_rel hzr len
    have hzl : (Builtin.zeroCells z.cells len).toList = zc z.cells.toList len := rangeMap_toList _ _
    have hvl : (zc z.cells.toList len).length = len * i'.size := by rw [← hzc.1, zc_length, hz3]
    obtain ⟨R', L'⟩ := R.put_cells (cs' := setMany cs off (zc i'.zero.cs len)) (arr' := (setMany arr.toList off (zc z.cells.toList len)).toArray) hid hbk (by simpa using hr.setMany off hzc)
    refine ⟨.tuple #[], _, G, ?_, .tup [] #[] rfl (fun i x v h => by simp at h), R', L'⟩
    have hst := run_storeCells X.P (b := G.rho id) (off := off) (t := t') (zc z.cells.toList len) 0 w arr hbk (by omega) hzc.ones
    simp only [Nat.add_zero] at hst
    cases len with
    | zero => exact absurd rfl hlen
    | succ len => simp only [Builtin.clear_]; simp [X.ok.run_at ht hd rfl, hz, hzl, hst]
end
end Go.Abs
/- Maps whose keys are flat: look-up, update, delete. -/
namespace Go.Abs
open Go

section
variable {P : Program} {tt : Nat → Option TI} {w : World} {G : Gh} {H : List AB}

theorem checkKey_flat (T : TTok P tt) (empty : Bool) : ∀ (n t : Nat) (i : TI), tt t = some i → flatB P tt n t = true → ∀ (d : Nat), n ≤ d → ∀ (xs : Array Value) (off : Nat), off + i.size ≤ xs.size →
    ∃ v, (part t xs off).run P w = .ok v w ∧ (Instr.checkKey empty d t v).run P w = .ok () w
  | 0, t, i, _, hf, _, _, _, _, _ => by simp [flatB] at hf
  | n + 1, t, i, ht, hf, d, hd, xs, off, hl => by
    obtain ⟨d, rfl⟩ : ∃ k, d = k + 1 := ⟨d - 1, by omega⟩
    simp only [flatB, ht] at hf
    have agg : isAggD i.desc = true → (∀ (xs' : Array Value), xs'.size = i.size → (Instr.checkKey empty (d + 1) t (.agg xs')).run P w = .ok () w) → ∃ v, (part t xs off).run P w = .ok v w ∧ (Instr.checkKey empty (d + 1) t v).run P w = .ok () w := fun ha hrun => by
      refine ⟨.agg (xs.extract off (off + i.size)), by simp [part, T.run_isAgg ht, ha, T.run_sizeOf ht], hrun _ (by simp; omega)⟩
    cases hdesc : i.desc with
    | int k0 =>
      simp only [hdesc, beq_iff_eq] at hf
      have ho : off < xs.size := by omega
      refine ⟨xs[off], by simp [part, T.run_isAgg ht, hdesc, isAggD, ho], ?_⟩
      simp only [Instr.checkKey, Sem.run_bind, T.run_at ht hdesc rfl, Result.andThen_ok]
      generalize xs[off] = v
      cases v <;> rfl
    | struct fs0 =>
      obtain ⟨fs, hu, _⟩ := T.desc_struct ht hdesc
      simp only [hdesc, hu, Bool.and_eq_true, Bool.not_eq_true'] at hf
      obtain ⟨hst, hfold⟩ := hf
      refine agg (by rw [hdesc]; rfl) (fun xs' hx' => ?_)
      have hur : (underlying t).run P w = .ok (.struct fs) w := by simp [underlying, hu]
      simp only [Instr.checkKey, Sem.run_bind, hur, Result.andThen_ok]
      simp only [beq_iff_eq] at hfold
      have key : ∀ (fl : List Field) (k : Nat) (ok : Bool), (fl.foldl (fun (a : Bool × Nat) f => (a.1 && f.name != "_" && f.offset == a.2 && flatB P tt n f.type && (tt f.type).isSome, a.2 + ((tt f.type).map (·.size)).getD 0)) (ok, k)) = (true, i.size) →
          (forIn fl PUnit.unit (fun f (_ : PUnit) => (do
            if f.name ≠ "_" then Instr.checkKey empty d f.type (← part f.type xs' f.offset)
            pure (ForInStep.yield PUnit.unit) : Sem (ForInStep PUnit)))).run P w = .ok PUnit.unit w := by
        intro fl
        induction fl with
        | nil => intro k ok hk; simp
        | cons f fl ih =>
          intro k ok hk
          simp only [List.foldl_cons] at hk
          have hok : ∀ (fl : List Field) (a : Bool × Nat), (fl.foldl (fun (a : Bool × Nat) f => (a.1 && f.name != "_" && f.offset == a.2 && flatB P tt n f.type && (tt f.type).isSome, a.2 + ((tt f.type).map (·.size)).getD 0)) a).1 = true → a.1 = true := by
            intro fl
            induction fl with
            | nil => intro a h; exact h
            | cons g fl ih => intro a h; have := ih _ h; simp at this; exact this.1.1.1.1
          have hle : ∀ (fl : List Field) (a : Bool × Nat), a.2 ≤ (fl.foldl (fun (a : Bool × Nat) f => (a.1 && f.name != "_" && f.offset == a.2 && flatB P tt n f.type && (tt f.type).isSome, a.2 + ((tt f.type).map (·.size)).getD 0)) a).2 := by
            intro fl
            induction fl with
            | nil => intro a; exact Nat.le_refl _
            | cons g fl ih => intro a; rw [List.foldl_cons]; exact Nat.le_trans (Nat.le_add_right _ _) (ih (a.1 && g.name != "_" && g.offset == a.2 && flatB P tt n g.type && (tt g.type).isSome, a.2 + ((tt g.type).map (·.size)).getD 0))
          have h1 := hok fl _ (by rw [hk])
          have h2 := hle fl (ok && f.name != "_" && f.offset == k && flatB P tt n f.type && (tt f.type).isSome, k + ((tt f.type).map (·.size)).getD 0)
          rw [hk] at h2
          simp only [Bool.and_eq_true, bne_iff_ne, ne_eq, beq_iff_eq] at h1
          obtain ⟨⟨⟨⟨_, hnm⟩, ho⟩, hfl⟩, hs⟩ := h1
          obtain ⟨i', hi'⟩ := Option.isSome_iff_exists.1 hs
          simp only [hi', Option.map_some, Option.getD_some] at h2 hk
          obtain ⟨v, p1, p2⟩ := checkKey_flat T empty n f.type i' hi' hfl d (by omega) xs' f.offset (by rw [ho, hx']; exact h2)
          simp only [List.forIn_cons, ne_eq, hnm, not_false_eq_true, if_true, Sem.run_bind, p1, p2, Result.andThen_ok, Sem.run_pure]
          exact ih _ _ hk
      have := key fs.toList 0 true hfold
      rw [← Array.forIn_toList]
      simp at this ⊢
      rw [this]
      rfl
    | array len e =>
      simp only [hdesc, Bool.and_eq_true, beq_iff_eq] at hf
      obtain ⟨⟨hfl, hs⟩, hsz⟩ := hf
      obtain ⟨i', hi'⟩ := Option.isSome_iff_exists.1 hs
      simp only [hi', Option.map_some, Option.getD_some] at hsz
      refine agg (by rw [hdesc]; rfl) (fun xs' hx' => ?_)
      simp only [Instr.checkKey, Sem.run_bind, T.run_at ht hdesc rfl, Result.andThen_ok, T.run_sizeOf hi']
      rw [Std.Legacy.Range.forIn_eq_forIn_range']
      have key : ∀ (m k : Nat), k + m = len →
          (forIn (List.range' k m) PUnit.unit (fun j (_ : PUnit) => (do
            let __do_lift ← sizeOf e
            let __do_lift ← part e xs' (j * __do_lift)
            Instr.checkKey empty d e __do_lift
            pure (ForInStep.yield PUnit.unit) : Sem (ForInStep PUnit)))).run P w = .ok PUnit.unit w := by
        intro m
        induction m with
        | zero => intro k hk; simp
        | succ m ih =>
          intro k hk
          have hmul : (k + 1) * i'.size ≤ len * i'.size := Nat.mul_le_mul_right _ (by omega)
          rw [Nat.succ_mul] at hmul
          obtain ⟨v, p1, p2⟩ := checkKey_flat T empty n e i' hi' hfl d (by omega) xs' (k * i'.size) (by omega)
          simp only [List.range'_succ, List.forIn_cons, Sem.run_bind, T.run_sizeOf hi', p1, p2, Result.andThen_ok, Sem.run_pure]
          exact ih (k + 1) (by omega)
      have h1 := key len 0 (by omega)
      have e0 : (List.range' ([:len] : Std.Legacy.Range).start ([:len] : Std.Legacy.Range).size ([:len] : Std.Legacy.Range).step) = List.range' 0 len := by simp [Std.Legacy.Range.size]
      rw [e0]
      simp at h1 ⊢
      rw [h1]
      rfl
    | _ => simp [hdesc] at hf

/-! ### Entries -/
theorem eqCs_len : ∀ {a b : List C} {p : Bool}, eqCs a b = some p → a.length = b.length
  | [], [], _, _ => rfl
  | x :: a, y :: b, p, h => by
    simp only [eqCs] at h
    split at h
    · rename_i u v hu hv
      simp [eqCs_len hv]
    · cases h
  | [], _ :: _, _, h => by simp [eqCs] at h
  | _ :: _, [], _, h => by simp [eqCs] at h

def keyEq : V → V → Option Bool
  | .c (.d (.int k a)), .c (.d (.int k' b)) => if k = k' then some (decide (a = b)) else none
  | .agg xs, .agg ys => eqCs xs ys
  | _, _ => none
def findE (k : V) : List (V × V) → Nat → Option (Option (Nat × V))
  | [], _ => some none
  | e :: es, i => match keyEq k e.1 with
    | some true => some (some (i, e.2))
    | some false => findE k es (i + 1)
    | none => none
/-- A key of a flat type. -/
def keyOk (X : Tx) (t : Nat) : V → Bool
  | .c (.d (.int _ _)) => match X.tt t with
    | some i => match i.desc with
      | .int _ => true
      | _ => false
    | none => false
  | .agg cs => match X.tt t with
    | some i => X.eqs t && isAggD i.desc && cs.length == i.size
    | none => false
  | _ => false
end

section
variable {X : Tx} {w : World} {G : Gh} {H : List AB}

theorem run_checkKey {t : Nat} {k : V} {v : Value} (empty : Bool) (hk : keyOk X t k = true) (hv : VRel w G H k v) : (Instr.checkKey empty 10000 t v).run X.P w = .ok () w := by
  unfold keyOk at hk
  split at hk
  · split at hk
    · rename_i i hi
      split at hk
      · rename_i k0 hd
        obtain rfl := int_rel hv
        have key : ∀ (d : Nat) (kk : IntKind) (m : Int), (Instr.checkKey empty (d + 1) t (.int kk m)).run X.P w = .ok () w := fun d kk m => by
          simp only [Instr.checkKey, Sem.run_bind, X.ok.run_at hi hd rfl, Result.andThen_ok]
          rfl
        exact key 9999 _ _
      · cases hk
    · cases hk
  · rename_i cs
    split at hk
    · rename_i i hi
      simp only [Bool.and_eq_true, beq_iff_eq] at hk
      obtain ⟨⟨h1, h2⟩, h3⟩ := hk
      obtain ⟨arr, rfl, hx⟩ := agg_rel hv
      have hsz : arr.size = i.size := by have := hx.1; simp at this; omega
      obtain ⟨v, p1, p2⟩ := checkKey_flat (w := w) X.ok empty 20 t i hi (X.eok t h1).1 10000 (by omega) arr 0 (by omega)
      have f1 : (part t arr 0).run X.P w = .ok (.agg arr) w := by
        simp [part, X.ok.run_isAgg hi, h2, X.ok.run_sizeOf hi, ← hsz]
      rw [f1] at p1
      cases p1
      exact p2
    · cases hk
  · cases hk

theorem findAsking_run {t : Nat} {i : TI} (hi : X.tt t = some i) (he : X.eqs t = true) (ha : isAggD i.desc = true) {xs : List C} {arr : Array Value} (hx : CsRel w G H xs arr.toList) (hl : xs.length = i.size) :
    ∀ (es : List (V × V)) (rs : List MapEntry) (n : Nat) (o : Option (Nat × V)), EsRel w G H es rs → findE (.agg xs) es n = some o →
      ∃ o', (Instr.findAsking t (.agg arr) rs n).run X.P w = .ok o' w ∧ (match o, o' with | none, none => True | some (j, y), some (j', v) => j = j' ∧ VRel w G H y v | _, _ => False)
  | [], rs, n, o, hr, h => by
    have : rs = [] := by have := hr.1; simpa using this.symm
    subst this
    simp [findE] at h
    subst h
    exact ⟨none, by simp [Instr.findAsking], trivial⟩
  | e :: es, [], n, o, hr, h => by have := hr.1; simp at this
  | e :: es, r :: rs, n, o, hr, h => by
    have h0 := hr.2 0 e r rfl rfl
    have hr' : EsRel w G H es rs := ⟨by have := hr.1; simpa using this, fun j a b ha hb => hr.2 (j + 1) a b (by simpa using ha) (by simpa using hb)⟩
    have core : ∀ b, keyEq (.agg xs) e.1 = some b → (Op.equal t (.agg arr) r.key).run X.P w = .ok b w := fun b hb => by
      cases hk : e.1 with
      | agg ys =>
        rw [hk] at hb
        simp only [keyEq] at hb
        have hy := h0.1
        rw [hk] at hy
        obtain ⟨arr', hr2, hy⟩ := agg_rel hy
        rw [hr2]
        have hly : ys.length = xs.length := (eqCs_len hb).symm
        obtain ⟨v, u, e1, e2, e3⟩ := eqAt_flat (w := w) (G := G) (H := H) X.ok 20 t i hi (X.eok t he).1 10000 (by omega) xs ys arr arr' 0 b hx hy (by omega) (by omega) (by
          rw [List.drop_zero, List.drop_zero, List.take_of_length_le (by omega), List.take_of_length_le (by omega)]; exact hb)
        have l1 : arr.size = i.size := by have := hx.1; simp at this; omega
        have l2 : arr'.size = i.size := by have := hy.1; simp at this; omega
        have f1 : (part t arr 0).run X.P w = .ok (.agg arr) w := by simp [part, X.ok.run_isAgg hi, ha, X.ok.run_sizeOf hi, ← l1]
        have f2 : (part t arr' 0).run X.P w = .ok (.agg arr') w := by simp [part, X.ok.run_isAgg hi, ha, X.ok.run_sizeOf hi, ← l2]
        rw [f1] at e1; rw [f2] at e2
        cases e1; cases e2
        simpa [Op.equal, Op.maxDepth] using e3
      | _ => rw [hk] at hb; simp [keyEq] at hb
    simp only [findE] at h
    split at h
    · rename_i hb
      cases h
      exact ⟨some (n, r.val), by simp [Instr.findAsking, core _ hb], rfl, h0.2⟩
    · rename_i hb
      obtain ⟨o', h1, h2⟩ := findAsking_run hi he ha hx hl es rs (n + 1) o hr' h
      exact ⟨o', by simp [Instr.findAsking, core _ hb, h1], h2⟩
    · cases h

/-- What a search finds, as values. -/
def FoundRel (w : World) (G : Gh) (H : List AB) : Option (Nat × V) → Option (Nat × Value) → Prop
  | none, none => True
  | some (j, y), some (j', v) => j = j' ∧ VRel w G H y v
  | _, _ => False

theorem findNow_run {k0 : IntKind} {k : IntKind} {m : Int} : ∀ (es : List (V × V)) (rs : List MapEntry) (n : Nat) (o : Option (Nat × V)), EsRel w G H es rs → findE (.c (.d (.int k m))) es n = some o →
      ∃ o', Instr.findNow (.int k0) (.int k m) rs n = some o' ∧ FoundRel w G H o o'
  | [], rs, n, o, hr, h => by
    have : rs = [] := by have := hr.1; simpa using this.symm
    subst this
    simp [findE] at h
    subst h
    exact ⟨none, rfl, trivial⟩
  | e :: es, [], n, o, hr, h => by have := hr.1; simp at this
  | e :: es, r :: rs, n, o, hr, h => by
    have h0 := hr.2 0 e r rfl rfl
    have hr' : EsRel w G H es rs := ⟨by have := hr.1; simpa using this, fun j a b ha hb => hr.2 (j + 1) a b (by simpa using ha) (by simpa using hb)⟩
    have core : ∀ b, keyEq (.c (.d (.int k m))) e.1 = some b → Instr.sameNow (.int k0) (.int k m) r.key = some b := fun b hb => by
      unfold keyEq at hb
      split at hb
      · rename_i k1 a1 k2 b1 h1 h2
        cases h1
        have hk := h0.1
        rw [h2] at hk
        rw [int_rel hk]
        split at hb
        · rename_i he
          subst he
          cases hb
          simp [Instr.sameNow, BEq.beq]
        · cases hb
      · rename_i h1 h2; cases h1
      · cases hb
    simp only [findE] at h
    split at h
    · rename_i hb
      cases h
      exact ⟨some (n, r.val), by simp [Instr.findNow, core _ hb], rfl, h0.2⟩
    · rename_i hb
      obtain ⟨o', h1, h2⟩ := findNow_run (k0 := k0) es rs (n + 1) o hr' h
      exact ⟨o', by simp [Instr.findNow, core _ hb, h1], h2⟩
    · cases h

theorem run_findKey {t : Nat} {k : V} {v : Value} {es : List (V × V)} {rs : List MapEntry} {o : Option (Nat × V)} (hk : keyOk X t k = true) (hv : VRel w G H k v) (hr : EsRel w G H es rs) (h : findE k es 0 = some o) :
    ∃ o', (Instr.findKey t v rs).run X.P w = .ok o' w ∧ FoundRel w G H o o' := by
  unfold keyOk at hk
  split at hk
  · split at hk
    · rename_i i hi
      split at hk
      · rename_i k0 hd
        obtain rfl := int_rel hv
        obtain ⟨o', h1, h2⟩ := findNow_run (k0 := k0) es rs 0 o hr h
        exact ⟨o', by simp [Instr.findKey, X.ok.run_at hi hd rfl, h1], h2⟩
      · cases hk
    · cases hk
  · rename_i cs
    split at hk
    · rename_i i hi
      simp only [Bool.and_eq_true, beq_iff_eq] at hk
      obtain ⟨⟨h1, h2⟩, h3⟩ := hk
      obtain ⟨arr, rfl, hx⟩ := agg_rel hv
      obtain ⟨d, hd1, hd2⟩ := X.ok.desc t i hi
      have hu : (underlying t).run X.P w = .ok d w := by simp [underlying, hd1]
      cases rs with
      | nil =>
        have : es = [] := by have := hr.1; simpa using this
        subst this
        simp [findE] at h
        subst h
        exact ⟨none, by simp [Instr.findKey, hu, Instr.findNow], trivial⟩
      | cons r rs =>
        obtain ⟨o', h4, h5⟩ := findAsking_run hi h1 h2 hx h3 es (r :: rs) 0 o hr h
        have hn : Instr.findNow d (.agg arr) (r :: rs) 0 = none := by
          have : Instr.sameNow d (.agg arr) r.key = none := by cases d <;> rfl
          simp [Instr.findNow, this]
        refine ⟨o', by simp [Instr.findKey, hu, hn, h4], ?_⟩
        cases o <;> cases o' <;> exact h5
    · cases hk
  · cases hk

theorem mp_at {id : Nat} {es : List (V × V)} (R : Rel w G H) (hid : H[id]? = some (.mp es)) : ∃ rs clock, w.heap[G.rho id]? = some (.map rs clock) ∧ EsRel w G H es rs.toList ∧ G.role (G.rho id) = some id := by
  cases R.ab id _ hid with
  | mp _ rs clock hb hr hrole => exact ⟨rs, clock, hb, hr, hrole⟩

def lookV (ok : Bool) (j : TI) (o : Option (Nat × V)) : V :=
  if ok then .tup [match o with | some (_, y) => y | none => j.zero, B o.isSome] else match o with | some (_, y) => y | none => j.zero

theorem yields_lookup {t kt et id : Nat} {i j : TI} {es : List (V × V)} {k : V} {o : Option (Nat × V)} {m v : Value} {ok : Bool} (ht : X.tt t = some i) (hd : i.desc = .map kt et) (he : X.tt et = some j) (R : Rel w G H) (hid : H[id]? = some (.mp es))
    (hk : keyOk X kt k = true) (hf : findE k es 0 = some o) (hm : VRel w G H (.c (.mp id)) m) (hv : VRel w G H k v) :
    Yields X.P (Instr.lookup t m v ok) w G H (lookV ok j o) H := by
  obtain ⟨rs, clock, hb, hr, _⟩ := mp_at R hid
  have em : m = .map (some (G.rho id)) := by cases hm with | c _ _ h => cases h; rfl
  subst em
  have hg : (getObj (G.rho id)).run X.P w = .ok (.map rs clock) w := by simp [getObj, Sem.run, hb]
  obtain ⟨o', h1, h2⟩ := run_findKey hk hv hr hf
  have hc := run_checkKey (w := w) rs.isEmpty hk hv
  obtain ⟨z, hz, hz1, _⟩ := X.ok.run_zero he
  have fin : ∀ (y : V) (u : Value) (f : Bool), VRel w G H y u → VRel w G H (if ok then .tup [y, B f] else y) (if ok then .tuple #[u, .bool f] else u) := fun y u f h => by
    cases ok with
    | false => simpa using h
    | true =>
      simp only [if_true]
      refine .tup _ _ rfl (fun i x q hx hq => ?_)
      match i with
      | 0 => simp at hx hq; subst hx; subst hq; exact h
      | 1 => simp at hx hq; subst hx; subst hq; exact .c _ _ (.d _ _ (.bool _))
      | i + 2 => simp at hx
  cases o with
  | none =>
    cases o' with
    | none =>
      refine Yields.still R (v := if ok then .tuple #[z, .bool false] else z) ?_ (fin j.zero z false (zeroV_rel hz1))
      simp [Instr.lookup, X.ok.run_at ht hd rfl, hg, hc, h1, hz]
    | some p => exact h2.elim
  | some p =>
    cases o' with
    | none => exact h2.elim
    | some p' =>
      obtain ⟨n, y⟩ := p
      obtain ⟨n', u⟩ := p'
      refine Yields.still R (v := if ok then .tuple #[u, .bool true] else u) ?_ (fin y u true h2.2)
      simp [Instr.lookup, X.ok.run_at ht hd rfl, hg, hc, h1]

/-- Another list of entries in the same block. -/
theorem mp_put {id : Nat} {es es' : List (V × V)} {rs rs' : Array MapEntry} {clock clock' : Nat} (R : Rel w G H) (hid : H[id]? = some (.mp es)) (hb : w.heap[G.rho id]? = some (.map rs clock)) (hr' : EsRel w G H es' rs'.toList) :
    Rel (w.putObj (G.rho id) (.map rs' clock')) G (H.set id (.mp es')) ∧ Later w G H (w.putObj (G.rho id) (.map rs' clock')) G (H.set id (.mp es')) := by
  obtain ⟨_, _, _, _, hrole⟩ := mp_at R hid
  have hnc : ∀ j, w.cell? ⟨G.rho id, j, none⟩ = none := fun j => by simp [World.cell?, hb]
  have L : Later w G H (w.putObj (G.rho id) (.map rs' clock')) G (H.set id (.mp es')) :=
    Later.put_own hrole (fun j hj => by obtain ⟨v, hv⟩ := R.sex _ j hj; rw [hnc] at hv; cases hv) (fun n sz e => by cases e) (fun n sz cs e => by cases e)
  exact ⟨R.put_own hrole L (fun _ => .mp _ rs' clock' (put_same hb) (hr'.mono L) hrole), L⟩

theorem run_setMap {P : Program} {r : Nat} {o : Obj} {rs : Array MapEntry} {clock : Nat} (h : w.heap[r]? = some (.map rs clock)) : (setObj r o).run P w = .ok () (w.putObj r o) := by
  simp [setObj, Sem.run, h, World.putObj]

def updE (k x : V) (es : List (V × V)) : Option (Nat × V) → List (V × V)
  | some (i, _) => es.set i (k, x)
  | none => es ++ [(k, x)]
def delE (es : List (V × V)) : Option (Nat × V) → List (V × V)
  | some (i, _) => es.eraseIdx i
  | none => es

theorem does_delete {t kt et id : Nat} {i : TI} {es : List (V × V)} {k : V} {o : Option (Nat × V)} {m v : Value} {ty : TypeId} {ts : Array TypeId} (ht : X.tt t = some i) (hd : i.desc = .map kt et) (h0 : ts[0]? = some t) (R : Rel w G H) (hid : H[id]? = some (.mp es))
    (hk : keyOk X kt k = true) (hf : findE k es 0 = some o) (hm : VRel w G H (.c (.mp id)) m) (hv : VRel w G H k v) :
    Yields X.P (Builtin.delete_ ts ty #[m, v]) w G H (.tup []) (H.set id (.mp (delE es o))) := by
  obtain ⟨rs, clock, hb, hr, _⟩ := mp_at R hid
  have em : m = .map (some (G.rho id)) := by cases hm with | c _ _ h => cases h; rfl
  subst em
  have hg : (getObj (G.rho id)).run X.P w = .ok (.map rs clock) w := by simp [getObj, Sem.run, hb]
  obtain ⟨o', h1, h2⟩ := run_findKey hk hv hr hf
  have hc := run_checkKey (w := w) rs.isEmpty hk hv
  have tupR : ∀ (w' : World) (G' : Gh) (H' : List AB), VRel w' G' H' (.tup []) (.tuple #[]) := fun w' G' H' => .tup [] #[] rfl (fun i x v h => by simp at h)
  cases o with
  | none =>
    cases o' with
    | none =>
      obtain ⟨R', L'⟩ := mp_put (rs' := rs) (clock' := clock) R hid hb hr
      refine ⟨.tuple #[], _, G, ?_, tupR _ _ _, R', L'⟩
      simp [Builtin.delete_, h0, X.ok.run_at ht hd rfl, hg, hc, h1, run_setMap hb]
    | some p => exact h2.elim
  | some p =>
    cases o' with
    | none => exact h2.elim
    | some p' =>
      obtain ⟨n, y⟩ := p
      obtain ⟨n', u⟩ := p'
      obtain ⟨rfl, h2⟩ := h2
      have hre : EsRel w G H (es.eraseIdx n) (rs.eraseIdxIfInBounds n).toList := by
        have e : (rs.eraseIdxIfInBounds n).toList = rs.toList.eraseIdx n := by
          unfold Array.eraseIdxIfInBounds
          split
          · simp [Array.toList_eraseIdx]
          · rename_i hh; rw [List.eraseIdx_of_length_le (by simpa using hh)]
        rw [e]
        refine ⟨?_, fun j a b ha hb => ?_⟩
        · have := hr.1; rw [List.length_eraseIdx, List.length_eraseIdx, this]
        · rw [List.getElem?_eraseIdx] at ha hb
          split at ha
          · rename_i hjn; rw [if_pos hjn] at hb; exact hr.2 j a b ha hb
          · rename_i hjn; rw [if_neg hjn] at hb; exact hr.2 (j + 1) a b ha hb
      obtain ⟨R', L'⟩ := mp_put (rs' := rs.eraseIdxIfInBounds n) (clock' := clock) R hid hb hre
      refine ⟨.tuple #[], _, G, ?_, tupR _ _ _, R', L'⟩
      simp [Builtin.delete_, h0, X.ok.run_at ht hd rfl, hg, hc, h1, run_setMap hb]

theorem sameBits_cells : ∀ (n : Nat) (cs : List C) (l : List Value), (∀ x ∈ cs, ∃ k m, x = .d (.int k m)) → CsRel w G H cs l → ((l.zip l).all fun (x, y) => Instr.sameBits n x y) = true
  | n, [], l, _, h => by have : l = [] := by have := h.1; simpa using this.symm
                         subst this; rfl
  | n, c :: cs, [], _, h => by have := h.1; simp at this
  | n, c :: cs, v :: l, hc, h => by
    have h0 := h.2 0 c v rfl rfl
    have h' : CsRel w G H cs l := ⟨by have := h.1; simpa using this, fun i x u hx hu => h.2 (i + 1) x u (by simpa using hx) (by simpa using hu)⟩
    obtain ⟨k, m, rfl⟩ := hc c (by simp)
    have hv : v = .int k m := by cases h0.1 with | d _ _ h => cases h; rfl
    subst hv
    have ih := sameBits_cells n cs l (fun x hx => hc x (List.mem_cons_of_mem _ hx)) h'
    simp only [List.zip_cons_cons, List.all_cons, ih, Bool.and_true]
    cases n <;> simp [Instr.sameBits]

/-- Keys that are equal are the same value. -/
theorem keyEq_same {k k' : V} {v u : Value} (h : keyEq k k' = some true) (hv : VRel w G H k v) (hu : VRel w G H k' u) : u = v ∧ Instr.sameBits 10000 u v = true := by
  unfold keyEq at h
  split at h
  · rename_i kk a kk' b
    split at h
    · rename_i he
      subst he
      have hab : a = b := by simpa using h
      subst hab
      rw [int_rel hv, int_rel hu]
      exact ⟨rfl, by simp [Instr.sameBits]⟩
    · cases h
  · rename_i xs ys
    obtain ⟨arr, rfl, hx⟩ := agg_rel hv
    obtain ⟨arr', rfl, hy⟩ := agg_rel hu
    have key : ∀ (xs ys : List C) (l l' : List Value), eqCs xs ys = some true → CsRel w G H xs l → CsRel w G H ys l' → l' = l ∧ ∀ x ∈ ys, ∃ k m, x = .d (.int k m) := by
      intro xs
      induction xs with
      | nil =>
        intro ys l l' he hx hy
        cases ys with
        | nil =>
          have e1 : l = [] := by have := hx.1; simpa using this.symm
          have e2 : l' = [] := by have := hy.1; simpa using this.symm
          rw [e1, e2]; exact ⟨rfl, fun x h => by cases h⟩
        | cons y ys => simp [eqCs] at he
      | cons x xs ih =>
        intro ys l l' he hx hy
        cases ys with
        | nil => simp [eqCs] at he
        | cons y ys =>
          simp only [eqCs] at he
          split at he
          · rename_i p q hp hq
            have hpq : p = true ∧ q = true := by simpa using he
            obtain ⟨rfl, rfl⟩ := hpq
            cases l with
            | nil => have := hx.1; simp at this
            | cons v l =>
              cases l' with
              | nil => have := hy.1; simp at this
              | cons u l' =>
                have hx' : CsRel w G H xs l := ⟨by have := hx.1; simpa using this, fun i x u hx0 hu => hx.2 (i + 1) x u (by simpa using hx0) (by simpa using hu)⟩
                have hy' : CsRel w G H ys l' := ⟨by have := hy.1; simpa using this, fun i x u hx0 hu => hy.2 (i + 1) x u (by simpa using hx0) (by simpa using hu)⟩
                obtain ⟨e1, e2⟩ := ih ys l l' hq hx' hy'
                obtain ⟨k, m, n, hv1, hu1, hb⟩ := eqC_one hp (hx.2 0 x v rfl rfl).1 (hy.2 0 y u rfl rfl).1
                have hmn : m = n := by simpa using hb.symm
                subst hmn
                refine ⟨by rw [e1, hv1, hu1], fun z hz => ?_⟩
                rcases List.mem_cons.1 hz with rfl | hz
                · have hy0 := (hy.2 0 z u rfl rfl).1
                  unfold eqC at hp
                  split at hp
                  · exact ⟨_, _, rfl⟩
                  · cases hp
                · exact e2 z hz
          · cases he
    obtain ⟨e1, e2⟩ := key xs ys arr.toList arr'.toList h hx hy
    have e3 : arr' = arr := Array.toList_inj.1 e1
    subst e3
    refine ⟨rfl, ?_⟩
    have hs := sameBits_cells 9999 ys arr'.toList e2 hy
    show Instr.sameBits (9999 + 1) (.agg arr') (.agg arr') = true
    simp only [Instr.sameBits, beq_self_eq_true, Bool.true_and]
    exact hs
  · cases h

theorem findE_spec {k : V} : ∀ {es : List (V × V)} {n i : Nat} {y : V}, findE k es n = some (some (i, y)) → n ≤ i ∧ ∃ e, es[i - n]? = some e ∧ keyEq k e.1 = some true ∧ e.2 = y
  | [], n, i, y, h => by simp [findE] at h
  | e :: es, n, i, y, h => by
    simp only [findE] at h
    split at h
    · rename_i hb
      simp only [Option.some.injEq, Prod.mk.injEq] at h
      obtain ⟨rfl, rfl⟩ := h
      exact ⟨Nat.le_refl _, e, by simp, hb, rfl⟩
    · obtain ⟨h1, e', h2, h3⟩ := findE_spec h
      refine ⟨by omega, e', ?_, h3⟩
      have : i - n = (i - (n + 1)) + 1 := by omega
      rw [this]; simpa using h2
    · cases h

theorem does_mapUpdate {t kt et id : Nat} {i : TI} {es : List (V × V)} {k x : V} {o : Option (Nat × V)} {m v u : Value} (ht : X.tt t = some i) (hd : i.desc = .map kt et) (R : Rel w G H) (hid : H[id]? = some (.mp es))
    (hk : keyOk X kt k = true) (hf : findE k es 0 = some o) (hm : VRel w G H (.c (.mp id)) m) (hv : VRel w G H k v) (hx : VRel w G H x u) :
    ∃ w' G', (Instr.mapUpdate t m v u).run X.P w = .ok () w' ∧ Rel w' G' (H.set id (.mp (updE k x es o))) ∧ Later w G H w' G' (H.set id (.mp (updE k x es o))) := by
  obtain ⟨rs, clock, hb, hr, _⟩ := mp_at R hid
  have em : m = .map (some (G.rho id)) := by cases hm with | c _ _ h => cases h; rfl
  subst em
  have hg : (getObj (G.rho id)).run X.P w = .ok (.map rs clock) w := by simp [getObj, Sem.run, hb]
  obtain ⟨o', h1, h2⟩ := run_findKey hk hv hr hf
  have hc := run_checkKey (w := w) false hk hv
  cases o with
  | none =>
    cases o' with
    | none =>
      have hre : EsRel w G H (es ++ [(k, x)]) (rs.push { key := v, val := u, born := clock }).toList := by
        rw [Array.toList_push]
        refine ⟨by simp [hr.1], fun j a b ha hb => ?_⟩
        by_cases hj : j < es.length
        · rw [List.getElem?_append_left hj] at ha
          rw [List.getElem?_append_left (by rw [← hr.1]; exact hj)] at hb
          exact hr.2 j a b ha hb
        · rw [List.getElem?_append_right (by omega)] at ha
          rw [List.getElem?_append_right (by rw [← hr.1]; omega), ← hr.1] at hb
          cases hjj : j - es.length with
          | zero => rw [hjj] at ha hb; simp at ha hb; subst ha; subst hb; exact ⟨hv, hx⟩
          | succ q => rw [hjj] at ha; simp at ha
      obtain ⟨R', L'⟩ := mp_put (rs' := rs.push { key := v, val := u, born := clock }) (clock' := clock + 1) R hid hb hre
      refine ⟨_, G, ?_, R', L'⟩
      simp [Instr.mapUpdate, X.ok.run_at ht hd rfl, hg, hc, h1, run_setMap hb]
    | some p => exact h2.elim
  | some p =>
    cases o' with
    | none => exact h2.elim
    | some p' =>
      obtain ⟨n, y⟩ := p
      obtain ⟨n', u'⟩ := p'
      obtain ⟨rfl, h2⟩ := h2
      obtain ⟨_, e, he1, he2, _⟩ := findE_spec hf
      rw [Nat.sub_zero] at he1
      have hlt : n < rs.toList.length := by rw [← hr.1]; exact (List.getElem?_eq_some_iff.1 he1).1
      have hrn : rs.toList[n]? = some rs.toList[n] := List.getElem?_eq_getElem hlt
      have hke := (hr.2 n e _ he1 hrn).1
      obtain ⟨hs1, hs2⟩ := keyEq_same he2 hv hke
      have hra : rs[n]? = some rs.toList[n] := by rw [← Array.getElem?_toList]; exact hrn
      have hst : (Instr.keyThatStays (((rs[n]?).map (·.key)).getD v) v).run X.P w = .ok v w := by
        rw [hra]
        simp only [Option.map_some, Option.getD_some, Instr.keyThatStays]
        rw [hs1]
        rw [hs1] at hs2
        simp [hs2]
      have hre : EsRel w G H (es.set n (k, x)) (rs.modify n fun e => { e with key := v, val := u }).toList := by
        rw [Array.toList_modify]
        refine ⟨by simp [hr.1], fun j a b ha hb => ?_⟩
        rw [List.getElem?_modify] at hb
        by_cases hj : n = j
        · subst hj
          have hlt' : n < es.length := by rw [hr.1]; exact hlt
          rw [List.getElem?_set_self hlt'] at ha
          rw [hrn] at hb
          simp at ha hb
          subst ha; subst hb
          exact ⟨hv, hx⟩
        · rw [List.getElem?_set_ne hj] at ha
          exact hr.2 j a b ha (by simpa [hj] using hb)
      obtain ⟨R', L'⟩ := mp_put (rs' := rs.modify n fun e => { e with key := v, val := u }) (clock' := clock) R hid hb hre
      refine ⟨_, G, ?_, R', L'⟩
      simp [Instr.mapUpdate, X.ok.run_at ht hd rfl, hg, hc, h1, hst, run_setMap hb]
end
end Go.Abs
/- Slices that append made and that are written afterwards: blocks whose place is hidden. -/
namespace Go.Abs
open Go

theorem addr_add_add (a : Addr) (k m : Nat) : (a.add k).add m = a.add (k + m) := by
  unfold Addr.add
  by_cases hk : k = 0
  · simp [hk]
  · by_cases hm : m = 0
    · simp [hm]
    · simp [hk, hm]; omega
theorem setMany_take {α : Type} : ∀ (vs l : List α) (off n : Nat), (setMany l off vs).take n = setMany (l.take n) off vs
  | [], l, off, n => rfl
  | v :: vs, l, off, n => by rw [setMany, setMany, setMany_take vs, List.take_set]
theorem setMany_end {α : Type} {vs l : List α} {off : Nat} (h : off + vs.length ≤ l.length) : (setMany l off vs).take (off + vs.length) = l.take off ++ vs := by
  refine List.ext_getElem? fun j => ?_
  rw [List.getElem?_take, setMany_get vs l off j h]
  by_cases h1 : j < off
  · rw [if_pos (by omega), if_neg (by omega), List.getElem?_append_left (by simp; omega), List.getElem?_take, if_pos h1]
  · rw [List.getElem?_append_right (by simp; omega), List.length_take, Nat.min_eq_left (by omega)]
    by_cases h2 : j < off + vs.length
    · rw [if_pos h2, if_pos ⟨by omega, h2⟩]
    · rw [if_neg h2, List.getElem?_eq_none (by omega)]

section
variable {P : Program} {tt : Nat → Option TI} {w : World} {G : Gh} {H : List AB}

theorem vec_at (R : Rel w G H) {id n sz : Nat} {cs : List C} (h : H[id]? = some (.vec n sz cs)) (hne : 0 < cs.length) : ∃ b arr t cap, G.g id = (some ⟨b, 0, none⟩, cap) ∧ n ≤ cap ∧ G.role b = some id ∧ w.heap[b]? = some (.cells arr t (0, 0)) ∧ cap * sz ≤ arr.size ∧
    CsRel w G H cs (arr.toList.take cs.length) ∧ (∀ o, ¬ G.S b o) ∧ cs.length = n * sz := by
  cases R.ab id _ h with
  | vec _ _ _ a cap hg hcap hl h =>
    obtain ⟨b, arr, t, rfl, h2, h3, h4, h5, h6⟩ := h (by
      intro e
      have : n = 0 := by omega
      subst this
      rw [hl, Nat.zero_mul] at hne
      exact absurd hne (Nat.lt_irrefl _))
    exact ⟨b, arr, t, cap, hg, hcap, h2, h3, h4, h5, h6, hl⟩
theorem vp_rel {id n off sz b cap : Nat} {cs : List C} {v : Value} (hid : H[id]? = some (.vec n sz cs)) (hg : G.g id = (some ⟨b, 0, none⟩, cap)) (h : VRel w G H (.c (.vp id n off)) v) : v = .pointer (some ⟨b, off, none⟩) := by
  cases h with
  | c _ _ h => cases h with
    | vp _ _ _ a hl hg' =>
      obtain ⟨x, h1, h2⟩ := (hg' _ _ _ hid).2 rfl
      rw [hg] at h1
      cases h1
      rw [h2, Addr.add_lit, Nat.zero_add]

theorem yields_load_vp (T : TTok P tt) {t : Nat} {i : TI} (ht : tt t = some i) {id n off sz : Nat} {cs : List C} {a : Value} (R : Rel w G H) (hid : H[id]? = some (.vec n sz cs)) (hz : 0 < i.size) (hoff : off + i.size ≤ cs.length)
    (ha : VRel w G H (.c (.vp id n off)) a) : Yields P (Instr.loadAt t a) w G H (mkV i cs off) H := by
  obtain ⟨b, arr, t', cap, hg, hcap, hrole, hb, hsz, hr, hS, hl⟩ := vec_at R hid (by omega)
  obtain rfl := vp_rel hid hg ha
  have := yields_loadVar T ht (b := b) R hr hoff (fun j hj => by rw [cell_arr hb, List.getElem?_take, if_pos (by omega)])
  obtain ⟨v, w', G', h1, h2⟩ := this
  exact ⟨v, w', G', by simpa [Instr.loadAt, Instr.sureAddr] using h1, h2⟩

theorem does_store_vp (T : TTok P tt) {t : Nat} {i : TI} (ht : tt t = some i) {id n off sz : Nat} {cs : List C} {x : V} {a v : Value} (R : Rel w G H) (hid : H[id]? = some (.vec n sz cs)) (ha : VRel w G H (.c (.vp id n off)) a) (hx : VRel w G H x v) (hs : x.solid = true)
    (hl : x.cs.length = i.size) (hz : 0 < i.size) (hoff : off + i.size ≤ cs.length) : Does P (Instr.storeAt t a v) w G H (H.set id (.vec n sz (setMany cs off x.cs))) := by
  obtain ⟨b, arr, t', cap, hg, hcap, hrole, hb, hsz0, hr, hS, hcl⟩ := vec_at R hid (by omega)
  obtain rfl := vp_rel hid hg ha
  have hc := hx.cells hs
  have hsz : v.cells.size = i.size := by rw [← hl, hc.1]; simp
  have hlen : cs.length ≤ arr.size := by have := hr.1; simp at this; omega
  have L : Later w G H (w.putObj b (.cells (setMany arr.toList off v.cells.toList).toArray t' (0, 0))) G (H.set id (.vec n sz (setMany cs off x.cs))) :=
    Later.put_own hrole (fun j hj => absurd hj (hS j)) (fun n sz e => by cases e) (fun n' sz' cs' e _ => by cases e; exact ⟨n, sz, cs, hid, .inr rfl⟩)
  refine ⟨_, G, ?_, R.put_own hrole L (fun _ => .vec n sz _ (some ⟨b, 0, none⟩) cap hg hcap (by rw [setMany_length]; exact hcl) (fun _ => ⟨b, _, t', rfl, hrole, put_same hb, by simp [setMany_length]; omega, ?_, hS⟩)), L⟩
  · simp only [Instr.storeAt, Instr.sureAddr, Sem.run_bind, Sem.run_pure, Result.andThen_ok, storeVar, T.run_sizeOf ht, hsz, ne_eq, not_true, if_false]
    have := run_storeCells P (b := b) (off := off) (t := t') v.cells.toList 0 w arr hb (by simp; omega) hc.ones
    simpa using this
  · rw [setMany_length]
    simp only [List.toList_toArray, setMany_take]
    exact (hr.setMany off hc).mono L

theorem yields_fieldAt_vp (T : TTok P tt) {t f : Nat} {i i' : TI} {fs : Array Field} {fd : Field} (ht : tt t = some i) (hd : i.desc = .struct fs) (hf : fs[f]? = some fd) (hi : tt fd.type = some i') (hz : i'.size ≠ 0)
    {id n off : Nat} {a : Value} (R : Rel w G H) (ha : VRel w G H (.c (.vp id n off)) a) : Yields P (Instr.fieldAt t a f) w G H (.c (.vp id n (off + fd.offset))) H := by
  cases ha with
  | c _ _ ha => cases ha with
    | vp _ _ _ x hl hg =>
      refine Yields.still R (v := .pointer (some (x.add fd.offset))) ?_ (.c _ _ (.vp _ _ _ _ hl (fun m sz cs hm => ⟨(hg m sz cs hm).1, fun e => ?_⟩)))
      · obtain ⟨fs', e1, e2⟩ := T.run_struct ht hd w
        obtain ⟨fd', e3, e4, e5⟩ := field_of e2 hf
        rw [← e4] at hi
        simp [Instr.fieldAt, e1, e3, ← e5, Instr.sureAddr, fieldPlace, T.run_sizeOf hi, hz]
      · obtain ⟨y, h1, h2⟩ := (hg m sz cs hm).2 e
        exact ⟨y, h1, by rw [h2, addr_add_add]⟩

theorem yields_indexAt_vs (T : TTok P tt) {t e : Nat} {i i' : TI} (ht : tt t = some i) (hd : i.desc = .slice e) (he : tt e = some i') {k : IntKind} {n : Int} (h0 : 0 ≤ n) {id m : Nat} (h1 : n < m)
    {a ix : Value} (R : Rel w G H) (ha : VRel w G H (.c (.vs id m)) a) (hx : VRel w G H (.c (.d (.int k n))) ix) : Yields P (Instr.indexAt t a ix) w G H (.c (.vp id m (n.toNat * i'.size))) H := by
  cases ha with
  | c _ _ ha =>
    cases ha with
    | vs _ _ a cap hid hne hg =>
      obtain rfl := int_rel hx
      obtain ⟨x, rfl⟩ := hne.2 (by omega)
      refine Yields.still R (v := .pointer (some (x.add (n.toNat * i'.size)))) ?_ (.c _ _ (.vp _ _ _ _ hid (fun m' sz cs hm => ⟨(hg m' sz cs hm).1, fun e => ⟨x, by rw [(hg m' sz cs hm).2 e], rfl⟩⟩)))
      simp [Instr.indexAt, asIntOf, T.run_at ht hd rfl, T.run_sizeOf he, h0, h1]

/-- Cut to its own length: whatever is appended then goes to a new array. -/
theorem yields_slice_vs (T : TTok P tt) {t e : Nat} {i i' : TI} (ht : tt t = some i) (hd : i.desc = .slice e) (he : tt e = some i') {id n : Nat} {a : Value} (R : Rel w G H) (ha : CRel w G H (.vs id n) a) {lo hi mx : Option Value}
    (e1 : match lo with | some v => ∃ k, v = .int k ((0 : Nat) : Int) | none => True) (e2 : ∃ k, hi = some (.int k (n : Int))) (e3 : ∃ k, mx = some (.int k (n : Int))) : Yields P (Instr.sliceAt t a lo hi mx) w G H (.c (.vc id n)) H := by
  cases ha with
  | vs _ _ a cap hid hne hg =>
    obtain ⟨k2, rfl⟩ := e2
    obtain ⟨k3, rfl⟩ := e3
    have hb := run_sliceBounds_slice (P := P) (w := w) (fl := true) (len := n) (cap := cap) (lo := lo) (hi := some (.int k2 (n : Int))) (mx := some (.int k3 (n : Int))) (l := 0) (h := n) (m := n) ⟨k3, rfl, hne.1⟩ ⟨⟨k2, rfl⟩, Nat.le_refl _⟩ (by cases lo with | none => rfl | some v => exact ⟨e1, Nat.zero_le _⟩)
    refine Yields.still R (v := .slice (if n = 0 then a else a.map (·.add (0 * i'.size))) (n - 0) (n - 0)) ?_ ?_
    · simp only [Instr.sliceAt, Sem.run_bind, T.run_at ht hd rfl, Result.andThen_ok, Instr.slice, hb, T.run_sizeOf he, Sem.run_pure]
    · have ea : (if n = 0 then a else a.map (·.add (0 * i'.size))) = a := by
        split
        · rfl
        · cases a with
          | none => rfl
          | some x => simp [Addr.add]
      rw [ea]
      exact .c _ _ (.vc id n a hid hne.2 (fun m sz cs hm => ⟨(hg m sz cs hm).1, fun e => by rw [(hg m sz cs hm).2 e]⟩))

/-! ### append -/
theorem vec_inplace {id n k sz cap b : Nat} {cs new : List C} {us : List Value} (R : Rel w G H) (hid : H[id]? = some (.vec n sz cs)) (hg : G.g id = (some ⟨b, 0, none⟩, cap)) (hc : n + k ≤ cap) (hk : 0 < k) (hus : CsRel w G H new us) (hnl : new.length = k * sz) :
    ∃ w', (storeCells ⟨b, n * sz, none⟩ us).run P w = .ok () w' ∧ Rel w' G (H.set id (.vec (n + k) sz (cs ++ new))) ∧ Later w G H w' G (H.set id (.vec (n + k) sz (cs ++ new))) := by
  cases R.ab id _ hid with
  | vec _ _ _ a cap' hg' hcap hl h =>
    rw [hg] at hg'
    cases hg'
    obtain ⟨b', arr, t, e, hrole, hb, hsz, hr, hS⟩ := h (by omega)
    cases e
    have hul : us.length = k * sz := by rw [← hus.1, hnl]
    have hmul : (n + k) * sz ≤ cap * sz := Nat.mul_le_mul_right sz hc
    rw [Nat.add_mul] at hmul
    have hrun := run_storeCells P (b := b) (off := n * sz) (t := t) us 0 w arr hb (by omega) hus.ones
    simp only [Nat.add_zero] at hrun
    have L : Later w G H (w.putObj b (.cells (setMany arr.toList (n * sz) us).toArray t (0, 0))) G (H.set id (.vec (n + k) sz (cs ++ new))) :=
      Later.put_own hrole (fun j hj => absurd hj (hS j)) (fun n sz e => by cases e) (fun n' sz' cs' e _ => by cases e; exact ⟨n, sz, cs, hid, .inl (by omega)⟩)
    refine ⟨_, hrun, R.put_own hrole L (fun _ => .vec _ sz _ (some ⟨b, 0, none⟩) cap hg hc (by rw [List.length_append, hl, hnl, Nat.add_mul]) (fun _ => ⟨b, _, t, rfl, hrole, put_same hb, by simp [setMany_length]; omega, ?_, hS⟩)), L⟩
    have e1 : (cs ++ new).length = n * sz + us.length := by rw [List.length_append, hl, hnl, hul]
    rw [e1, List.toList_toArray, setMany_end (by simp; omega)]
    rw [hl] at hr
    exact (hr.append hus).mono L

theorem vec_moved {id n k sz cap : Nat} {t : TypeId} {cs new : List C} {vs us ex : List Value} (R : Rel w G H) (hid : H[id]? = some (.vec n sz cs)) (hc : n + k ≤ cap) (hk : 0 < k) (hvs : CsRel w G H cs vs) (hus : CsRel w G H new us) (hcl : cs.length = n * sz) (hnl : new.length = k * sz)
    (hex : ex.length = (cap - (n + k)) * sz) {arr : Array Value} (harr : arr.toList = vs ++ us ++ ex) :
    ∃ G', Rel (w.alloc (.cells arr t)) G' (H.set id (.vec (n + k) sz (cs ++ new))) ∧ Later w G H (w.alloc (.cells arr t)) G' (H.set id (.vec (n + k) sz (cs ++ new))) ∧
      CRel (w.alloc (.cells arr t)) G' (H.set id (.vec (n + k) sz (cs ++ new))) (.vs id (n + k)) (.slice (some ⟨w.heap.size, 0, none⟩) (n + k) cap) := by
  have hidlt : id < H.length := (List.getElem?_eq_some_iff.1 hid).1
  have hvl : vs.length = n * sz := by rw [← hvs.1, hcl]
  have hul : us.length = k * sz := by rw [← hus.1, hnl]
  have hmul : cap * sz = n * sz + k * sz + (cap - (n + k)) * sz := by
    rw [← Nat.add_mul, ← Nat.add_mul]; congr 1; omega
  have hal : arr.size = cap * sz := by
    have := congrArg List.length harr
    simp at this; omega
  let b := w.heap.size
  let G' : Gh := { G with g := upd G.g id (some ⟨b, 0, none⟩, cap), role := upd G.role b (some id) }
  have hnew : (w.alloc (.cells arr t)).heap[b]? = some (.cells arr t (0, 0)) := heap_alloc_at w _
  have L : Later w G H (w.alloc (.cells arr t)) G' (H.set id (.vec (n + k) sz (cs ++ new))) :=
    { size := by simp
      S := fun b' j hS => ⟨hS, by
        obtain ⟨v, hv⟩ := R.sex b' j hS
        exact cell_of_heap (heap_alloc_lt w _ (World.block_lt_of_cell? w _ hv)) j⟩
      Snew := fun _ _ _ _ h => h
      len := by simp
      rho := fun _ _ => rfl
      grow := fun id' n sz' hid' hh => by
        by_cases e : id = id'
        · subst e
          simp [hidlt] at hh
        · rw [List.getElem?_set_ne e] at hh
          exact ⟨n, hh, .inr ⟨rfl, upd_ne _ _ (Ne.symm e)⟩⟩
      vec := fun id' n' sz' cs' hid' hh => by
        by_cases e : id = id'
        · subst e
          simp [hidlt] at hh
          exact ⟨n, sz, cs, hid, .inl (by omega)⟩
        · rw [List.getElem?_set_ne e] at hh
          exact ⟨n', sz', cs', hh, .inr ⟨rfl, upd_ne _ _ (Ne.symm e)⟩⟩
      role := fun b' hb' => upd_ne _ _ (Nat.ne_of_lt hb')
      frame := fun b' hb' _ => heap_alloc_lt w _ hb'
      os := rfl
      out := rfl }
  refine ⟨G', ⟨fun b' j hS => ?_, fun b' i hr => ?_, fun i x hx => ?_⟩, L, ?_⟩
  · obtain ⟨v, hv⟩ := R.sex b' j hS
    exact ⟨v, ((L.S b' j hS).2).trans hv⟩
  · simp only [World.size_alloc]
    by_cases e : b' = b
    · rw [e]; exact Nat.lt_succ_self _
    · have := R.roleLt b' i (by simpa [G', upd_ne _ _ e] using hr)
      omega
  · by_cases e : id = i
    · subst e
      simp [hidlt] at hx
      rw [← hx]
      refine .vec _ _ _ (some ⟨b, 0, none⟩) cap (upd_same _ _ _) hc (by rw [List.length_append, hcl, hnl, Nat.add_mul]) (fun _ => ⟨b, arr, t, rfl, upd_same _ _ _, hnew, by omega, ?_, fun o hS => R.noS_new o hS⟩)
      have e1 : (cs ++ new).length = (vs ++ us).length := by rw [List.length_append, List.length_append, hvs.1, hus.1]
      have e2 : arr.toList.take (cs ++ new).length = vs ++ us := by rw [harr, e1, List.take_left']; rfl
      rw [e2]
      exact (hvs.append hus).mono L
    · rw [List.getElem?_set_ne e] at hx
      exact (R.ab i x hx).mono R L (List.getElem?_eq_some_iff.1 hx).1 (fun b' hb' => heap_alloc_lt w _ (R.roleLt b' i hb')) (fun b' j hb' hS => hS) (upd_ne _ _ (Ne.symm e))
  · refine .vs id (n + k) _ cap (by simpa using hidlt) ⟨hc, fun _ => ⟨_, rfl⟩⟩ (fun m sz' cs' hm => ?_)
    simp [hidlt] at hm
    exact ⟨by omega, fun _ => upd_same _ _ _⟩

/-- The cells of such a slice, read. -/
theorem run_firstCells_vec {id n sz cap : Nat} {cs : List C} {a : Option Addr} (R : Rel w G H) (hid : H[id]? = some (.vec n sz cs)) (ha : (G.g id).1 = a) :
    ∃ vs : List Value, (∀ w' : World, w'.heap = w.heap → (Builtin.firstCells sz n (.slice a n cap)).run P w' = .ok vs.toArray w') ∧ CsRel w G H cs vs := by
  by_cases hne : 0 < cs.length
  · obtain ⟨b, arr, t, cap', hg, hcap, hrole, hb, hsz, hr, hS, hl⟩ := vec_at R hid hne
    rw [hg] at ha
    subst ha
    have hlen : cs.length ≤ arr.size := by have := hr.1; simp at this; omega
    refine ⟨arr.toList.take cs.length, fun w' hw => ?_, hr⟩
    have := run_loadCells_list (P := P) w' ⟨b, 0, none⟩ (arr.toList.take cs.length) (fun j v hj => by
      rw [Addr.add_lit, Nat.zero_add, cell_of_heap (w := w) (by rw [hw]), cell_arr hb]
      rw [List.getElem?_take] at hj
      split at hj
      · exact hj
      · cases hj)
    have hl2 : (arr.toList.take cs.length).length = n * sz := by rw [← hr.1]; exact hl
    rw [hl2] at this
    simpa [Builtin.firstCells] using this
  · have hc0 : cs = [] := List.eq_nil_of_length_eq_zero (by omega)
    subst hc0
    have hz : n * sz = 0 := by
      cases R.ab id _ hid with
      | vec _ _ _ _ _ _ _ hl _ => simpa using hl.symm
    refine ⟨[], fun w' _ => ?_, CsRel.nil⟩
    cases a with
    | none => simp [Builtin.firstCells]
    | some x => simp [Builtin.firstCells, hz, loadCells, loadCellsFrom]

theorem yields_append_vec (T : TTok P tt) {t t2 e : Nat} {i i2 i' : TI} (ht : tt t = some i) (hd : i.desc = .slice e) (ht2 : tt t2 = some i2) (hd2 : ∃ e', i2.desc = .slice e') (he : tt e = some i')
    {id n k cap : Nat} {cs new : List C} {a ax : Option Addr} {capx : Nat} {us : List Value} {ty : TypeId} (R : Rel w G H) (hid : H[id]? = some (.vec n i'.size cs)) (ha : (G.g id).1 = a) (hne : n ≠ 0 → ∃ x, a = some x) (hcapn : n ≤ cap) (hfit : n + k ≤ cap → G.g id = (a, cap))
    (hus1 : ∀ w' : World, w'.heap = w.heap → (Builtin.firstCells i'.size k (.slice ax k capx)).run P w' = .ok us.toArray w') (hus2 : CsRel w G H new us) (hnl : new.length = k * i'.size)
    (hb : (n + k + (n + k) / 4 + 256) * i'.bytes ≤ 281474976710656) (hl : n + k ≤ lim) :
    Yields P (Builtin.append_ #[t, t2] ty #[.slice a n cap, .slice ax k capx]) w G H (.c (.vs id (n + k))) (H.set id (.vec (n + k) i'.size (cs ++ new))) := by
  obtain ⟨e', hd2⟩ := hd2
  have hidlt : id < H.length := (List.getElem?_eq_some_iff.1 hid).1
  obtain ⟨inf, hi1, hi2⟩ := T.run_bytes he w
  have hcl : cs.length = n * i'.size ∧ n ≤ (G.g id).2 := by
    cases R.ab id _ hid with
    | vec _ _ _ a' cap' hg' hcap' hl' _ => exact ⟨hl', by rw [hg']; exact hcap'⟩
  obtain ⟨hcl, hcap0⟩ := hcl
  by_cases hc : n + k ≤ cap
  · have hg := hfit hc
    by_cases h0 : k = 0
    · subst h0
      have hn0 : new = [] := List.eq_nil_of_length_eq_zero (by rw [hnl, Nat.zero_mul])
      subst hn0
      have hus0 : us = [] := by have := hus2.1; simpa using this.symm
      subst hus0
      have hset : H.set id (.vec (n + 0) i'.size (cs ++ [])) = H := by
        simp only [Nat.add_zero, List.append_nil]
        apply List.ext_getElem?
        intro j
        by_cases e : id = j
        · subst e; simp [hidlt]; rw [List.getElem?_eq_getElem hidlt] at hid; exact (Option.some.inj hid).symm
        · rw [List.getElem?_set_ne e]
      rw [hset]
      refine Yields.still R (v := .slice a n cap) ?_ (.c _ _ (.vs id n a cap hidlt ⟨hcapn, hne⟩ (fun m sz cs' hm => by rw [hid] at hm; cases hm; exact ⟨Nat.le_refl _, fun _ => hg⟩)))
      have := hus1 w rfl
      simp only [Nat.add_zero] at hc
      cases a <;> simp [Builtin.append_, T.run_at ht hd rfl, T.run_sizeOf he, T.run_at ht2 hd2 rfl, Builtin.lenOf, hc, this, storeCells]
    · obtain ⟨b, rfl⟩ : ∃ b, a = some ⟨b, 0, none⟩ := by
        cases R.ab id _ hid with
        | vec _ _ _ a' cap' hg' hcap' hl' hh =>
          rw [hg] at hg'; cases hg'
          obtain ⟨b, _, _, e, _⟩ := hh (by omega)
          exact ⟨b, e⟩
      obtain ⟨w', h1, h2, h3⟩ := vec_inplace (P := P) R hid hg hc (by omega) hus2 hnl
      refine ⟨.slice (some ⟨b, 0, none⟩) (n + k) cap, w', G, ?_, .c _ _ (.vs id (n + k) _ cap (by simpa using hidlt) ⟨hc, fun _ => ⟨_, rfl⟩⟩ (fun m sz cs' hm => ?_)), h2, h3⟩
      · simp [Builtin.append_, T.run_at ht hd rfl, T.run_sizeOf he, T.run_at ht2 hd2 rfl, Builtin.lenOf, hc, hus1 w rfl, Addr.add_lit, h1]
      · simp [hidlt] at hm
        exact ⟨by omega, fun _ => hg⟩
  · obtain ⟨vs, hvs1, hvs2⟩ := run_firstCells_vec (P := P) (cap := cap) R hid ha
    obtain ⟨z, hz0, _, hz2, hz3⟩ := T.run_zero he
    have hzs : z.cells.size = i'.size := by have := (zeroCs_rel (w := w) (G := G) (H := H) hz2).1; simp at this; omega
    have hnext : ¬ (Builtin.nextslicecap (n + k) cap * inf.bytes > 2 ^ 48) := by
      have := nextslicecap_le (need := n + k) (cap := cap) (by omega)
      rw [hi2]
      have := Nat.mul_le_mul_right i'.bytes this
      omega
    have hint : ¬ (((n + k : Nat) : Int) > IntKind.i64.max ∧ (false = true ∨ inf.bytes = 0)) := by
      intro h
      have h1 := h.1
      have : IntKind.i64.max = 9223372036854775807 := by decide
      rw [this] at h1
      have : (lim : Nat) = 140737488355328 := rfl
      omega
    have hint' : ¬ (((n + k : Nat) : Int) > IntKind.i64.max ∧ (False ∨ inf.bytes = 0)) := fun h => hint ⟨h.1, by simpa using h.2⟩
    let q := Question.appendCap (n + k) cap e
    let newCap := q.cut (w.tape w.drawn q)
    have hnc : n + k ≤ newCap := by
      show _ ≤ (n + k) + _
      omega
    obtain ⟨R1, L1⟩ := Rel.of_heap (w := w) (w' := w.drew) rfl R
    let arr : Array Value := vs.toArray ++ us.toArray ++ Builtin.zeroCells z.cells (newCap - (n + k))
    have hzl : (Builtin.zeroCells z.cells (newCap - (n + k))).toList = zc z.cells.toList (newCap - (n + k)) := rangeMap_toList _ _
    obtain ⟨G', h2, h3, h4⟩ := vec_moved (w := w.drew) (t := e) R1 hid hnc (by omega) (hvs2.mono L1) (hus2.mono L1) hcl hnl (ex := zc z.cells.toList (newCap - (n + k))) (by rw [zc_length]; simp [hzs]) (arr := arr) (by simp [arr, hzl])
    refine ⟨_, _, G', ?_, .c _ _ h4, h2, L1.trans h3⟩
    have hz0' := fun w' => hz0 w'
    have hi1' : ∀ w' : World, (typeInfo e).run P w' = .ok inf w' := fun w' => by
      have := hi1
      simp only [typeInfo, Sem.run_bind, run_program, Result.andThen_ok] at this ⊢
      cases hinf : P.info? e with
      | none => simp [hinf] at this
      | some x => simp [hinf] at this ⊢; exact this
    have hch : (choose (Question.appendCap (n + k) cap e)).run P w = .ok newCap w.drew := by
      rw [run_choose]; rfl
    simp only [Builtin.append_, List.getElem?_toArray, List.getElem?_cons_zero, List.getElem?_cons_succ, Sem.run_bind, T.run_at ht hd rfl, Result.andThen_ok, T.run_sizeOf he, T.run_at ht2 hd2 rfl, Builtin.lenOf, Sem.run_pure, Bool.false_eq_true, if_false, hc, hi1', if_neg hint', if_neg hnext, hch, run_askRoom, Bool.not_false, if_true, hvs1 w.drew rfl, hus1 w.drew rfl, hz0']
    simp only [newRow, Sem.run_bind, run_newObj, Result.andThen_ok, Sem.run_pure]
    rfl

/-- A slice of no element, under a name of its own. -/
theorem adopt_vec {v : Value} (R : Rel w G H) (h : CRel w G H (.full []) v) (sz : Nat) :
    ∃ G' a, Rel w G' (H ++ [.vec 0 sz []]) ∧ Later w G H w G' (H ++ [.vec 0 sz []]) ∧ v = .slice a 0 0 ∧ G'.g H.length = (a, 0) := by
  cases h with
  | full _ a n hn h =>
    subst hn
    have L : Later w G H w (G.adopt H.length a 0) (H ++ [.vec 0 sz []]) :=
      { size := Nat.le_refl _
        S := fun _ _ h => ⟨h, rfl⟩
        Snew := fun _ _ _ _ h => h
        len := by simp
        rho := fun _ _ => rfl
        grow := fun id n sz' hid h => ⟨n, by rwa [List.getElem?_append_left hid] at h, .inr ⟨rfl, upd_ne _ _ (Nat.ne_of_lt hid)⟩⟩
        vec := fun id n sz' cs hid h => ⟨n, sz', cs, by rwa [List.getElem?_append_left hid] at h, .inr ⟨rfl, upd_ne _ _ (Nat.ne_of_lt hid)⟩⟩
        role := fun _ _ => rfl
        frame := fun _ _ _ => rfl
        os := rfl
        out := rfl }
    refine ⟨G.adopt H.length a 0, a, ⟨R.sex, R.roleLt, fun id x hx => ?_⟩, L, rfl, upd_same _ _ _⟩
    by_cases e : id < H.length
    · rw [List.getElem?_append_left e] at hx
      exact (R.ab id x hx).mono R L e (fun _ _ => rfl) (fun _ _ _ h => h) (upd_ne _ _ (Nat.ne_of_lt e))
    · have : id = H.length := by
        have := (List.getElem?_eq_some_iff.1 hx).1
        simp at this
        omega
      subst this
      simp at hx
      rw [← hx]
      exact .vec _ _ _ a 0 (upd_same _ _ _) (Nat.le_refl _) (by simp) (fun e => absurd rfl e)

/-- The cells of a source. -/
def srcC (H : List AB) (sz : Nat) : C → Option (Nat × List C)
  | .vs id n => match H[id]? with
    | some (.vec m sz' cs) => if decide (m = n) && decide (sz' = sz) then some (n, cs) else none
    | _ => none
  | .ms id off len _ => match H[id]? with
    | some (.cells cs) => if off + len * sz ≤ cs.length then some (len, (cs.drop off).take (len * sz)) else none
    | _ => none
  | .fs n sz' cs => if sz' = sz then some (n, cs) else none
  | c => match rowsOf c with
    | some rows => if rows.all (fun r => r.length == sz) then some (rows.length, rows.flatten.map .d) else none
    | none => none
theorem srcC_of {c : C} {sz k : Nat} {new : List C} {v : Value} (hz : 0 < sz) (R : Rel w G H) (h : srcC H sz c = some (k, new)) (hv : CRel w G H c v) :
    ∃ ax capx us, v = .slice ax k capx ∧ (∀ w' : World, w'.heap = w.heap → (Builtin.firstCells sz k (.slice ax k capx)).run P w' = .ok us.toArray w') ∧ CsRel w G H new us ∧ new.length = k * sz := by
  have data : ∀ rows : List (List D), rowsOf c = some rows → (if rows.all (fun r => r.length == sz) then some (rows.length, rows.flatten.map C.d) else none) = some (k, new) → ∃ ax capx us, v = .slice ax k capx ∧ (∀ w' : World, w'.heap = w.heap → (Builtin.firstCells sz k (.slice ax k capx)).run P w' = .ok us.toArray w') ∧ CsRel w G H new us ∧ new.length = k * sz := by
    intro rows hr h
    split at h
    · rename_i hall
      cases h
      have hu : ∀ r ∈ rows, r.length = sz := fun r hr => by simpa using List.all_eq_true.1 hall r hr
      obtain ⟨ax, capx, rfl, hD⟩ := rowsOf_rel hr hv
      obtain ⟨us, h1, h2, _⟩ := run_firstCells (P := P) (H := H) hD hu hz
      exact ⟨ax, capx, us, rfl, h1, h2, by rw [List.length_map, flatten_length hu]⟩
    · cases h
  cases c with
  | vs id n =>
    simp only [srcC] at h
    split at h
    · rename_i m sz' cs hid
      split at h
      · rename_i hc
        simp only [Bool.and_eq_true, decide_eq_true_eq] at hc
        obtain ⟨rfl, rfl⟩ := hc
        cases h
        cases hv with
        | vs _ _ a cap _ ha hg =>
          obtain ⟨us, h1, h2⟩ := run_firstCells_vec (P := P) (cap := cap) R hid (show (G.g id).1 = a by rw [(hg _ _ _ hid).2 rfl])
          refine ⟨a, cap, us, rfl, h1, h2, ?_⟩
          cases R.ab id _ hid with
          | vec _ _ _ _ _ _ _ hl _ => exact hl
      · cases h
    · cases h
  | ms id off len cap =>
    simp only [srcC] at h
    split at h
    · rename_i cs hid
      split at h
      · rename_i hle
        cases h
        cases hv with
        | ms _ _ _ _ hidl =>
          obtain ⟨arr, t, hb, hr⟩ := cells_at R hid
          have hl := hr.1
          have hr' := (hr.drop off).take (k * sz)
          have hlen : ((arr.toList.drop off).take (k * sz)).length = k * sz := by rw [List.length_take, List.length_drop, ← hl]; omega
          refine ⟨_, cap, (arr.toList.drop off).take (k * sz), rfl, fun w' hw => ?_, hr', by rw [List.length_take, List.length_drop]; omega⟩
          have := run_loadCells_list (P := P) w' ⟨G.rho id, off, none⟩ ((arr.toList.drop off).take (k * sz)) (fun j v hj => by
            rw [Addr.add_lit, cell_of_heap (w := w) (by rw [hw]), cell_arr hb]
            rw [List.getElem?_take] at hj
            split at hj
            · rwa [List.getElem?_drop] at hj
            · cases hj)
          rw [hlen] at this
          simpa [Builtin.firstCells] using this
      · cases h
    · cases h
  | fs n sz' cs =>
    simp only [srcC] at h
    split at h
    · rename_i e
      subst e
      cases h
      cases hv with
      | fs _ _ _ b o vs hl hn hcell hh =>
        refine ⟨_, _, vs, rfl, fun w' hw => ?_, ⟨hl, fun i x v hx hv => ⟨hh i x v hx hv, (hcell i v hv).2⟩⟩, hn⟩
        have := run_loadCells_list (P := P) w' ⟨b, o, none⟩ vs (fun j v hj => by
          rw [Addr.add_lit, cell_of_heap (w := w) (by rw [hw])]
          exact (hcell j v hj).1.2)
        rw [← hl, hn] at this
        simpa [Builtin.firstCells] using this
    · cases h
  | d x => simp only [srcC] at h; split at h; exact data _ (by assumption) h; cases h
  | full x => simp only [srcC] at h; split at h; exact data _ (by assumption) h; cases h
  | own i x => simp only [srcC] at h; split at h; exact data _ (by assumption) h; cases h
  | _ => simp [srcC, rowsOf] at h

/-- A new block of cells that nobody writes, as a slice. -/
theorem yields_row_fs {t : TypeId} {n sz : Nat} {cs : List C} {arr : Array Value} (R : Rel w G H) (hc : CsRel w G H cs arr.toList) (hsz : cs.length = n * sz) :
    Yields P (do pure (.slice (some (← newRow t arr)) n n)) w G H (.c (.fs n sz cs)) H := by
  have L := Later.alloc_data R (.cells arr t) arr.size
  refine ⟨.slice (some ⟨w.heap.size, 0, none⟩) n n, w.alloc (.cells arr t), G.lay w.heap.size arr.size, ?_, ?_, R.alloc_data arr t, L⟩
  · simp [newRow]
  · refine .c _ _ (.fs n sz cs _ 0 arr.toList hc.1 hsz (fun j v hj => ⟨⟨.inr ⟨rfl, ?_⟩, ?_⟩, ?_⟩) (fun i x v hx hv => (hc.2 i x v hx hv).1.mono L))
    · have := (List.getElem?_eq_some_iff.1 hj).1; simpa using this
    · rw [Nat.zero_add, World.cell?_alloc_new]; simpa using hj
    · have hlt : j < cs.length := by rw [hc.1]; exact (List.getElem?_eq_some_iff.1 hj).1
      exact (hc.2 j cs[j] v (by simp [hlt]) hj).2
theorem yields_buildSlice_fs (T : TTok P tt) {t n e : Nat} {i i' : TI} (ht : tt t = some i) (hd : i.desc = .slice e) (he : tt e = some i') {ps : Array (Nat × Value)} {qs : List (Nat × V)} {cs : List C}
    (R : Rel w G H) (hq : PsRel w G H qs ps.toList) (hf : fillC (fun k => some (k * i'.size, i'.size)) (zc i'.zero.cs n) qs = some cs) (h0 : 0 < n * i'.size) (hlim : n * i'.size ≤ 2 ^ 24) :
    Yields P (Instr.buildSlice t n ps) w G H (.c (.fs n i'.size cs)) H := by
  obtain ⟨z, hz, h1, h2, h3⟩ := T.run_zero he
  have hz2 := (zeroCs_rel (w := w) (G := G) (H := H) h2)
  have hzs : z.cells.size = i'.size := by have := hz2.1; simp at this; omega
  have hcl : cs.length = n * i'.size := by
    have hzl : (zc i'.zero.cs n).length = n * i'.size := by rw [zc_length, h3]
    have : ∀ (qs : List (Nat × V)) (c c' : List C), fillC (fun k => some (k * i'.size, i'.size)) c qs = some c' → c'.length = c.length := by
      intro qs
      induction qs with
      | nil => intro c c' h; simp [fillC] at h; rw [h]
      | cons q qs ih =>
        intro c c' h
        obtain ⟨k, v⟩ := q
        simp only [fillC] at h
        split at h
        · rw [ih _ _ h, setMany_length]
        · cases h
    rw [this _ _ _ hf, hzl]
  have hc0 : CsRel w G H (zc i'.zero.cs n) ((Array.range (n * i'.size)).map (fun i => z.cells[i % z.cells.size]!)).toList := by
    rw [← hzs, rangeMap_toList]
    exact zc_rel hz2 n
  obtain ⟨arr', h4, h5, _⟩ := fill_rel hq hc0 hf
  obtain ⟨v, w', G', h6, h7⟩ := yields_row_fs (P := P) (t := e) (n := n) (sz := i'.size) R h5 hcl
  refine ⟨v, w', G', ?_, h7⟩
  have h0' : ¬ n * i'.size = 0 := by omega
  simp only [Instr.buildSlice, Sem.run_bind, T.run_at ht hd rfl, Result.andThen_ok, T.run_sizeOf he, gt_iff_lt, Nat.not_lt.2 hlim, if_false, h0', Sem.run_ite, hz, Sem.run_pure, h4]
  simpa using h6

/-- The length of a slice of any kind. -/
def lenV : C → Option Nat
  | .vs _ n => some n
  | .vc _ n => some n
  | .fs n _ _ => some n
  | c => lenC c
theorem yields_lenV {X : Tx} {t e : Nat} {i : TI} (ht : X.tt t = some i) (hd : i.desc = .slice e) {c : C} {n : Nat} {x : Value} {ty : TypeId} (R : Rel w G H) (hc : lenV c = some n) (hx : CRel w G H c x) :
    Yields X.P (Builtin.len_ #[t] ty #[x]) w G H (I n) H := by
  have key : ∀ a cap, x = .slice a n cap → Yields X.P (Builtin.len_ #[t] ty #[x]) w G H (I n) H := by
    rintro a cap rfl
    refine Yields.still R (v := .int .i64 n) ?_ (.c _ _ (.d _ _ (.int _ _)))
    simp [Builtin.len_, X.ok.run_at ht hd rfl, goInt]
  cases c with
  | vs id m => simp [lenV] at hc; subst hc; cases hx; exact key _ _ rfl
  | vc id m => simp [lenV] at hc; subst hc; cases hx; exact key _ _ rfl
  | fs m sz cs => simp [lenV] at hc; subst hc; cases hx; exact key _ _ rfl
  | _ => obtain ⟨a, cap, e⟩ := lenC_rel (by simpa only [lenV] using hc) hx; exact key a cap e
end
end Go.Abs
