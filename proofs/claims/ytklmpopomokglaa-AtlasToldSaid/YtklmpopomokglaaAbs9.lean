/- Numbers; slices: made, cut, appended to, copied. -/
import Derived.Test.YtklmpopomokglaaAbs8
set_option linter.unusedSimpArgs false
set_option linter.unusedVariables false
namespace Go.Abs
open Go

/-- Wrapping, quick where it does nothing. -/
def wr : IntKind → Int → Int
  | .i64, n => if -9223372036854775808 ≤ n ∧ n ≤ 9223372036854775807 then n else IntKind.i64.wrap n
  | k, n => k.wrap n

theorem wrap_i64 (n : Int) (h : -9223372036854775808 ≤ n ∧ n ≤ 9223372036854775807) : IntKind.i64.wrap n = n := by
  simp only [IntKind.wrap, IntKind.bits, IntKind.signed]; simp; split <;> omega
theorem wr_eq (k : IntKind) (n : Int) : wr k n = k.wrap n := by
  cases k <;> simp only [wr]
  split
  · rename_i h; exact (wrap_i64 n h).symm
  · rfl
theorem wr_i64 (n : Int) (h1 : -9223372036854775808 ≤ n) (h2 : n ≤ 9223372036854775807) : wr .i64 n = n := by simp [wr, h1, h2]
theorem wr_u8 (n : Int) (h1 : 0 ≤ n) (h2 : n < 256) : wr .u8 n = n := by
  rw [wr_eq]; simp [IntKind.wrap, IntKind.bits, IntKind.signed]; omega
theorem wr_u16 (n : Int) (h1 : 0 ≤ n) (h2 : n < 65536) : wr .u16 n = n := by
  rw [wr_eq]; simp [IntKind.wrap, IntKind.bits, IntKind.signed]; omega
theorem wr_u32 (n : Int) (h1 : 0 ≤ n) (h2 : n < 4294967296) : wr .u32 n = n := by
  rw [wr_eq]; simp [IntKind.wrap, IntKind.bits, IntKind.signed]; omega
theorem wr_u64 (n : Int) (h1 : 0 ≤ n) (h2 : n < 18446744073709551616) : wr .u64 n = n := by
  rw [wr_eq]; simp [IntKind.wrap, IntKind.bits, IntKind.signed]; omega

section
variable {P : Program} {tt : Nat → Option TI} {w : World} {G : Gh} {H : List AB}

theorem zc_rel {cs : List C} {vs : List Value} (h : CsRel w G H cs vs) : ∀ n, CsRel w G H (zc cs n) (zc vs n)
  | 0 => CsRel.nil
  | n + 1 => by rw [zc_succ, zc_succ]; exact h.append (zc_rel h n)

theorem yields_makeSlice (T : TTok P tt) {t e : Nat} {i i' : TI} (ht : tt t = some i) (hd : i.desc = .slice e) (he : tt e = some i') {k k' : IntKind} {n c : Int} (h0 : 0 ≤ n) (h1 : n ≤ c) (h2 : (i'.bytes : Int) * c ≤ 140737488355328) (h3 : c ≤ lim)
    {a b : Value} (R : Rel w G H) (ha : VRel w G H (.c (.d (.int k n))) a) (hb : VRel w G H (.c (.d (.int k' c))) b) :
    Yields P (Instr.makeSlice t a b) w G H (.c (.ms H.length 0 n.toNat c.toNat)) (H ++ [.cells (zc i'.zero.cs c.toNat)]) := by
  obtain rfl := int_rel ha
  obtain rfl := int_rel hb
  obtain ⟨z, hz, hz1, hz2, hz3⟩ := T.run_zero he
  obtain ⟨inf, hi1, hi2⟩ := T.run_bytes he w
  have hzr := zeroCs_rel (w := w) (G := G) (H := H) hz2
  have hzs : z.cells.size = i'.size := by have := hzr.1; simp at this; omega
  have lim' : (lim : Int) = 140737488355328 := rfl
  have wn : IntKind.i64.wrap n = n := wrap_i64 n (by omega)
  have wc : IntKind.i64.wrap c = c := wrap_i64 c (by omega)
  have key : ∀ arr : Array Value, CsRel w G H (zc i'.zero.cs c.toNat) arr.toList → Yields P (do pure (.slice (some (← newRow e arr)) n.toNat c.toNat)) w G H (.c (.ms H.length 0 n.toNat c.toNat)) (H ++ [.cells (zc i'.zero.cs c.toNat)]) := fun arr hc => by
    refine ⟨.slice (some ⟨w.heap.size, 0, none⟩) n.toNat c.toNat, w.alloc (.cells arr e), G.own H.length w.heap.size, by simp [newRow], ?_, R.alloc_cells e hc, Later.alloc_own R _ _⟩
    have := CRel.ms (w := w.alloc (.cells arr e)) (G := G.own H.length w.heap.size) (H := H ++ [.cells (zc i'.zero.cs c.toNat)]) H.length 0 n.toNat c.toNat (by simp)
    simp only [Gh.own, upd_same] at this
    exact .c _ _ this
  have t1 : (decide (n < 0) || decide ((i'.bytes : Int) * n > 2 ^ 48)) = false := by
    have : (i'.bytes : Int) * n ≤ (i'.bytes : Int) * c := Int.mul_le_mul_of_nonneg_left h1 (by omega)
    simp; omega
  have t2 : (decide (c < 0) || decide ((i'.bytes : Int) * c > 2 ^ 48)) = false := by simp; omega
  have t3 : (decide (n < 0) || decide (n > c)) = false := by simp; omega
  by_cases hn : c.toNat * i'.size = 0
  · obtain ⟨v, w', G', e1, e2⟩ := key #[] (by
      have : zc i'.zero.cs c.toNat = [] := List.eq_nil_of_length_eq_zero (by rw [zc_length, hz3]; exact hn)
      rw [this]; exact CsRel.nil)
    refine ⟨v, w', G', ?_, e2⟩
    simp only [Instr.makeSlice, Sem.run_bind, T.run_at ht hd rfl, Result.andThen_ok, asInt, asIntOf, Sem.run_pure, hi1, hi2, wn, wc, t2, t3, Bool.false_or, Bool.false_eq_true, if_false, run_askRoom, T.run_sizeOf he, hn, if_true, Sem.run_ite]
    simpa [Array.range_zero'] using e1
  · obtain ⟨v, w', G', e1, e2⟩ := key ((Array.range (c.toNat * i'.size)).map (fun j => z.cells[j % z.cells.size]!)) (by
      rw [← hzs, rangeMap_toList]; exact zc_rel hzr _)
    refine ⟨v, w', G', ?_, e2⟩
    simp only [Instr.makeSlice, Sem.run_bind, T.run_at ht hd rfl, Result.andThen_ok, asInt, asIntOf, Sem.run_pure, hi1, hi2, wn, wc, t2, t3, Bool.false_or, Bool.false_eq_true, if_false, run_askRoom, T.run_sizeOf he, hn, Sem.run_ite, hz]
    simpa using e1

/-! ### A slice expression -/
theorem run_sliceBounds_slice {fl : Bool} {len cap : Nat} {lo hi mx : Option Value} {l h m : Nat} (hm : match mx with | some v => ∃ k, v = .int k m ∧ m ≤ cap | none => m = cap)
    (hh : match hi, mx with | some v, _ => (∃ k, v = .int k h) ∧ h ≤ m | none, none => h = len | none, some _ => False)
    (hl : match lo with | some v => (∃ k, v = .int k l) ∧ l ≤ h | none => l = 0) : (Instr.sliceBounds fl len cap lo hi mx).run P w = .ok (l, h, m) w := by
  have sb : ∀ (k : IntKind) (x y : Nat) (c : BoundsCode), x ≤ y → (Instr.sliceBound (.int k x) y c).run P w = .ok x w := fun k x y c h => by
    have : (0 : Int) ≤ x ∧ (x : Int) ≤ y := by omega
    simp [Instr.sliceBound, asIntOf, this]
  unfold Instr.sliceBounds
  cases mx with
  | none =>
    simp only at hm
    subst hm
    cases hi with
    | none =>
      simp only at hh
      subst hh
      cases lo with
      | none => simp only at hl; subst hl; simp
      | some v => obtain ⟨⟨k, rfl⟩, h2⟩ := hl; simp [sb k l h _ h2]
    | some u =>
      obtain ⟨⟨k', rfl⟩, h1⟩ := hh
      cases lo with
      | none => simp only at hl; subst hl; simp [sb k' h m _ h1]
      | some v => obtain ⟨⟨k, rfl⟩, h2⟩ := hl; simp [sb k l h _ h2, sb k' h m _ h1]
  | some x =>
    obtain ⟨k0, rfl, h0⟩ := hm
    cases hi with
    | none => exact hh.elim
    | some u =>
      obtain ⟨⟨k', rfl⟩, h1⟩ := hh
      cases lo with
      | none => simp only at hl; subst hl; simp [sb k' h m _ h1, sb k0 m cap _ h0]
      | some v => obtain ⟨⟨k, rfl⟩, h2⟩ := hl; simp [sb k l h _ h2, sb k' h m _ h1, sb k0 m cap _ h0]

theorem drel_cut {S : Nat → Nat → Prop} {rows : List (List D)} {b o sz : Nat} {f : Nat → Nat → Value} (hlim : rows.length ≤ lim)
    (hsz : ∀ (i : Nat) (r : List D), rows[i]? = some r → r.length = sz) (hcell : ∀ i j, i < rows.length → j < sz → S b (o + i * sz + j) ∧ w.cell? ⟨b, o + i * sz + j, none⟩ = some (f i j))
    (hrel : ∀ (i j : Nat) (r : List D) (x : D), rows[i]? = some r → r[j]? = some x → DRel w S x (f i j)) {l h : Nat} (hh : h ≤ rows.length) (hl : l ≤ h) {cap' : Nat} (hc : h - l ≤ cap') :
    DRel w S (.sl ((rows.take h).drop l)) (.slice (some ⟨b, o + l * sz, none⟩) (h - l) cap') := by
  have hL : ((rows.take h).drop l).length = h - l := by simp; omega
  have get : ∀ i r, ((rows.take h).drop l)[i]? = some r → rows[l + i]? = some r := fun i r hr => by
    rw [List.getElem?_drop, List.getElem?_take] at hr
    split at hr
    · exact hr
    · cases hr
  have key := DRel.sl (w := w) (S := S) ((rows.take h).drop l) b (o + l * sz) cap' sz (fun i j => f (l + i) j) (by omega) (by omega) (fun i r hr => hsz (l + i) r (get i r hr)) (fun i j hi hj => by
    have := hcell (l + i) j (by omega) hj
    have e : o + l * sz + i * sz + j = o + (l + i) * sz + j := by rw [Nat.add_mul]; omega
    rw [e]; exact this) (fun i j r x hr hx => hrel (l + i) j r x (get i r hr) hx)
  rw [hL] at key; exact key

/-- Cutting a slice of data. 'mx': the third index is there, and is the second. -/
theorem yields_slice (T : TTok P tt) {t e : Nat} {i i' : TI} (ht : tt t = some i) (hd : i.desc = .slice e) (he : tt e = some i') {x : C} {rows : List (List D)} (hx : rowsOf x = some rows)
    (hrow : ∀ r ∈ rows, r.length = i'.size) {l h : Nat} (hh : h ≤ rows.length) (hl : l ≤ h) {a : Value} {lo hi mx : Option Value} (R : Rel w G H) (ha : VRel w G H (.c x) a)
    (e1 : match lo with | some v => ∃ k, v = .int k l | none => l = 0) (e2 : match hi with | some v => ∃ k, v = .int k h | none => h = rows.length)
    (e3 : match mx with | some v => (∃ k, v = .int k h) ∧ hi.isSome = true | none => True) :
    Yields P (Instr.sliceAt t a lo hi mx) w G H (.c (if mx.isSome then .full ((rows.take h).drop l) else .d (.sl ((rows.take h).drop l)))) H := by
  cases ha with
  | c _ _ ha =>
    obtain ⟨ad, cap, rfl, hD⟩ := rowsOf_rel hx ha
    have hcap : rows.length ≤ cap ∨ rows = [] := by
      cases hD with
      | emp => exact .inr rfl
      | sl _ _ _ _ _ _ hc => exact .inl hc
    have hcap' : rows.length ≤ cap := by
      rcases hcap with h | h
      · exact h
      · subst h; simp
    obtain ⟨m, hm, hb⟩ : ∃ m, (mx.isSome = true → m = h) ∧ (Instr.sliceBounds true rows.length cap lo hi mx).run P w = .ok (l, h, m) w ∧ h ≤ m := by
      cases mx with
      | none =>
        refine ⟨cap, by simp, run_sliceBounds_slice rfl ?_ ?_, by omega⟩
        · cases hi with
          | none => exact e2
          | some v => exact ⟨e2, by omega⟩
        · cases lo with
          | none => exact e1
          | some v => exact ⟨e1, hl⟩
      | some v =>
        obtain ⟨⟨k, rfl⟩, h3⟩ := e3
        refine ⟨h, by simp, run_sliceBounds_slice ⟨k, rfl, by omega⟩ ?_ ?_, Nat.le_refl _⟩
        · cases hi with
          | none => simp at h3
          | some v => exact ⟨e2, Nat.le_refl _⟩
        · cases lo with
          | none => exact e1
          | some v => exact ⟨e1, hl⟩
    obtain ⟨hb, hhm⟩ := hb
    have hlen : ((rows.take h).drop l).length = h - l := by simp; omega
    have hD' : DRel w G.S (.sl ((rows.take h).drop l)) (.slice (if m = l then ad else ad.map (·.add (l * i'.size))) (h - l) (m - l)) := by
      by_cases hz : h - l = 0
      · have : (rows.take h).drop l = [] := List.eq_nil_of_length_eq_zero (by omega)
        rw [this, hz]; exact .emp _ _
      · have hm' : ¬ m = l := by omega
        rw [if_neg hm']
        cases hD with
        | emp => simp at hh; omega
        | sl _ b o _ sz f h1 h2 h3 h4 h5 =>
          have hs : sz = i'.size := by
            have : 0 < rows.length := by omega
            rw [← h3 0 rows[0] (by simp [this])]; exact hrow _ (List.getElem_mem this)
          subst hs
          simp only [Option.map_some, Addr.add_lit]
          exact drel_cut h2 h3 h4 h5 hh hl (by omega)
    refine Yields.still R (v := .slice (if m = l then ad else ad.map (·.add (l * i'.size))) (h - l) (m - l)) ?_ ?_
    · simp only [Instr.sliceAt, Sem.run_bind, T.run_at ht hd rfl, Result.andThen_ok, Instr.slice, hb, T.run_sizeOf he, Sem.run_pure]
    · cases hmx : mx.isSome with
      | true =>
        have := hm hmx
        subst this
        simp only [if_true]
        exact .c _ _ (.full _ _ (m - l) hlen.symm hD')
      | false => simp only [Bool.false_eq_true, if_false]; exact .c _ _ (.d _ _ hD')

/-- Cutting an array variable whole or in part. -/
theorem yields_slice_arr (T : TTok P tt) {t n e : Nat} {i i' : TI} (ht : tt t = some i) (hd : i.desc = .array n e) (he : tt e = some i') {id off : Nat} {a : Value} (R : Rel w G H) (ha : VRel w G H (.c (.ptr id off)) a) :
    Yields P (Instr.sliceAt t a none none none) w G H (.c (.ms id off n n)) H := by
  obtain ⟨rfl, hid⟩ := ptr_rel ha
  refine Yields.still R (v := .slice (some ⟨G.rho id, off, none⟩) n n) ?_ (.c _ _ (.ms _ _ _ _ hid))
  simp [Instr.sliceAt, T.run_at ht hd rfl, Instr.sureAddr, Instr.sliceBounds, T.run_sizeOf he, Addr.add_lit]

def cutMs (sz id off l h m : Nat) : C := .ms id (if m = l then off else off + l * sz) (h - l) (m - l)
theorem yields_slice_arr2 (T : TTok P tt) {t n e : Nat} {i i' : TI} (ht : tt t = some i) (hd : i.desc = .array n e) (he : tt e = some i') {id off : Nat} {a : Value} (R : Rel w G H) (ha : VRel w G H (.c (.ptr id off)) a) {lo hi mx : Option Value} {l h m : Nat}
    (hm : match mx with | some v => ∃ k, v = .int k m ∧ m ≤ n | none => m = n)
    (hh : match hi, mx with | some v, _ => (∃ k, v = .int k h) ∧ h ≤ m | none, none => h = n | none, some _ => False)
    (hl : match lo with | some v => (∃ k, v = .int k l) ∧ l ≤ h | none => l = 0) :
    Yields P (Instr.sliceAt t a lo hi mx) w G H (.c (cutMs i'.size id off l h m)) H := by
  obtain ⟨rfl, hid⟩ := ptr_rel ha
  have hb := run_sliceBounds_slice (P := P) (w := w) (fl := false) hm hh hl
  refine Yields.still R (v := .slice (some (if m = l then ⟨G.rho id, off, none⟩ else (⟨G.rho id, off, none⟩ : Addr).add (l * i'.size))) (h - l) (m - l)) ?_ ?_
  · simp [Instr.sliceAt, T.run_at ht hd rfl, Instr.sureAddr, hb, T.run_sizeOf he]
  · unfold cutMs
    by_cases e : m = l
    · simp only [e, if_true]; exact .c _ _ (.ms _ _ _ _ hid)
    · simp only [e, if_false, Addr.add_lit]; exact .c _ _ (.ms _ _ _ _ hid)
theorem yields_slice_ms (T : TTok P tt) {t e : Nat} {i i' : TI} (ht : tt t = some i) (hd : i.desc = .slice e) (he : tt e = some i') {id off len cap : Nat} {a : Value} (R : Rel w G H) (ha : CRel w G H (.ms id off len cap) a) {lo hi mx : Option Value} {l h m : Nat}
    (hm : match mx with | some v => ∃ k, v = .int k m ∧ m ≤ cap | none => m = cap)
    (hh : match hi, mx with | some v, _ => (∃ k, v = .int k h) ∧ h ≤ m | none, none => h = len | none, some _ => False)
    (hl : match lo with | some v => (∃ k, v = .int k l) ∧ l ≤ h | none => l = 0) :
    Yields P (Instr.sliceAt t a lo hi mx) w G H (.c (cutMs i'.size id off l h m)) H := by
  cases ha with
  | ms _ _ _ _ hid =>
    have hb := run_sliceBounds_slice (P := P) (w := w) (fl := true) hm hh hl
    refine Yields.still R (v := .slice (if m = l then some ⟨G.rho id, off, none⟩ else (some (⟨G.rho id, off, none⟩ : Addr)).map (·.add (l * i'.size))) (h - l) (m - l)) ?_ ?_
    · simp only [Instr.sliceAt, Sem.run_bind, T.run_at ht hd rfl, Result.andThen_ok, Instr.slice, hb, T.run_sizeOf he, Sem.run_pure]
    · unfold cutMs
      by_cases e : m = l
      · simp only [e, if_true]; exact .c _ _ (.ms _ _ _ _ hid)
      · simp only [e, if_false, Option.map_some, Addr.add_lit]; exact .c _ _ (.ms _ _ _ _ hid)
end
end Go.Abs
