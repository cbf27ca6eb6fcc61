/- Dyes: the reference's table is fill's; the best spot costs the bound. -/
import Derived.Test.YtkbnmanfoejoiaaNE
import Derived.Test.YtkbnmanfoejoiaaNF
import Derived.Test.YtkbnmanfoejoiaaNB
set_option linter.unusedSimpArgs false
set_option linter.unusedVariables false
set_option maxRecDepth 100000
namespace Go.Proofs.Ytkbnmanfoejoiaa
open Go Go.Abs Go.Proofs

theorem ct_keep {l : List Dy} {q : Int} {j : Nat} : ∀ {m k : Nat}, j < k → k ≤ m → cT l q m j = cT l q k j
  | 0, k, h, hk => by omega
  | m + 1, k, h, hk => by
    by_cases e : k = m + 1
    · subst e; rfl
    · rw [cT, upd_other (by omega), ct_keep h (by omega)]
theorem ct_at (l : List Dy) (q : Int) {m k : Nat} (h : k < m) : cT l q m k = costV l q (cT l q k) (k / 441) (k % 441 / 21) (k % 21) := by
  rw [ct_keep (show k < k + 1 by omega) (show k + 1 ≤ m by omega), cT, upd_at]
theorem gM_congr {d : Dy} {q : Int} {f g : Nat → Int} {i x y : Nat} (h : ∀ x' y', x' ≤ x → y' ≤ y → f (cix i x' y') = g (cix i x' y')) : ∀ k, gM d q f i x y k = gM d q g i x y k
  | 0 => rfl
  | k + 1 => by rw [gM, gM, gM_congr h k, h _ _ (Nat.sub_le _ _) (Nat.sub_le _ _)]
def okG (d : Dy) (q : Int) (f : Nat → Int) (i x y g : Nat) : Prop := (g * d.a.toNat ≤ x ∧ g * d.b.toNat ≤ y) ∧ ¬ (0 < g ∧ d.f < q) ∧ f (cix i (x - g * d.a.toNat) (y - g * d.b.toNat)) ≠ MX
theorem gM_spec {d : Dy} {q : Int} {f : Nat → Int} {i x y : Nat} : ∀ k, (gM d q f i x y k = MX ∨ ∃ g, g < k ∧ okG d q f i x y g ∧ gM d q f i x y k = f (cix i (x - g * d.a.toNat) (y - g * d.b.toNat)) + g * d.p) ∧ ∀ g, g < k → okG d q f i x y g → gM d q f i x y k ≤ f (cix i (x - g * d.a.toNat) (y - g * d.b.toNat)) + g * d.p
  | 0 => ⟨.inl rfl, fun g h => by omega⟩
  | k + 1 => by
    obtain ⟨h1, h2⟩ := gM_spec (d := d) (q := q) (f := f) (i := i) (x := x) (y := y) k
    rw [gM]
    by_cases hk : okG d q f i x y k
    · have hk' := hk
      unfold okG at hk'
      rw [if_pos hk']
      refine ⟨?_, fun g hg hok => ?_⟩
      · by_cases hm : gM d q f i x y k ≤ f (cix i (x - k * d.a.toNat) (y - k * d.b.toNat)) + k * d.p
        · rw [Int.min_eq_left hm]
          rcases h1 with h1 | ⟨g, h3, h4, h5⟩
          · exact .inl h1
          · exact .inr ⟨g, by omega, h4, h5⟩
        · rw [Int.min_eq_right (by omega)]
          exact .inr ⟨k, by omega, hk, rfl⟩
      · by_cases e : g = k
        · subst e; omega
        · have := h2 g (by omega) hok; omega
    · have hk' := hk
      unfold okG at hk'
      rw [if_neg hk']
      refine ⟨?_, fun g hg hok => ?_⟩
      · rcases h1 with h1 | ⟨g, h3, h4, h5⟩
        · exact .inl h1
        · exact .inr ⟨g, by omega, h4, h5⟩
      · by_cases e : g = k
        · subst e; exact absurd hok hk
        · exact h2 g (by omega) hok
theorem cost_isL {l : List Dy} (hl : OkL l) (q : Int) : ∀ {i : Nat}, i ≤ l.length → ∀ {x y : Nat}, x < 21 → y < 21 → IsL l q i x y (cT l q ((l.length + 1) * 441) (cix i x y))
  | 0, _, x, y, hx, hy => by
    rw [ct_at l q (by unfold cix; omega)]
    have e1 : cix 0 x y / 441 = 0 := by unfold cix; omega
    have e2 : cix 0 x y % 441 / 21 = x := by unfold cix; omega
    have e3 : cix 0 x y % 21 = y := by unfold cix; omega
    rw [e1, e2, e3, costV, if_pos rfl]
    by_cases e : x = 0 ∧ y = 0
    · rw [if_pos e]
      exact ⟨.inr ⟨e.1, e.2, rfl⟩, fun c hc => by have := hc.2.2; omega⟩
    · rw [if_neg e]
      exact ⟨.inl rfl, fun c hc => absurd ⟨hc.1, hc.2.1⟩ e⟩
  | i + 1, hi, x, y, hx, hy => by
    have hd := hl.g (show i < l.length by omega)
    have h8 := hl.n8
    have hkl : cix (i + 1) x y < (l.length + 1) * 441 := by unfold cix; omega
    have ih0 := fun {x y : Nat} (hx : x < 21) (hy : y < 21) => cost_isL hl q (i := i) (by omega) (x := x) (y := y) hx hy
    rw [ct_at l q hkl]
    have e1 : cix (i + 1) x y / 441 = i + 1 := by unfold cix; omega
    have e2 : cix (i + 1) x y % 441 / 21 = x := by unfold cix; omega
    have e3 : cix (i + 1) x y % 21 = y := by unfold cix; omega
    rw [e1, e2, e3, costV, if_neg (by omega), show i + 1 - 1 = i from rfl]
    rw [gM_congr (g := cT l q ((l.length + 1) * 441)) (fun x' y' hx' hy' => (ct_keep (by unfold cix; omega) (Nat.le_of_lt hkl)).symm)]
    generalize cT l q ((l.length + 1) * 441) = T at *
    obtain ⟨h1, h2⟩ := gM_spec (d := gD l i) (q := q) (f := T) (i := i) (x := x) (y := y) 21
    refine ⟨?_, fun c hc => ?_⟩
    · rcases h1 with h1 | ⟨g, _, hok, h1⟩
      · exact .inl h1
      · rcases (ih0 (x := x - g * (gD l i).a.toNat) (y := y - g * (gD l i).b.toNat) (by omega) (by omega)).at' with h3 | h3
        · exact absurd h3 hok.2.2
        · refine .inr ⟨g, fun hg => ?_, _, _, _, h3, ?_, ?_, h1⟩
          · have := hok.2.1; omega
          · have := hok.1.1; omega
          · have := hok.1.2; omega
    · obtain ⟨g, hg, x', y', c', r1, ex, ey, ec⟩ := hc
      have hg20 := ok_g20 hd hx hy ex ey
      have hv := (ih0 (x := x') (y := y') (by omega) (by omega)).le _ r1
      have hb := reach_bound hl (by omega) (by omega) (by omega) r1
      have ex' : x - g * (gD l i).a.toNat = x' := by omega
      have ey' : y - g * (gD l i).b.toNat = y' := by omega
      have hok : okG (gD l i) q T i x y g := ⟨⟨by omega, by omega⟩, fun h => by have := hg h.1; omega, by rw [ex', ey']; intro e; rw [e] at hv; unfold MX at hv; omega⟩
      have := h2 g (by omega) hok
      rw [ex', ey'] at this
      omega
theorem costs_eq {l : List Dy} (hl : OkL l) (q : Int) {k : Nat} (hk : k < (l.length + 1) * 441) : cT l q ((l.length + 1) * 441) k = fillF l q l.length k := by
  obtain ⟨i, hi⟩ : ∃ i, i = k / 441 := ⟨_, rfl⟩
  obtain ⟨x, hx⟩ : ∃ x, x = k % 441 / 21 := ⟨_, rfl⟩
  obtain ⟨y, hy⟩ : ∃ y, y = k % 21 := ⟨_, rfl⟩
  have e : k = cix i x y := by unfold cix; omega
  have h1 : x < 21 := by omega
  have h2 : y < 21 := by omega
  have h3 : i ≤ l.length := by omega
  rw [e]
  exact isL_uniq hl h3 h1 h2 (cost_isL hl q h3 h1 h2) (rec_isL hl (fill_rec hl q) h3 h1 h2)
theorem costsL_eq {l : List Dy} (hl : OkL l) (q : Int) : costsL l q = (List.range ((l.length + 1) * 441)).map (fillF l q l.length) := by
  unfold costsL
  exact List.map_congr_left fun k hk => costs_eq hl q (List.mem_range.1 hk)
theorem costsL_len (l : List Dy) (q : Int) : (costsL l q).length = (l.length + 1) * 441 := by simp [costsL]
theorem costsL_get {l : List Dy} (hl : OkL l) (q : Int) {k : Nat} (hk : k < (l.length + 1) * 441) : gI (costsL l q) k = fillF l q l.length k := by
  rw [costsL_eq hl]
  simp [gI, List.getD, hk]
/-! ### The bound -/
theorem rowM_spec (t : Nat → Int) (n x y0 : Nat) (b : Int) : ∀ k, (rowM t n x y0 b k = b ∨ ∃ j, j < k ∧ rowM t n x y0 b k = t (cix n x (y0 + j))) ∧ rowM t n x y0 b k ≤ b ∧ ∀ j, j < k → rowM t n x y0 b k ≤ t (cix n x (y0 + j))
  | 0 => ⟨.inl rfl, Int.le_refl _, fun j h => by omega⟩
  | k + 1 => by
    obtain ⟨h1, h2, h3⟩ := rowM_spec t n x y0 b k
    rw [rowM]
    refine ⟨?_, by omega, fun j hj => ?_⟩
    · by_cases hm : rowM t n x y0 b k ≤ t (cix n x (y0 + k))
      · rw [Int.min_eq_left hm]
        rcases h1 with h1 | ⟨j, h4, h5⟩
        · exact .inl h1
        · exact .inr ⟨j, by omega, h5⟩
      · rw [Int.min_eq_right (by omega)]
        exact .inr ⟨k, by omega, rfl⟩
    · by_cases e : j = k
      · subst e; omega
      · have := h3 j (by omega); omega
theorem allM_spec (t : Nat → Int) (n x0 y0 h : Nat) : ∀ k, (allM t n x0 y0 h k = MX ∨ ∃ i j, i < k ∧ j < h ∧ allM t n x0 y0 h k = t (cix n (x0 + i) (y0 + j))) ∧ allM t n x0 y0 h k ≤ MX ∧ ∀ i j, i < k → j < h → allM t n x0 y0 h k ≤ t (cix n (x0 + i) (y0 + j))
  | 0 => ⟨.inl rfl, Int.le_refl _, fun i j h => by omega⟩
  | k + 1 => by
    obtain ⟨h1, h2, h3⟩ := allM_spec t n x0 y0 h k
    rw [allM]
    obtain ⟨g1, g2, g3⟩ := rowM_spec t n (x0 + k) y0 (allM t n x0 y0 h k) h
    refine ⟨?_, by omega, fun i j hi hj => ?_⟩
    · rcases g1 with g1 | ⟨j, g4, g5⟩
      · rcases h1 with h1 | ⟨i, j, h4, h5, h6⟩
        · exact .inl (g1.trans h1)
        · exact .inr ⟨i, j, by omega, h5, g1.trans h6⟩
      · exact .inr ⟨k, j, by omega, g4, g5⟩
    · by_cases e : i = k
      · subst e; exact g3 j hj
      · have := h3 i j (by omega) hj; omega
theorem inS_iff (v : Wn) (p : Nat × Nat) : inS v p = true ↔ (v.x.lo ≤ p.1 ∧ p.1 ≤ v.x.hi) ∧ (v.y.lo ≤ p.2 ∧ p.2 ≤ v.y.hi) := by simp [inS, inB]
theorem bound_spec {v : Wn} (hv : OkW v) (t : Nat → Int) (n : Nat) : (boundF n v t = MX ∨ ∃ p, inS v p = true ∧ boundF n v t = t (cix n p.1 p.2)) ∧ boundF n v t ≤ MX ∧ ∀ p, inS v p = true → boundF n v t ≤ t (cix n p.1 p.2) := by
  unfold boundF
  obtain ⟨h1, h2, h3⟩ := allM_spec t n v.x.lo.toNat v.y.lo.toNat (v.y.hi.toNat + 1 - v.y.lo.toNat) (v.x.hi.toNat + 1 - v.x.lo.toNat)
  have o1 := hv.x0
  have o2 := hv.x1
  have o3 := hv.y0
  have o4 := hv.y1
  refine ⟨?_, h2, fun p hp => ?_⟩
  · rcases h1 with h1 | ⟨i, j, hi, hj, h1⟩
    · exact .inl h1
    · refine .inr ⟨(v.x.lo.toNat + i, v.y.lo.toNat + j), (inS_iff _ _).2 ⟨⟨?_, ?_⟩, ?_, ?_⟩, h1⟩ <;> simp only <;> omega
  · have hp := (inS_iff _ _).1 hp
    have := h3 (p.1 - v.x.lo.toNat) (p.2 - v.y.lo.toNat) (by omega) (by omega)
    rwa [show v.x.lo.toNat + (p.1 - v.x.lo.toNat) = p.1 by omega, show v.y.lo.toNat + (p.2 - v.y.lo.toNat) = p.2 by omega] at this
theorem inS_lt {v : Wn} (hv : OkW v) {p : Nat × Nat} (h : inS v p = true) : p.1 < 21 ∧ p.2 < 21 := by
  have h := (inS_iff _ _).1 h
  have := hv.x2
  have := hv.y2
  omega
theorem best_spec {v : Wn} (hv : OkW v) (f : Nat → Int) (n : Nat) : inS v (bestS v f n) = true ∧ ∀ p, inS v p = true → bestC v f n ≤ f (cix n p.1 p.2) := by
  obtain ⟨h1, h2⟩ := leastS_spec (fun p => f (cix n p.1 p.2)) (allS_ne hv f n)
  exact ⟨(allS_mem.1 h1).2, fun p hp => h2 p (allS_mem.2 ⟨inS_lt hv hp, hp⟩)⟩
theorem best_bound {v : Wn} (hv : OkW v) {f : Nat → Int} (hB : Bd f) (n : Nat) : bestC v f n = boundF n v f := by
  obtain ⟨h1, h2⟩ := best_spec hv f n
  obtain ⟨g1, g2, g3⟩ := bound_spec hv f n
  have a := g3 _ h1
  have hb := hB (cix n (bestS v f n).1 (bestS v f n).2)
  have ab : boundF n v f ≤ bestC v f n := a
  have bb : bestC v f n ≤ MX := hb.2
  rcases g1 with g1 | ⟨p, hp, g1⟩
  · omega
  · have := h2 p hp; omega
end Go.Proofs.Ytkbnmanfoejoiaa
/- Dyes: the way back. -/
set_option linter.unusedSimpArgs false
set_option linter.unusedVariables false
set_option maxRecDepth 100000
namespace Go.Proofs.Ytkbnmanfoejoiaa
open Go Go.Abs Go.Proofs
def kp54 : List (Nat × List Nat) := [(0, [0, 3]), (1, [0, 3, 5]), (2, [0, 3, 5, 6]), (3, [0, 3, 5, 6, 7]), (4, [0, 3, 5, 6, 7, 22]), (5, [0, 3, 5, 6, 7, 8]), (6, [0, 3, 5, 6, 7, 8, 39]), (7, [0, 3, 5, 6, 7]), (8, [0, 3, 5, 6, 7]), (9, [0, 3, 5, 6, 7, 8]), (10, [0, 3, 5, 6, 7]), (11, [0, 3, 5, 6, 7]), (12, [4])]
theorem lk54 : lookK kp54 0 = some [0, 3] ∧ lookK kp54 1 = some [0, 3, 5] ∧ lookK kp54 2 = some [0, 3, 5, 6] ∧ lookK kp54 3 = some [0, 3, 5, 6, 7] ∧ lookK kp54 4 = some [0, 3, 5, 6, 7, 22] ∧ lookK kp54 5 = some [0, 3, 5, 6, 7, 8] ∧ lookK kp54 6 = some [0, 3, 5, 6, 7, 8, 39] ∧ lookK kp54 7 = some [0, 3, 5, 6, 7] ∧ lookK kp54 8 = some [0, 3, 5, 6, 7] ∧ lookK kp54 9 = some [0, 3, 5, 6, 7, 8] ∧ lookK kp54 10 = some [0, 3, 5, 6, 7] ∧ lookK kp54 11 = some [0, 3, 5, 6, 7] ∧ lookK kp54 12 = some [4] := ⟨rfl, rfl, rfl, rfl, rfl, rfl, rfl, rfl, rfl, rfl, rfl, rfl, rfl⟩

/-- An entry of the map of places. -/
def KeyE (e : V × V) : Prop := ∃ a b c z : Int, e = (.agg [.d (.int .i64 a), .d (.int .i64 b), .d (.int .i64 c)], I z)
def keyV (a b c : Int) : V := .agg [.d (.int .i64 a), .d (.int .i64 b), .d (.int .i64 c)]
theorem keyEq_ok (a b c a' b' c' : Int) : keyEq (keyV a b c) (keyV a' b' c') = some (decide (a = a') && (decide (b = b') && decide (c = c'))) := by simp [keyEq, keyV, eqCs, eqC]
theorem findE_ok {a b c : Int} : ∀ {es : List (V × V)} (n : Nat), (∀ e ∈ es, KeyE e) → (findE (keyV a b c) es n = some none ∧ ∀ x m, findE (keyV a b c) (es ++ [(keyV a b c, x)]) m = some (some (m + es.length, x))) ∨ (∃ i z, findE (keyV a b c) es n = some (some (n + i, I z)) ∧ i < es.length ∧ ∀ x m, findE (keyV a b c) (es.set i (keyV a b c, x)) m = some (some (m + i, x)))
  | [], n, _ => .inl ⟨rfl, fun x m => by
    have h := keyEq_ok a b c a b c
    simp only [decide_true, Bool.and_self] at h
    simp only [List.nil_append, findE, h]; simp⟩
  | e :: es, n, h => by
    obtain ⟨a', b', c', z, he⟩ := h e (by simp)
    have hk : keyEq (keyV a b c) e.1 = some (decide (a = a') && (decide (b = b') && decide (c = c'))) := by rw [he]; exact keyEq_ok a b c a' b' c'
    have hself := keyEq_ok a b c a b c
    simp only [decide_true, Bool.and_self] at hself
    cases hb : (decide (a = a') && (decide (b = b') && decide (c = c'))) with
    | true =>
      rw [hb] at hk
      refine .inr ⟨0, z, ?_, by simp, fun x m => ?_⟩
      · simp only [findE, hk]; rw [he]; rfl
      · simp only [List.set_cons_zero, findE, hself]; rfl
    | false =>
      rw [hb] at hk
      rcases findE_ok (es := es) (n + 1) (fun e he => h e (by simp [he])) with ⟨h1, h2⟩ | ⟨i, y, h1, h2, h3⟩
      · refine .inl ⟨by simp only [findE, hk]; exact h1, fun x m => ?_⟩
        simp only [List.cons_append, findE, hk, h2]
        simp only [List.length_cons, Nat.add_assoc, Nat.add_comm 1]
      · refine .inr ⟨i + 1, y, ?_, by simpa using h2, fun x m => ?_⟩
        · simp only [findE, hk, h1, Nat.add_assoc, Nat.add_comm 1]
        · simp only [List.set_cons_succ, findE, hk, h3, Nat.add_assoc, Nat.add_comm 1]
theorem KeyE.low {e : V × V} (h : KeyE e) (n : Nat) : (e.1.low n && e.2.low n) = true := by
  obtain ⟨a, b, c, z, rfl⟩ := h
  rfl
theorem es_low {es : List (V × V)} (h : ∀ e ∈ es, KeyE e) (n : Nat) : (AB.mp es).low n = true := by
  simp only [AB.low, List.all_eq_true]
  exact fun e he => (h e he).low n
/-- The map after an entry is put. -/
theorem put_ok (a b c : Int) {es : List (V × V)} (h : ∀ e ∈ es, KeyE e) : ∃ o, findE (keyV a b c) es 0 = some o ∧ (∀ e ∈ updE (keyV a b c) (I 1) es o, KeyE e) ∧ (∃ j, findE (keyV a b c) (updE (keyV a b c) (I 1) es o) 0 = some (some (j, I 1))) ∧ ∀ e ∈ delE es o, KeyE e := by
  rcases findE_ok (a := a) (b := b) (c := c) (es := es) 0 h with ⟨h1, h2⟩ | ⟨i, z, h1, hi, h3⟩
  · refine ⟨_, h1, fun e he => ?_, ⟨_, h2 (I 1) 0⟩, h⟩
    rcases List.mem_append.1 he with he | he
    · exact h e he
    · simp at he; exact ⟨a, b, c, 1, he⟩
  · refine ⟨_, h1, fun e he => ?_, ⟨0 + i, ?_⟩, fun e he => h e (List.mem_of_mem_eraseIdx he)⟩
    · rcases List.mem_or_eq_of_mem_set he with he | he
      · exact h e he
      · exact ⟨a, b, c, 1, he⟩
    · have := h3 (I 1) 0
      rw [Nat.zero_add] at this ⊢
      exact this
/-- What one comes back to. -/
def backF (l : List Dy) (f : Nat → Int) (i x y : Nat) (out : Nat → Int) : Nat → Int :=
  if h0 : i = 0 then out
  else if f (cix i x y) = f (cix (i - 1) x y) then backF l f (i - 1) x y out
  else if hk : ((gD l (i - 1)).a.toNat ≤ x ∧ (gD l (i - 1)).b.toNat ≤ y) ∧ 0 < (gD l (i - 1)).a.toNat + (gD l (i - 1)).b.toNat then backF l f i (x - (gD l (i - 1)).a.toNat) (y - (gD l (i - 1)).b.toNat) (upd out (i - 1) (out (i - 1) + 1)) else out
  termination_by i + x + y
  decreasing_by all_goals omega
/-- Where a cost is less than by the dyes before, a grain was taken. -/
def BackOk (l : List Dy) (f : Nat → Int) : Prop := ∀ i x y, i < l.length → x < 21 → y < 21 → f (cix (i + 1) x y) ≠ f (cix i x y) → (gD l i).a.toNat ≤ x ∧ (gD l i).b.toNat ≤ y
theorem rep_nums2 (n : Nat) : (List.replicate n [C.d (.int .i64 0)]).flatten = numsC n (fun _ => 0) := by rw [← zero_nums]; exact zc_one _ n
theorem low3 {es : List (V × V)} (h : ∀ e ∈ es, KeyE e) (n m : Nat) (p : Nat × Nat) (f : Nat → Int) : [AB.cells (sC p), .mp es, .cells (numsC m f)].all (AB.low n) = true := by
  rw [List.all_cons, List.all_cons, es_low h]
  simp [AB.low, nums_low, sC, C.lowL, C.low]
theorem keyOk120 (a b c : Int) : keyOk tx 120 (V.agg [C.d (.int .i64 a), .d (.int .i64 b), .d (.int .i64 c)]) = true := by kernel_rfl
structure BkI where
  i : Nat
  x : Nat
  y : Nat
  out : Nat → Int
  es : List (V × V)
set_option maxHeartbeats 4000000 in
theorem back54 (H : List AB) (hH : H.all (AB.low H.length) = true) (bid : Nat) (l : List Dy) (f : Nat → Int) (q : Int) (hbid : H[bid]? = some (.cells (benchC l f q))) (hl : OkL l) (hbk : BackOk l f) (x y : Nat) (hx : x < 21) (hy : y < 21) :
    ACall Try.prog 54 [.c (.ptr bid 0), spV x y] H (fun r H' => r = .c (.ms (H.length + 2) 0 l.length l.length) ∧ ∃ a b T, H' = H ++ a :: b :: .cells (numsC l.length (backF l f l.length x y fun _ => 0)) :: T) := by
  have lb := (List.getElem?_eq_some_iff.1 hbid).1
  have h8 := hl.n8
  refine acall_fitE (bad := [10, 11]) (kp := kp54) (X := tx) (nt := 67) (rs := [.tmp 4]) Try.func54 rfl rfl rfl rfl mo (by kernel_rfl) (fun hf => ?_)
  have hbT := fun T => ap_lt T hbid
  have dq := bench_dyes l f q
  have hms : (decide ((0 : Int) ≤ l.length) && decide ((l.length : Int) ≤ l.length) && decide ((8 : Int) * l.length ≤ 140737488355328) && decide ((l.length : Int) ≤ 140737488355328)) = true := by simp; omega
  simp (maxSteps := 2000000) only [go_sem, reduceIte, Nat.reduceEqDiff, Nat.reduceAdd, Nat.reduceLeDiff, Nat.reduceBEq, Int.reduceNeg, lk54, ap0, apk, st0, stk, List.append_assoc, List.cons_append, List.nil_append, List.length_append, List.length_cons, List.length_nil, Nat.zero_add, Nat.reduceAdd, Nat.add_assoc, spV, spC, hbT, bench_len, dq, Int.toNat_natCast, nn, rep_nums2]
  refine ⟨by rw [Bool.and_eq_true, Bool.and_eq_true]; exact ⟨⟨decide_eq_true (Int.le_refl _), decide_eq_true (by show (8 : Int) * _ ≤ _; omega)⟩, decide_eq_true (by show (_ : Int) ≤ 140737488355328; omega)⟩, ?_⟩
  refine goE_loop (bad := [10, 11]) (kp := kp54) (fun k : BkI => { slots := [(0, .c (.ptr bid 0)), (3, .c (.ptr H.length 0)), (5, .c (.mp (H.length + 1))), (6, .c (.ms (H.length + 2) 0 l.length l.length)), (7, I k.i)], heap := H ++ [.cells (sC (k.x, k.y)), .mp k.es, .cells (numsC l.length k.out)], marks := [] })
    (fun k => (k.i ≤ l.length ∧ k.x < 21 ∧ k.y < 21) ∧ (∀ e ∈ k.es, KeyE e) ∧ (∀ j, 0 ≤ k.out j ∧ k.out j + k.x + k.y ≤ 40) ∧ backF l f k.i k.x k.y k.out = backF l f l.length x y fun _ => 0) (fun k => k.i + k.x + k.y) ⟨l.length, x, y, fun _ => 0, []⟩ mo (by kernel_rfl) ?_ ⟨⟨Nat.le_refl _, hx, hy⟩, fun e he => (by simp at he), fun j => ⟨Int.le_refl _, by show (0 : Int) + x + y ≤ 40; omega⟩, rfl⟩ ?_
  · refine ent_weaken [] (by simp [sC]) rfl (by simp [Tx.cx]) (all_low_app hH (by simp) (by simp [AB.low, nums_low, sC, C.lowL, C.low])) rfl ?_
    have q1 : H.length < H.length + 3 := by omega
    have q2 : H.length + 1 < H.length + 3 := by omega
    have q3 : H.length + 2 < H.length + 3 := by omega
    have q4 : bid < H.length + 3 := by omega
    simp (maxSteps := 2000000) only [go_sem, reduceIte, Nat.reduceEqDiff, Nat.reduceAdd, lk54, ap0, apk, st0, stk, List.append_assoc, List.cons_append, List.nil_append, List.length_append, List.length_cons, List.length_nil, Nat.zero_add, Nat.reduceAdd, Nat.add_assoc, q1, q2, q3, q4]
    all_goals first | exact .refl _ | exact ⟨.refl _, .refl _⟩ | exact ⟨.refl _, .refl _, .refl _⟩ | exact ⟨.refl _, _, rfl⟩ | exact ⟨_, rfl⟩ | exact ⟨.refl _, [], by simp⟩ | exact ⟨[], by simp⟩
  rintro ⟨i, x, y, out, es⟩ ⟨⟨hi, hx, hy⟩, hes, hout, hR⟩
  simp only at hi hx hy hes hout hR
  simp (maxSteps := 2000000) only [go_sem, reduceIte, Nat.reduceEqDiff, Nat.reduceAdd, Nat.reduceBEq, Int.reduceNeg, lk54, ap0, apk, st0, stk, List.append_assoc, List.cons_append, List.nil_append, List.length_append, List.length_cons, List.length_nil, Nat.zero_add, Nat.reduceAdd, Nat.add_assoc, sC, nn]
  by_cases hi0 : i = 0
  · subst hi0
    have z0 : ¬ (0 : Int) < ((0 : Nat) : Int) := by decide
    rw [show backF l f 0 x y out = out by rw [backF]; rfl] at hR
    simp (maxSteps := 2000000) only [go_sem, reduceIte, Nat.reduceEqDiff, Nat.reduceAdd, Nat.reduceBEq, Int.reduceNeg, Int.reduceLT, lk54, ap0, apk, st0, stk, List.append_assoc, List.cons_append, List.nil_append, List.length_append, List.length_cons, List.length_nil, Nat.zero_add, Nat.reduceAdd, Nat.add_assoc, z0]
    rw [← hR]
    exact ⟨_, _, [], rfl⟩
  obtain ⟨p, rfl⟩ : ∃ p, i = p + 1 := ⟨i - 1, by omega⟩
  have ip : (0 : Int) < ((p + 1 : Nat) : Int) := by omega
  have hpl : p < l.length := by omega
  have hd : OkD (gD l p) := hl.g hpl
  have wp : wr .i64 (((p + 1 : Nat) : Int) - 1) = (p : Int) := by rw [wr_in (by omega)]; omega
  obtain ⟨o, hf1, hf2, ⟨j0, hf3⟩, hf4⟩ := put_ok ((p + 1 : Nat) : Int) x y hes
  unfold keyV at hf1 hf2 hf3
  have k1 := cix_lt (show p + 1 < 9 by omega) hx hy
  have k0 := cix_lt (show p < 9 by omega) hx hy
  have v1 := bench_at (l := l) (f := f) (q := q) k1
  have v0 := bench_at (l := l) (f := f) (q := q) k0
  have hc := fun (i : Nat) (hi : i < 9) => cost68 (H ++ [.cells (sC (x, y)), .mp es, .cells (numsC l.length out), .cells [.d (.int .i64 ((p + 1 : Nat) : Int)), .d (.int .i64 x), .d (.int .i64 y)]]) bid (by simp; omega) i x y hi hx hy
  have hc1 := hc (p + 1) (by omega)
  have hc0 := hc p (by omega)
  unfold sC spV spC at hc1 hc0
  have hB := hbk p x y hpl hx hy
  rw [backF] at hR
  rw [dif_neg (by omega), show p + 1 - 1 = p from rfl] at hR
  generalize hk1 : cix (p + 1) x y = c1 at *
  generalize hk0 : cix p x y = c0 at *
  have r1 : decide (1 + (c1 + 1) ≤ 3971) = true := by simp; omega
  have r1' : decide (1 + c1 ≤ 3970) = true := by simp; omega
  have r0 : decide (1 + (c0 + 1) ≤ 3971) = true := by simp; omega
  have r0' : decide (1 + c0 ≤ 3970) = true := by simp; omega
  simp (maxSteps := 2000000) only [go_sem, reduceIte, Nat.reduceEqDiff, Nat.reduceAdd, Nat.reduceLeDiff, Nat.reduceBEq, Int.reduceNeg, lk54, ap0, apk, st0, stk, List.append_assoc, List.cons_append, List.nil_append, List.length_append, List.length_cons, List.length_nil, Nat.zero_add, Nat.reduceAdd, Nat.add_assoc, ip, hbT, bench_len]
  refine dops_at (hc1) rfl rfl (by first | exact wk_refls _ | (repeat constructor)) (by kernel_rfl) ?_
  simp (maxSteps := 2000000) only [go_sem, reduceIte, Nat.reduceEqDiff, Nat.reduceAdd, Int.reduceNeg, lk54, ap0, apk, st0, stk, List.append_assoc, List.cons_append, List.nil_append, List.length_append, List.length_cons, List.length_nil, Nat.zero_add, Nat.reduceAdd, Nat.add_assoc, v1, r1, r1', hbT, bench_len, wp]
  refine dops_at (hc0) rfl rfl (by first | exact wk_refls _ | (repeat constructor)) (by kernel_rfl) ?_
  simp (maxSteps := 2000000) only [go_sem, reduceIte, Nat.reduceEqDiff, Nat.reduceAdd, Int.reduceNeg, lk54, ap0, apk, st0, stk, List.append_assoc, List.cons_append, List.nil_append, List.length_append, List.length_cons, List.length_nil, Nat.zero_add, Nat.reduceAdd, Nat.add_assoc, v0, r0, r0', hbT, bench_len]
  have q1 : H.length < H.length + 3 := by omega
  have q2 : H.length + 1 < H.length + 3 := by omega
  have q3 : H.length + 2 < H.length + 3 := by omega
  have q4 : bid < H.length + 3 := by omega
  by_cases heq : f c1 = f c0
  · rw [if_pos heq] at hR
    simp (maxSteps := 2000000) only [go_sem, reduceIte, Nat.reduceEqDiff, Nat.reduceAdd, Nat.reduceBEq, Int.reduceNeg, lk54, ap0, apk, st0, stk, List.append_assoc, List.cons_append, List.nil_append, List.length_append, List.length_cons, List.length_nil, Nat.zero_add, Nat.reduceAdd, Nat.add_assoc, heq, hf1, wp]
    refine ⟨keyOk120 _ _ _, ⟨p, x, y, out, delE es o⟩, ⟨⟨Nat.le_of_lt hpl, hx, hy⟩, hf4, hout, hR⟩, by simp only; omega, ?_⟩
    refine ent_weaken [.cells [.d (.int .i64 ((p + 1 : Nat) : Int)), .d (.int .i64 x), .d (.int .i64 y)]] (by simp [sC]) rfl (by simp [Tx.cx]) (all_low_app hH (by simp) (low3 hf4 _ _ (x, y) _)) rfl ?_
    simp (maxSteps := 2000000) only [go_sem, reduceIte, Nat.reduceEqDiff, Nat.reduceAdd, lk54, ap0, apk, st0, stk, List.append_assoc, List.cons_append, List.nil_append, List.length_append, List.length_cons, List.length_nil, Nat.zero_add, Nat.reduceAdd, Nat.add_assoc, q1, q2, q3, q4]
    all_goals first | exact .refl _ | exact ⟨.refl _, .refl _⟩ | exact ⟨.refl _, .refl _, .refl _⟩ | exact ⟨.refl _, _, rfl⟩ | exact ⟨_, rfl⟩ | exact ⟨.refl _, [], by simp⟩ | exact ⟨[], by simp⟩
  · rw [if_neg heq] at hR
    obtain ⟨ba, bb⟩ := hB heq
    have d1 := hd.a0
    have d2 := hd.a6
    have d3 := hd.b0
    have d4 := hd.b6
    have hab : 0 < (gD l p).a.toNat + (gD l p).b.toNat := by
      have := hd.ab
      omega
    rw [dif_pos ⟨⟨ba, bb⟩, hab⟩] at hR
    have hpl' : (p : Int) < l.length := by omega
    have hop := hout p
    have c5 : decide (p + 1 ≤ l.length) = true := decide_eq_true hpl
    have vo := numsC_get (f := out) hpl
    have so := fun v => numsC_set (n := l.length) (f := out) (k := p) (v := v)
    obtain ⟨x', hx'⟩ : ∃ x', x' = x - (gD l p).a.toNat := ⟨_, rfl⟩
    obtain ⟨y', hy'⟩ : ∃ y', y' = y - (gD l p).b.toNat := ⟨_, rfl⟩
    have ex : (x : Int) + -1 * (gD l p).a = (x' : Int) := by omega
    have ey : (y : Int) + -1 * (gD l p).b = (y' : Int) := by omega
    have hlt1 : x' + y' < x + y := by omega
    have hx21 : x' < 21 := by omega
    have hy21 : y' < 21 := by omega
    have hout2 : ∀ j, 0 ≤ upd out p (out p + 1) j ∧ upd out p (out p + 1) j + x' + y' ≤ 40 := fun j => by
      have h1 := hout j
      unfold upd
      split <;> omega
    rw [← hx', ← hy'] at hR
    have g1 := gD_lt hpl
    have wo : wr .i64 (out p + 1) = out p + 1 := wr_in (by omega)
    have hp : Pure Try.prog 63 [spV x y, dyV (gD l p), I (-1)] (spV x' y') := by
      have h := plus63 x y (-1) (gD l p) (wr_in (by omega)) (wr_in (by omega)) (wr_in (by omega)) (wr_in (by omega))
      rw [ex, ey] at h
      exact h
    unfold spV spC dyV dyC at hp
    simp (maxSteps := 2000000) only [go_sem, reduceIte, Nat.reduceEqDiff, Nat.reduceAdd, Nat.reduceLeDiff, Nat.reduceBEq, Int.reduceNeg, lk54, ap0, apk, st0, stk, List.append_assoc, List.cons_append, List.nil_append, List.length_append, List.length_cons, List.length_nil, Nat.zero_add, Nat.reduceAdd, Nat.add_assoc, heq, hf1, wp, hpl', nn, Int.toNat_natCast, numsC_len, Nat.mul_one, c5, vo, hf3, wo, so, lookV]
    refine ⟨keyOk120 _ _ _, keyOk120 _ _ _, pairsOk_ord (by kernel_rfl), ?_⟩
    simp (maxSteps := 2000000) only [go_sem, reduceIte, Nat.reduceAdd, Nat.reduceLeDiff, Int.reduceNeg, lk54, ap0, apk, st0, stk, List.append_assoc, List.cons_append, List.nil_append, List.length_append, List.length_cons, List.length_nil, Nat.zero_add, Nat.reduceAdd, Nat.add_assoc, hbT, bench_len, dq, hpl', nn, wp, g1, dyD]
    refine de_pure (hp) rfl rfl (by first | exact wk_refls _ | (repeat constructor)) ?_
    simp (maxSteps := 2000000) only [go_sem, reduceIte, Nat.reduceEqDiff, Nat.reduceAdd, Int.reduceNeg, lk54, ap0, apk, st0, stk, List.append_assoc, List.cons_append, List.nil_append, List.length_append, List.length_cons, List.length_nil, Nat.zero_add, Nat.reduceAdd, Nat.add_assoc]
    refine ⟨pairsOk_ord (by kernel_rfl), ⟨p + 1, x', y', upd out p (out p + 1), updE (keyV ((p + 1 : Nat) : Int) x y) (I 1) es o⟩, ⟨⟨hi, hx21, hy21⟩, hf2, hout2, hR⟩, by simp only; omega, ?_⟩
    refine ent_weaken [.cells [.d (.int .i64 ((p + 1 : Nat) : Int)), .d (.int .i64 x), .d (.int .i64 y)]] (by simp [sC, keyV, I]) rfl (by simp [Tx.cx]) (all_low_app hH (by simp) (low3 hf2 _ _ (x', y') _)) rfl ?_
    simp (maxSteps := 2000000) only [go_sem, reduceIte, Nat.reduceEqDiff, Nat.reduceAdd, lk54, ap0, apk, st0, stk, List.append_assoc, List.cons_append, List.nil_append, List.length_append, List.length_cons, List.length_nil, Nat.zero_add, Nat.reduceAdd, Nat.add_assoc, q1, q2, q3, q4]
    all_goals first | exact .refl _ | exact ⟨.refl _, .refl _⟩ | exact ⟨.refl _, .refl _, .refl _⟩ | exact ⟨.refl _, _, rfl⟩ | exact ⟨_, rfl⟩ | exact ⟨.refl _, [], by simp⟩ | exact ⟨[], by simp⟩
end Go.Proofs.Ytkbnmanfoejoiaa
/- Dyes: the recipe that one comes back to; recipes that fit. -/
set_option linter.unusedSimpArgs false
set_option linter.unusedVariables false
set_option maxRecDepth 100000
namespace Go.Proofs.Ytkbnmanfoejoiaa
open Go Go.Abs Go.Proofs

theorem fill_bd {l : List Dy} (hl : OkL l) (q : Int) : Bd (fillF l q l.length) := Bd.fill hl q l.length (Nat.le_refl _)
theorem rec_back {l : List Dy} {q : Int} {T : Nat → Int} (h : RecT l q T) {i x y : Nat} (hi : i < l.length) (hx : x < 21) (hy : y < 21) (hne : T (cix (i + 1) x y) ≠ T (cix i x y)) :
    ((gD l i).a.toNat ≤ x ∧ (gD l i).b.toNat ≤ y) ∧ q ≤ (gD l i).f ∧ T (cix (i + 1) (x - (gD l i).a.toNat) (y - (gD l i).b.toNat)) ≠ MX ∧ T (cix (i + 1) x y) = T (cix (i + 1) (x - (gD l i).a.toNat) (y - (gD l i).b.toNat)) + (gD l i).p := by
  have h1 := h.s i x y hi hx hy
  split at h1
  · rename_i hc
    refine ⟨hc.1, hc.2.1, hc.2.2, ?_⟩
    rw [h1] at hne ⊢
    omega
  · exact absurd h1 hne
theorem back_ok {l : List Dy} (hl : OkL l) (q : Int) : BackOk l (fillF l q l.length) := fun i x y hi hx hy hne => (rec_back (fill_rec hl q) hi hx hy hne).1
theorem sumF_upd (out w : Nat → Int) (p : Nat) : ∀ n, sumF (fun k => upd out p (out p + 1) k * w k) n = sumF (fun k => out k * w k) n + if p < n then w p else 0
  | 0 => by simp [sumF]
  | n + 1 => by
    rw [sumF, sumF, sumF_upd out w p n]
    by_cases e : p = n
    · subst e
      rw [upd_at, if_neg (Nat.lt_irrefl _), if_pos (Nat.lt_succ_self _), Int.add_mul, Int.one_mul]
      omega
    · rw [upd_other (fun h => e h.symm)]
      by_cases h : p < n
      · rw [if_pos h, if_pos (by omega)]; omega
      · rw [if_neg h, if_neg (by omega)]; omega
structure BackP (l : List Dy) (q : Int) (x y : Nat) (c : Int) (out R : Nat → Int) : Prop where
  a : sumF (fun k => R k * (gD l k).a) l.length = sumF (fun k => out k * (gD l k).a) l.length + x
  b : sumF (fun k => R k * (gD l k).b) l.length = sumF (fun k => out k * (gD l k).b) l.length + y
  p : sumF (fun k => R k * (gD l k).p) l.length = sumF (fun k => out k * (gD l k).p) l.length + c
  f : ∀ k, R k ≠ out k → q ≤ (gD l k).f
  n : ∀ k, out k ≤ R k
theorem back_law {l : List Dy} (hl : OkL l) {q : Int} {T : Nat → Int} (h : RecT l q T) : ∀ (m i x y : Nat) (out : Nat → Int), i + x + y ≤ m → i ≤ l.length → x < 21 → y < 21 → T (cix i x y) ≠ MX → BackP l q x y (T (cix i x y)) out (backF l T i x y out)
  | m, 0, x, y, out, hm, hi, hx, hy, hT => by
    rw [backF, dif_pos rfl]
    have h0 := h.z x y hx hy
    by_cases e : x = 0 ∧ y = 0
    · rw [if_pos e] at h0
      obtain ⟨rfl, rfl⟩ := e
      rw [h0]
      exact ⟨by simp, by simp, by simp, fun k hk => absurd rfl hk, fun k => Int.le_refl _⟩
    · rw [if_neg e] at h0; exact absurd h0 hT
  | 0, i + 1, x, y, out, hm, hi, hx, hy, hT => by omega
  | m + 1, i + 1, x, y, out, hm, hi, hx, hy, hT => by
    rw [backF, dif_neg (by omega), show i + 1 - 1 = i from rfl]
    by_cases he : T (cix (i + 1) x y) = T (cix i x y)
    · rw [if_pos he, he]
      exact back_law hl h m i x y out (by omega) (by omega) hx hy (by rw [← he]; exact hT)
    · obtain ⟨⟨ba, bb⟩, hq, hm1, hp⟩ := rec_back h (by omega) hx hy he
      have hd := hl.g (show i < l.length by omega)
      have hab : 0 < (gD l i).a.toNat + (gD l i).b.toNat := by
        have := hd.ab
        have := hd.a0
        have := hd.b0
        omega
      have a0 := hd.a0
      have b0 := hd.b0
      rw [if_neg he, dif_pos ⟨⟨ba, bb⟩, hab⟩]
      have ih := back_law hl h m (i + 1) (x - (gD l i).a.toNat) (y - (gD l i).b.toNat) (upd out i (out i + 1)) (by omega) hi (by omega) (by omega) hm1
      have s1 := ih.a
      have s2 := ih.b
      have s3 := ih.p
      rw [sumF_upd, if_pos (by omega)] at s1 s2 s3
      refine ⟨by omega, by omega, by omega, fun k hk => ?_, fun k => ?_⟩
      · by_cases e : k = i
        · subst e; exact hq
        · refine ih.f k ?_
          rw [upd_other e]; exact hk
      · have := ih.n k
        by_cases e : k = i
        · subst e; rw [upd_at] at this; omega
        · rw [upd_other e] at this; exact this
theorem sumF_one {f : Nat → Int} {n k : Nat} (h : ∀ j, j < n → 0 ≤ f j) (hk : k < n) : f k ≤ sumF f n := by
  induction n with
  | zero => omega
  | succ n ih =>
    rw [sumF]
    have h0 : 0 ≤ sumF f n := by
      clear ih hk
      induction n with
      | zero => simp [sumF]
      | succ n ih => rw [sumF]; have := ih (fun j hj => h j (by omega)); have := h n (by omega); omega
    by_cases e : k = n
    · subst e; omega
    · have := ih (fun j hj => h j (by omega)) (by omega)
      have := h n (by omega)
      omega
theorem sumF_congr {f g : Nat → Int} : ∀ {n : Nat}, (∀ k, k < n → f k = g k) → sumF f n = sumF g n
  | 0, _ => rfl
  | n + 1, h => by rw [sumF, sumF, sumF_congr (fun k hk => h k (by omega)), h n (by omega)]
def mkL (n : Nat) (R : Nat → Int) : List Int := (List.range n).map R
theorem mkL_len (n : Nat) (R : Nat → Int) : (mkL n R).length = n := by simp [mkL]
theorem mkL_get {n k : Nat} (R : Nat → Int) (h : k < n) : gI (mkL n R) k = R k := by simp [mkL, gI, List.getD, h]
/-- The recipe of the cheapest spot. -/
def bestR (l : List Dy) (w : Wn) : List Int := mkL l.length (backF l (fillF l w.f l.length) l.length (bestS w (fillF l w.f l.length) l.length).1 (bestS w (fillF l w.f l.length) l.length).2 fun _ => 0)
def costB (l : List Dy) (w : Wn) : Int := bestC w (fillF l w.f l.length) l.length
theorem bestR_law {l : List Dy} {w : Wn} (hl : OkL l) (hw : OkW w) (hc : costB l w ≠ MX) : OkR l (bestR l w) ∧ inWB l w (bestR l w) = true ∧ fadeB l w.f (bestR l w) = false ∧ sP l (bestR l w) l.length = costB l w := by
  have hS := (best_spec hw (fillF l w.f l.length) l.length).1
  have hlt := inS_lt hw hS
  have hin := (inS_iff _ _).1 hS
  unfold costB bestC at hc ⊢
  unfold bestR
  generalize bestS w (fillF l w.f l.length) l.length = p at *
  have B := back_law hl (fill_rec hl w.f) (l.length + p.1 + p.2) l.length p.1 p.2 (fun _ => 0) (Nat.le_refl _) (Nat.le_refl _) hlt.1 hlt.2 hc
  generalize backF l (fillF l w.f l.length) l.length p.1 p.2 (fun _ => 0) = R at *
  have z : ∀ wt : Nat → Int, sumF (fun k => (0 : Int) * wt k) l.length = 0 := fun wt => by
    rw [sumF_congr (g := fun _ => 0) (fun k _ => Int.zero_mul _)]
    generalize l.length = n
    induction n with
    | zero => rfl
    | succ n ih => rw [sumF, ih]; rfl
  have e1 : sA l (mkL l.length R) l.length = p.1 := by
    unfold sA
    rw [sumF_congr (g := fun k => R k * (gD l k).a) (fun k hk => by rw [mkL_get R hk]), B.a, z]; omega
  have e2 : sB l (mkL l.length R) l.length = p.2 := by
    unfold sB
    rw [sumF_congr (g := fun k => R k * (gD l k).b) (fun k hk => by rw [mkL_get R hk]), B.b, z]; omega
  have e3 : sP l (mkL l.length R) l.length = fillF l w.f l.length (cix l.length p.1 p.2) := by
    unfold sP
    rw [sumF_congr (g := fun k => R k * (gD l k).p) (fun k hk => by rw [mkL_get R hk]), B.p, z]; omega
  have h20 : ∀ k, k < l.length → R k ≤ 20 := fun k hk => by
    have hd := hl.g hk
    have h0 := B.n k
    have ga : ∀ j, j < l.length → 0 ≤ R j * (gD l j).a := fun j hj => Int.mul_nonneg (B.n j) (hl.g hj).a0
    have gb : ∀ j, j < l.length → 0 ≤ R j * (gD l j).b := fun j hj => Int.mul_nonneg (B.n j) (hl.g hj).b0
    have h1 := sumF_one ga hk
    have h2 := sumF_one gb hk
    rw [B.a, z] at h1
    rw [B.b, z] at h2
    have hab := hd.ab
    have a0 := hd.a0
    have b0 := hd.b0
    by_cases ha : 0 < (gD l k).a
    · have : R k * 1 ≤ R k * (gD l k).a := Int.mul_le_mul_of_nonneg_left (by omega) h0
      omega
    · have : R k * 1 ≤ R k * (gD l k).b := Int.mul_le_mul_of_nonneg_left (by omega) h0
      omega
  refine ⟨⟨mkL_len _ _, fun x hx => ?_⟩, ?_, ?_, e3⟩
  · obtain ⟨k, hk, rfl⟩ := List.mem_map.1 hx
    exact ⟨B.n k, h20 k (List.mem_range.1 hk)⟩
  · unfold inWB inB
    rw [e1, e2]
    simp; omega
  · refine fade_none fun k hk => ?_
    rw [mkL_get R hk]
    intro h
    have := B.f k (by omega)
    omega
/-- A recipe that fits is reached. -/
theorem rec_reach {l : List Dy} (hl : OkL l) {r : List Int} (hr : OkR l r) {q : Int} (hf : fadeB l q r = false) : ∀ {i : Nat}, i ≤ l.length → Reach l q i (sA l r i).toNat (sB l r i).toNat (sP l r i)
  | 0, _ => ⟨rfl, rfl, rfl⟩
  | i + 1, hi => by
    have ih := rec_reach hl hr hf (i := i) (by omega)
    have hd := hl.g (show i < l.length by omega)
    have hg := hr.g (show i < l.length by omega)
    have s1 := s_bounds hl hr (n := i) (by omega)
    have eg : ((gI r i).toNat : Int) = gI r i := by omega
    have m1 : (((gI r i).toNat * (gD l i).a.toNat : Nat) : Int) = gI r i * (gD l i).a := by rw [Int.natCast_mul, eg, Int.toNat_of_nonneg hd.a0]
    have m2 : (((gI r i).toNat * (gD l i).b.toNat : Nat) : Int) = gI r i * (gD l i).b := by rw [Int.natCast_mul, eg, Int.toNat_of_nonneg hd.b0]
    refine ⟨(gI r i).toNat, fun h => ?_, _, _, _, ih, ?_, ?_, ?_⟩
    · by_cases hq : q ≤ (gD l i).f
      · exact hq
      · have := fade_at (l := l) (f := q) (r := r) (i := i) (by omega) (by omega) (by omega)
        rw [this] at hf; cases hf
    · have : sA l r (i + 1) = sA l r i + gI r i * (gD l i).a := rfl
      omega
    · have : sB l r (i + 1) = sB l r i + gI r i * (gD l i).b := rfl
      omega
    · rw [eg]; rfl
/-- A recipe fits. -/
structure Fits (l : List Dy) (w : Wn) (r : List Int) : Prop where
  ok : OkR l r
  win : inWB l w r = true
  fade : fadeB l w.f r = false
theorem fits_le {l : List Dy} {w : Wn} {r : List Int} (hl : OkL l) (hw : OkW w) (h : Fits l w r) : costB l w ≤ sP l r l.length := by
  have hin := h.win
  unfold inWB inB at hin
  simp only [Bool.and_eq_true, decide_eq_true_eq] at hin
  have s1 := s_bounds hl h.ok (n := l.length) (Nat.le_refl _)
  have hx := hw.x2
  have hy := hw.y2
  have h1 := (best_spec hw (fillF l w.f l.length) l.length).2 ((sA l r l.length).toNat, (sB l r l.length).toNat) ((inS_iff _ _).2 (by simp only; omega))
  have h2 := (rec_isL hl (fill_rec hl w.f) (Nat.le_refl _) (x := (sA l r l.length).toNat) (y := (sB l r l.length).toNat) (by omega) (by omega)).le _ (rec_reach hl h.ok h.fade (Nat.le_refl _))
  unfold costB
  simp only at h1
  omega
theorem fits_lt {l : List Dy} {w : Wn} {r : List Int} (hl : OkL l) (h : Fits l w r) : sP l r l.length < MX := by
  have s1 := s_bounds hl h.ok (n := l.length) (Nat.le_refl _)
  unfold MX; omega
theorem bestR_fits {l : List Dy} {w : Wn} (hl : OkL l) (hw : OkW w) (hc : costB l w ≠ MX) : Fits l w (bestR l w) := by
  obtain ⟨h1, h2, h3, _⟩ := bestR_law hl hw hc
  exact ⟨h1, h2, h3⟩
theorem chkE_iff {l : List Dy} {w : Wn} {r : List Int} : chkE l w r = 0 ↔ (OkL l ∧ OkW w) ∧ Fits l w r := by
  rw [← okWn_iff]
  unfold chkE
  constructor
  · intro h
    split at h
    · rename_i h0
      split at h
      · rename_i h1
        split at h
        · rename_i h2
          split at h
          · cases h
          · rename_i h3
            exact ⟨h0, (okRec_iff l r).1 h1, h2, by simpa using h3⟩
        · cases h
      · rename_i h1; exact absurd h h1
    · rename_i h0; exact absurd h h0
  · rintro ⟨h0, h1, h2, h3⟩
    rw [if_pos h0, if_pos ((okRec_iff l r).2 h1), if_pos h2, h3]; rfl
theorem costB_bd {l : List Dy} (hl : OkL l) (w : Wn) : 0 ≤ costB l w ∧ costB l w ≤ MX := fill_bd hl w.f _
end Go.Proofs.Ytkbnmanfoejoiaa
