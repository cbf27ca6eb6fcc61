/- Dyes: what is right of tables; the example shelf. -/
import Derived.Test.YtkbnmanfoejoiaaD22
set_option linter.unusedSimpArgs false
set_option linter.unusedVariables false
set_option maxRecDepth 100000
namespace Go.Proofs.Ytkbnmanfoejoiaa
open Go Go.Abs Go.Proofs

theorem costB_eq {l : List Dy} {w : Wn} {r : List Int} {c : Int} (hl : OkL l) (hw : OkW w) (h : Fits l w r) (hc : sP l r l.length = c) (hm : ∀ r, Fits l w r → c ≤ sP l r l.length) : costB l w = c := by
  have h1 := fits_le hl hw h
  have h2 := fits_lt hl h
  have hne : costB l w ≠ MX := by omega
  have h3 := hm _ (bestR_fits hl hw hne)
  have h4 := (bestR_law hl hw hne).2.2.2
  omega
theorem costB_none {l : List Dy} {w : Wn} (hl : OkL l) (hw : OkW w) (h : ∀ r, ¬ Fits l w r) : costB l w = MX := by
  by_cases hne : costB l w = MX
  · exact hne
  · exact absurd (bestR_fits hl hw hne) (h _)
theorem fill_right {l : List Dy} (hl : OkL l) (q : Int) : rightI l q (fillF l q l.length) l.length = true := by
  have R := fill_rec hl q
  have B := fill_bd hl q
  refine (rightI_iff l q _ l.length).2 ⟨?_, fun i x y hi hx hy => ⟨?_, fun h => ?_⟩⟩
  · have := R.z 0 0 (by omega) (by omega)
    rwa [if_pos ⟨rfl, rfl⟩] at this
  · rw [R.s i x y hi hx hy]
    split <;> omega
  · have h1 := R.s i (x + (gD l i).a.toNat) (y + (gD l i).b.toNat) hi h.2.1 h.2.2
    rw [Nat.add_sub_cancel, Nat.add_sub_cancel] at h1
    by_cases hm : fillF l q l.length (cix (i + 1) x y) = MX
    · have := B (cix (i + 1) (x + (gD l i).a.toNat) (y + (gD l i).b.toNat))
      have := (hl.g hi).p0
      omega
    · rw [if_pos ⟨⟨by omega, by omega⟩, h.1, hm⟩] at h1
      omega
theorem right_congr {l : List Dy} {q : Int} {f g : Nat → Int} (h : ∀ k, k < (l.length + 1) * 441 → f k = g k) : rightI l q f l.length = rightI l q g l.length := by
  rw [Bool.eq_iff_iff, rightI_iff, rightI_iff, h 0 (by omega)]
  have e : ∀ {i x y : Nat}, i < l.length → x < 21 → y < 21 → (RightP l q f i x y ↔ RightP l q g i x y) := fun {i x y} hi hx hy => by
    unfold RightP
    rw [h (cix (i + 1) x y) (by unfold cix; omega), h (cix i x y) (by unfold cix; omega)]
    by_cases hc : q ≤ (gD l i).f ∧ x + (gD l i).a.toNat < 21 ∧ y + (gD l i).b.toNat < 21
    · rw [h (cix (i + 1) (x + (gD l i).a.toNat) (y + (gD l i).b.toNat)) (by unfold cix; omega)]
    · exact ⟨fun h2 => ⟨h2.1, fun h3 => absurd h3 hc⟩, fun h2 => ⟨h2.1, fun h3 => absurd h3 hc⟩⟩
  exact ⟨fun ⟨h1, h2⟩ => ⟨h1, fun i x y hi hx hy => (e hi hx hy).1 (h2 i x y hi hx hy)⟩, fun ⟨h1, h2⟩ => ⟨h1, fun i x y hi hx hy => (e hi hx hy).2 (h2 i x y hi hx hy)⟩⟩
/-- The table of costs is right, and its bound is the cost. -/
theorem ctab_own {l : List Dy} {w : Wn} (hl : OkL l) (hw : OkW w) : ctabE l w (costsL l w.f) = 0 ∧ ctabN l w (costsL l w.f) = costB l w := by
  have hlen := costsL_len l w.f
  have e : ctabE l w (costsL l w.f) = 0 := by
    unfold ctabE
    rw [if_pos ((okWn_iff l w).2 ⟨hl, hw⟩), if_pos hlen, if_neg, if_pos]
    · rw [right_congr (g := fillF l w.f l.length) (fun k hk => costsL_get hl w.f hk)]
      exact fill_right hl w.f
    · rw [mn_iff (by omega)]
      rintro ⟨j, hj, h⟩
      rw [costsL_get hl w.f (by omega)] at h
      have := fill_bd hl w.f j
      omega
  refine ⟨e, ?_⟩
  unfold ctabN
  rw [e, if_pos rfl, costB_bound hl hw]
/-- A right table is nowhere greater than the costs. -/
theorem right_reach {l : List Dy} (hl : OkL l) {q : Int} {f : Nat → Int} (h : rightI l q f l.length = true) : ∀ {i x y : Nat} {c : Int}, i ≤ l.length → x < 21 → y < 21 → Reach l q i x y c → f (cix i x y) ≤ c
  | 0, x, y, c, _, _, _, ⟨h1, h2, h3⟩ => by
    subst h1; subst h2; subst h3
    have := ((rightI_iff l q f l.length).1 h).1
    rw [show cix 0 0 0 = 0 from rfl, this]; omega
  | i + 1, x, y, c, hi, hx, hy, ⟨g, hg, x', y', c', r1, ex, ey, ec⟩ => by
    have hR := ((rightI_iff l q f l.length).1 h).2
    have ih := right_reach hl h (i := i) (x := x') (y := y') (by omega) (by omega) (by omega) r1
    have key : ∀ (g : Nat) (x y : Nat) (c : Int), (0 < g → q ≤ (gD l i).f) → x < 21 → y < 21 → x = x' + g * (gD l i).a.toNat → y = y' + g * (gD l i).b.toNat → c = c' + g * (gD l i).p → f (cix (i + 1) x y) ≤ c := fun g => by
      induction g with
      | zero =>
        intro x y c _ hx hy ex ey ec
        have e1 : x = x' := by omega
        have e2 : y = y' := by omega
        subst e1; subst e2
        have := (hR i x y (by omega) hx hy).1
        have e : ((0 : Nat) : Int) * (gD l i).p = 0 := by rw [show ((0 : Nat) : Int) = 0 from rfl, Int.zero_mul]
        omega
      | succ g ihg =>
        intro x y c hq hx hy ex ey ec
        rw [Nat.add_mul, Nat.one_mul] at ex ey
        rw [Int.natCast_succ, Int.add_mul, Int.one_mul] at ec
        have h1 := ihg (x - (gD l i).a.toNat) (y - (gD l i).b.toNat) (c - (gD l i).p) (fun _ => hq (by omega)) (by omega) (by omega) (by omega) (by omega) (by omega)
        have h2 := (hR i (x - (gD l i).a.toNat) (y - (gD l i).b.toNat) (by omega) (by omega) (by omega)).2 ⟨hq (by omega), by omega, by omega⟩
        rw [Nat.sub_add_cancel (by omega), Nat.sub_add_cancel (by omega)] at h2
        omega
    exact key g x y c hg hx hy ex ey ec
theorem ctab_le {l : List Dy} {w : Wn} {t : List Int} (h : ctabE l w t = 0) : ctabN l w t ≤ costB l w := by
  have h0 : okWn l w = 0 := by
    by_cases h0 : okWn l w = 0
    · exact h0
    · unfold ctabE at h; rw [if_neg h0] at h; exact absurd h h0
  obtain ⟨hl, hw⟩ := (okWn_iff l w).1 h0
  have h' := h
  unfold ctabE at h'
  rw [if_pos h0] at h'
  split at h'
  · split at h'
    · cases h'
    · rename_i hr
      split at h'
      · rename_i hri
        unfold ctabN
        rw [if_pos h]
        have hB := gI_bd hr
        have hS := (best_spec hw (fillF l w.f l.length) l.length).1
        have hlt := inS_lt hw hS
        have h1 := (bound_spec hw (gI t) l.length).2.2 _ hS
        have hb := hB (cix l.length (bestS w (fillF l w.f l.length) l.length).1 (bestS w (fillF l w.f l.length) l.length).2)
        rcases (rec_isL hl (fill_rec hl w.f) (Nat.le_refl _) hlt.1 hlt.2).at' with h2 | h2
        · unfold costB bestC; rw [h2]; omega
        · have := right_reach hl hri (Nat.le_refl _) hlt.1 hlt.2 h2
          unfold costB bestC; omega
      · cases h'
  · cases h'
/-! ### The example -/
def sh0 : List Dy := [⟨2, 1, 5, 6⟩, ⟨0, 3, 4, 3⟩, ⟨1, 0, 3, 8⟩]
def wt0 (f : Int) : Wn := ⟨⟨4, 5⟩, ⟨3, 4⟩, f⟩
theorem sh0_ok : OkL sh0 := (okShelf_iff sh0).1 rfl
theorem sh0_fits {w : Wn} {r : List Int} (h : Fits sh0 w r) : ∃ a b c : Int, r = [a, b, c] ∧ ((0 ≤ a ∧ a ≤ 20) ∧ (0 ≤ b ∧ b ≤ 20) ∧ 0 ≤ c ∧ c ≤ 20) ∧ ((w.x.lo ≤ 2 * a + c ∧ 2 * a + c ≤ w.x.hi) ∧ w.y.lo ≤ a + 3 * b ∧ a + 3 * b ≤ w.y.hi) ∧ ((0 < a → w.f ≤ 6) ∧ (0 < b → w.f ≤ 3) ∧ (0 < c → w.f ≤ 8)) ∧ sP sh0 r 3 = 5 * a + 4 * b + 3 * c := by
  have hln := h.ok.ln
  match r, hln with
  | [a, b, c], _ =>
    have h1 := h.ok.b
    have h2 := h.win
    have h3 := h.fade
    simp [inWB, inB, sA, sB, sumF, gI, gD, sh0] at h2
    refine ⟨a, b, c, rfl, ⟨h1 a (by simp), h1 b (by simp), h1 c (by simp)⟩, ⟨⟨by omega, by omega⟩, by omega, by omega⟩, ⟨fun ha => ?_, fun hb => ?_, fun hc => ?_⟩, by simp [sP, sumF, gI, gD, sh0]; omega⟩
    · by_cases hf : w.f ≤ 6
      · exact hf
      · rw [fade_at (i := 0) (by decide) (show 0 < gI [a, b, c] 0 from ha) (show (6 : Int) < w.f by omega)] at h3; cases h3
    · by_cases hf : w.f ≤ 3
      · exact hf
      · rw [fade_at (i := 1) (by decide) (show 0 < gI [a, b, c] 1 from hb) (show (3 : Int) < w.f by omega)] at h3; cases h3
    · by_cases hf : w.f ≤ 8
      · exact hf
      · rw [fade_at (i := 2) (by decide) (show 0 < gI [a, b, c] 2 from hc) (show (8 : Int) < w.f by omega)] at h3; cases h3
theorem sh0_mk {w : Wn} (a b c : Int) (h1 : (0 ≤ a ∧ a ≤ 20) ∧ (0 ≤ b ∧ b ≤ 20) ∧ 0 ≤ c ∧ c ≤ 20) (h2 : (w.x.lo ≤ 2 * a + c ∧ 2 * a + c ≤ w.x.hi) ∧ w.y.lo ≤ a + 3 * b ∧ a + 3 * b ≤ w.y.hi) (h3 : (0 < a → w.f ≤ 6) ∧ (0 < b → w.f ≤ 3) ∧ (0 < c → w.f ≤ 8)) : Fits sh0 w [a, b, c] ∧ sP sh0 [a, b, c] 3 = 5 * a + 4 * b + 3 * c := by
  refine ⟨⟨⟨rfl, fun x hx => ?_⟩, ?_, ?_⟩, by simp [sP, sumF, gI, gD, sh0]; omega⟩
  · simp at hx
    rcases hx with rfl | rfl | rfl <;> omega
  · simp [inWB, inB, sA, sB, sumF, gI, gD, sh0]; omega
  · refine fade_none fun i hi => ?_
    have : i = 0 ∨ i = 1 ∨ i = 2 := by have : i < 3 := hi; omega
    rcases this with rfl | rfl | rfl
    · show ¬ (0 < a ∧ (6 : Int) < w.f); omega
    · show ¬ (0 < b ∧ (3 : Int) < w.f); omega
    · show ¬ (0 < c ∧ (8 : Int) < w.f); omega
theorem wt0_ok {f : Int} (h1 : 1 ≤ f) (h8 : f ≤ 8) : OkW (wt0 f) := ⟨by show (0 : Int) ≤ 4; decide, by show (4 : Int) ≤ 5; decide, by show (5 : Int) ≤ 20; decide, by show (0 : Int) ≤ 3; decide, by show (3 : Int) ≤ 4; decide, by show (4 : Int) ≤ 20; decide, h1, h8⟩
theorem cost3 {f : Int} (h1 : 1 ≤ f) (h3 : f ≤ 3) : costB sh0 (wt0 f) = 15 := by
  obtain ⟨a1, a2⟩ := sh0_mk (w := wt0 f) 1 1 2 (by omega) (by show ((4 : Int) ≤ _ ∧ _ ≤ (5 : Int)) ∧ (3 : Int) ≤ _ ∧ _ ≤ (4 : Int); omega) (by show (_ → f ≤ 6) ∧ (_ → f ≤ 3) ∧ (_ → f ≤ 8); omega)
  refine costB_eq sh0_ok (wt0_ok h1 (by omega)) a1 a2 fun r hr => ?_
  obtain ⟨a, b, c, rfl, k1, k2, k3, k4⟩ := sh0_fits hr
  rw [show sh0.length = 3 from rfl, k4]
  have k2 : ((4 : Int) ≤ 2 * a + c ∧ 2 * a + c ≤ (5 : Int)) ∧ (3 : Int) ≤ a + 3 * b ∧ a + 3 * b ≤ (4 : Int) := k2
  omega
theorem cost4 {f : Int} (h1 : 4 ≤ f) (h8 : f ≤ 8) : costB sh0 (wt0 f) = MX := by
  refine costB_none sh0_ok (wt0_ok (by omega) h8) fun r hr => ?_
  obtain ⟨a, b, c, rfl, k1, k2, k3, k4⟩ := sh0_fits hr
  have k2 : ((4 : Int) ≤ 2 * a + c ∧ 2 * a + c ≤ (5 : Int)) ∧ (3 : Int) ≤ a + 3 * b ∧ a + 3 * b ≤ (4 : Int) := k2
  have k3 : (0 < a → f ≤ 6) ∧ (0 < b → f ≤ 3) ∧ (0 < c → f ≤ 8) := k3
  omega
theorem wid6 : widF sh0 (wt0 6) 20 = 1 := by
  have e0 : widF sh0 (wt0 6) 20 = _ := widF_at (l := sh0) (w := wt0 6) (b := 0) (by decide)
  have e1 := widF_at (l := sh0) (w := wt0 6) (b := 1) (by decide)
  have c0 : costB sh0 (widenW (wt0 6) ((0 : Nat) : Int)) = MX := by
    have : widenW (wt0 6) ((0 : Nat) : Int) = wt0 6 := by simp [widenW, wt0]; omega
    rw [this]; exact cost4 (by decide) (by decide)
  have c1 : costB sh0 (widenW (wt0 6) ((1 : Nat) : Int)) ≠ MX := by
    intro e
    obtain ⟨a1, a2⟩ := sh0_mk (w := widenW (wt0 6) ((1 : Nat) : Int)) 2 0 0 (by omega) (by simp [widenW, wt0]; omega) (by simp [widenW, wt0])
    have h := fits_le sh0_ok (widen_ok (wt0_ok (by decide) (by decide)) (by decide)) a1
    rw [e] at h
    rw [show sh0.length = 3 from rfl, a2] at h
    unfold MX at h; omega
  rw [if_neg (fun h => h c0)] at e0
  rw [if_pos c1] at e1
  exact e0.trans e1
theorem wid3 : widF sh0 (wt0 3) 20 = 0 := by
  have e0 : widF sh0 (wt0 3) 20 = _ := widF_at (l := sh0) (w := wt0 3) (b := 0) (by decide)
  have c0 : costB sh0 (widenW (wt0 3) ((0 : Nat) : Int)) ≠ MX := by
    have : widenW (wt0 3) ((0 : Nat) : Int) = wt0 3 := by simp [widenW, wt0]; omega
    rw [this, cost3 (by decide) (by decide)]; unfold MX; decide
  rw [if_pos c0] at e0
  exact e0
theorem grd3 : gradeL sh0 (wt0 3) 8 = [15, 15, 15, -1, -1, -1, -1, -1] := by
  have g1 : ∀ q : Int, 1 ≤ q → q ≤ 3 → gradeV sh0 (wt0 3) q = 15 := fun q h1 h3 => by
    have := cost3 h1 h3
    rw [gradeV_at, show (⟨(wt0 3).x, (wt0 3).y, q⟩ : Wn) = wt0 q from rfl, this, if_neg (by unfold MX; decide)]
  have g2 : ∀ q : Int, 4 ≤ q → q ≤ 8 → gradeV sh0 (wt0 3) q = -1 := fun q h1 h3 => by
    have := cost4 h1 h3
    rw [gradeV_at, show (⟨(wt0 3).x, (wt0 3).y, q⟩ : Wn) = wt0 q from rfl, this, if_pos rfl]
  show [gradeV sh0 (wt0 3) 1, gradeV sh0 (wt0 3) 2, gradeV sh0 (wt0 3) 3, gradeV sh0 (wt0 3) 4, gradeV sh0 (wt0 3) 5, gradeV sh0 (wt0 3) 6, gradeV sh0 (wt0 3) 7, gradeV sh0 (wt0 3) 8] = _
  rw [g1 1 (by decide) (by decide), g1 2 (by decide) (by decide), g1 3 (by decide) (by decide), g2 4 (by decide) (by decide), g2 5 (by decide) (by decide), g2 6 (by decide) (by decide), g2 7 (by decide) (by decide), g2 8 (by decide) (by decide)]
end Go.Proofs.Ytkbnmanfoejoiaa
