/- Dyes: how costs change with the shelf and the want. -/
import Derived.Test.YtkbnmanfoejoiaaDL4
set_option linter.unusedSimpArgs false
set_option linter.unusedVariables false
set_option maxRecDepth 100000
namespace Go.Proofs.Ytkbnmanfoejoiaa
open Go Go.Abs Go.Proofs

theorem cost_le {l l' : List Dy} {w w' : Wn} (hl : OkL l) (hw : OkW w) (hl' : OkL l') (hw' : OkW w') (h : ∀ r', Fits l' w' r' → ∃ r, Fits l w r ∧ sP l r l.length ≤ sP l' r' l'.length) : costB l w ≤ costB l' w' := by
  by_cases hm : costB l' w' = MX
  · have := costB_bd hl w; omega
  · obtain ⟨r, h1, h2⟩ := h _ (bestR_fits hl' hw' hm)
    have h3 := (bestR_law hl' hw' hm).2.2.2
    have h4 := fits_le hl hw h1
    omega
theorem wn_ok {w : Wn} (h : OkW w) {q : Int} (h1 : 1 ≤ q) (h8 : q ≤ 8) : OkW ⟨w.x, w.y, q⟩ := ⟨h.x0, h.x1, h.x2, h.y0, h.y1, h.y2, h1, h8⟩
theorem fade_mono {l : List Dy} {r : List Int} {q q' : Int} (hq : q ≤ q') (h : fadeB l q' r = false) : fadeB l q r = false := fade_none fun i hi hc => by
  rw [fade_at (f := q') hi hc.1 (by omega)] at h; cases h
theorem cost_fast {l : List Dy} {w : Wn} (hl : OkL l) (hw : OkW w) {q q' : Int} (h1 : 1 ≤ q) (hq : q ≤ q') (h8 : q' ≤ 8) : costB l ⟨w.x, w.y, q⟩ ≤ costB l ⟨w.x, w.y, q'⟩ :=
  cost_le hl (wn_ok hw h1 (by omega)) hl (wn_ok hw (by omega) h8) fun r h => ⟨r, ⟨h.ok, h.win, fade_mono hq h.fade⟩, Int.le_refl _⟩
theorem cost_wide {l : List Dy} {w : Wn} (hl : OkL l) (hw : OkW w) {b : Int} (hb : 0 ≤ b) : costB l (widenW w b) ≤ costB l w :=
  cost_le hl (widen_ok hw hb) hl hw fun r h => by
    refine ⟨r, ⟨h.ok, ?_, h.fade⟩, Int.le_refl _⟩
    have h2 := h.win
    have s := s_bounds hl h.ok (n := l.length) (Nat.le_refl _)
    have := hw.x2
    have := hw.y2
    unfold inWB inB at h2 ⊢
    simp only [Bool.and_eq_true, decide_eq_true_eq] at h2
    rw [Bool.and_eq_true, Bool.and_eq_true, Bool.and_eq_true]
    refine ⟨⟨decide_eq_true ?_, decide_eq_true ?_⟩, decide_eq_true ?_, decide_eq_true ?_⟩ <;> simp only [widenW] <;> omega
theorem chE_val {l : List Dy} {w : Wn} (h : okWn l w = 0) : (costB l w ≠ MX ∧ chE l w = 0 ∧ chC l w = costB l w ∧ chR l w = bestR l w) ∨ (costB l w = MX ∧ chE l w = 13 ∧ chC l w = 0 ∧ chR l w = []) := by
  by_cases hc : costB l w = MX
  · have e : chE l w = 13 := by unfold chE; rw [if_pos h, if_pos hc]
    exact .inr ⟨hc, e, by unfold chC; rw [e]; rfl, by unfold chR; rw [e]; rfl⟩
  · have e : chE l w = 0 := by unfold chE; rw [if_pos h, if_neg hc]
    exact .inl ⟨hc, e, by unfold chC; rw [e]; rfl, by unfold chR; rw [e]; rfl⟩
theorem widF_spec {l : List Dy} {w : Wn} (hl : OkL l) (hw : OkW w) : ∀ k, k ≤ 20 → (∀ b, b < 20 - k → costB l (widenW w (b : Nat)) = MX) → widF l w k ≤ 20 ∧ costB l (widenW w (widF l w k : Nat)) ≠ MX ∧ ∀ b, b < widF l w k → costB l (widenW w (b : Nat)) = MX
  | 0, _, h => ⟨Nat.le_refl _, cost_w20 hl hw, fun b hb => h b hb⟩
  | k + 1, hk, h => by
    rw [widF]
    by_cases hc : costB l (widenW w ((20 - (k + 1) : Nat) : Int)) ≠ MX
    · rw [if_pos hc]
      exact ⟨Nat.sub_le _ _, hc, fun b hb => h b hb⟩
    · rw [if_neg hc]
      refine widF_spec hl hw k (by omega) fun b hb => ?_
      by_cases e : b = 20 - (k + 1)
      · subst e
        by_cases h2 : costB l (widenW w ((20 - (k + 1) : Nat) : Int)) = MX
        · exact h2
        · exact absurd h2 hc
      · exact h b (by omega)
theorem grade_step {l : List Dy} {w : Wn} (hl : OkL l) (hw : OkW w) {q q' : Int} (h1 : 1 ≤ q) (hq : q ≤ q') (h8 : q' ≤ 8) : ¬ gradeV l w q' < -1 ∧ (gradeV l w q = -1 → gradeV l w q' = -1) ∧ (gradeV l w q' ≠ -1 → gradeV l w q ≤ gradeV l w q') := by
  rw [gradeV_at, gradeV_at]
  have h := cost_fast hl hw h1 hq h8
  have b1 := costB_bd hl ⟨w.x, w.y, q⟩
  have b2 := costB_bd hl ⟨w.x, w.y, q'⟩
  by_cases c1 : costB l ⟨w.x, w.y, q⟩ = MX <;> by_cases c2 : costB l ⟨w.x, w.y, q'⟩ = MX
  · rw [if_pos c1, if_pos c2]; omega
  · omega
  · rw [if_neg c1, if_pos c2]; omega
  · rw [if_neg c1, if_neg c2]; omega
theorem gradeL_get (l : List Dy) (w : Wn) {k i : Nat} (h : i < k) : gI (gradeL l w k) i = gradeV l w ((i + 1 : Nat) : Int) := by simp [gradeL, gI, List.getD, h]
/-! ### One dye more -/
theorem getD_app {l : List Dy} {d : Dy} {i : Nat} (h : i < l.length) : gD (l ++ [d]) i = gD l i := by
  have h1 := gD_lt h
  exact gD_get (by rw [List.getElem?_append_left h]; exact h1)
theorem getI_app {l : List Int} {d : Int} {i : Nat} (h : i < l.length) : gI (l ++ [d]) i = gI l i := by
  have h1 := gI_lt h
  exact gI_get (by rw [List.getElem?_append_left h]; exact h1)
theorem getI_last {l : List Int} {d : Int} : gI (l ++ [d]) l.length = d := gI_get (by simp)
theorem sum_more {l : List Dy} {r : List Int} {d : Dy} (hr : r.length = l.length) (f : Dy → Int) : sumF (fun i => gI (r ++ [0]) i * f (gD (l ++ [d]) i)) (l ++ [d]).length = sumF (fun i => gI r i * f (gD l i)) l.length := by
  have e : (l ++ [d]).length = l.length + 1 := by simp
  have e0 : gI (r ++ [0]) l.length = 0 := by rw [← hr]; exact getI_last
  rw [e, sumF, e0, Int.zero_mul, Int.add_zero]
  exact sumF_congr fun i hi => by rw [getD_app hi, getI_app (by omega)]
theorem fits_more {l : List Dy} {w : Wn} {r : List Int} {d : Dy} (h : Fits l w r) : Fits (l ++ [d]) w (r ++ [0]) ∧ sP (l ++ [d]) (r ++ [0]) (l ++ [d]).length = sP l r l.length := by
  have hln := h.ok.ln
  refine ⟨⟨⟨by simp [hln], fun x hx => ?_⟩, ?_, ?_⟩, sum_more hln (·.p)⟩
  · rcases List.mem_append.1 hx with hx | hx
    · exact h.ok.b x hx
    · simp at hx; omega
  · have e1 : sA (l ++ [d]) (r ++ [0]) (l ++ [d]).length = sA l r l.length := sum_more hln (·.a)
    have e2 : sB (l ++ [d]) (r ++ [0]) (l ++ [d]).length = sB l r l.length := sum_more hln (·.b)
    have := h.win
    unfold inWB at this ⊢
    rw [e1, e2]; exact this
  · refine fade_none fun i hi hc => ?_
    by_cases hil : i < l.length
    · rw [getI_app (by omega), getD_app hil] at hc
      have h2 := h.fade
      rw [fade_at hil hc.1 hc.2] at h2; cases h2
    · have e : i = r.length := by simp at hi; omega
      rw [e, getI_last] at hc; omega
theorem cost_more {l : List Dy} {w : Wn} {d : Dy} (hl : OkL l) (hw : OkW w) (hl' : OkL (l ++ [d])) : costB (l ++ [d]) w ≤ costB l w :=
  cost_le hl' hw hl hw fun r h => ⟨r ++ [0], (fits_more h).1, by rw [(fits_more h).2]; exact Int.le_refl _⟩
end Go.Proofs.Ytkbnmanfoejoiaa
