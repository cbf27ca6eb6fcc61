/- Dyes: other prices, turned shelves. -/
import Derived.Test.YtkbnmanfoejoiaaDL5
set_option linter.unusedSimpArgs false
set_option linter.unusedVariables false
set_option maxRecDepth 100000
namespace Go.Proofs.Ytkbnmanfoejoiaa
open Go Go.Abs Go.Proofs

theorem fits_lt2 {l : List Dy} {w : Wn} {r : List Int} (hl : OkL l) (hw : OkW w) (h : Fits l w r) : costB l w ≠ MX := by
  have h1 := fits_le hl hw h
  have h2 := fits_lt hl h
  omega
/-! ### Other prices -/
def setP (g : Dy → Int) (l : List Dy) : List Dy := l.map fun d => ⟨d.a, d.b, g d, d.f⟩
theorem setP_len (g : Dy → Int) (l : List Dy) : (setP g l).length = l.length := by simp [setP]
theorem setP_get (g : Dy → Int) {l : List Dy} {i : Nat} (h : i < l.length) : gD (setP g l) i = ⟨(gD l i).a, (gD l i).b, g (gD l i), (gD l i).f⟩ := by
  have h1 := gD_lt h
  exact gD_get (by simp [setP, h1])
theorem setP_fits {g : Dy → Int} {l : List Dy} {w : Wn} {r : List Int} : Fits (setP g l) w r ↔ Fits l w r := by
  have key : ∀ f : Dy → Int, (∀ d : Dy, ∀ p, f ⟨d.a, d.b, p, d.f⟩ = f d) → sumF (fun i => gI r i * f (gD (setP g l) i)) l.length = sumF (fun i => gI r i * f (gD l i)) l.length := fun f hf => sumF_congr fun i hi => by rw [setP_get g hi, hf]
  have e1 : sA (setP g l) r l.length = sA l r l.length := key (·.a) fun _ _ => rfl
  have e2 : sB (setP g l) r l.length = sB l r l.length := key (·.b) fun _ _ => rfl
  have e3 : inWB (setP g l) w r = inWB l w r := by unfold inWB; rw [setP_len, e1, e2]
  have e4 : fadeB (setP g l) w.f r = fadeB l w.f r := by
    unfold fadeB
    rw [setP_len, Bool.eq_iff_iff, List.any_eq_true, List.any_eq_true]
    constructor
    · rintro ⟨i, hi, h⟩
      rw [setP_get g (List.mem_range.1 hi)] at h
      exact ⟨i, hi, h⟩
    · rintro ⟨i, hi, h⟩
      refine ⟨i, hi, ?_⟩
      rw [setP_get g (List.mem_range.1 hi)]
      exact h
  exact ⟨fun h => ⟨⟨h.ok.ln.trans (setP_len g l), h.ok.b⟩, e3 ▸ h.win, e4 ▸ h.fade⟩, fun h => ⟨⟨h.ok.ln.trans (setP_len g l).symm, h.ok.b⟩, e3.trans h.win, e4.trans h.fade⟩⟩
theorem setP_sum (g : Dy → Int) (l : List Dy) (r : List Int) : sP (setP g l) r (setP g l).length = sumF (fun i => gI r i * g (gD l i)) l.length := by
  rw [setP_len]
  exact sumF_congr fun i hi => by rw [setP_get g hi]
theorem setP_none {g : Dy → Int} {l : List Dy} {w : Wn} (hl : OkL l) (hw : OkW w) (hx : OkL (setP g l)) : costB (setP g l) w = MX ↔ costB l w = MX := by
  constructor
  · intro h
    by_cases c : costB l w = MX
    · exact c
    · exact absurd h (fits_lt2 hx hw (setP_fits.2 (bestR_fits hl hw c)))
  · intro h
    by_cases c : costB (setP g l) w = MX
    · exact c
    · exact absurd h (fits_lt2 hl hw (setP_fits.1 (bestR_fits hx hw c)))
theorem sumF_mul (k : Int) (f : Nat → Int) : ∀ n, sumF (fun i => k * f i) n = k * sumF f n
  | 0 => by simp [sumF]
  | n + 1 => by rw [sumF, sumF, sumF_mul k f n, Int.mul_add]
theorem times_sum (k : Int) (l : List Dy) (r : List Int) : sP (setP (fun d => k * d.p) l) r (setP (fun d => k * d.p) l).length = k * sP l r l.length := by
  rw [setP_sum, show sP l r l.length = sumF (fun i => gI r i * (gD l i).p) l.length from rfl, ← sumF_mul]
  exact sumF_congr fun i _ => by rw [← Int.mul_assoc, Int.mul_comm (gI r i) k, Int.mul_assoc]
theorem times_cost {k : Int} {l : List Dy} {w : Wn} (hk : 0 ≤ k) (hl : OkL l) (hw : OkW w) (hx : OkL (setP (fun d => k * d.p) l)) (hc : costB l w ≠ MX) : costB (setP (fun d => k * d.p) l) w = k * costB l w := by
  have hc2 : costB (setP (fun d => k * d.p) l) w ≠ MX := fun h => hc ((setP_none hl hw hx).1 h)
  have h1 := fits_le hx hw (setP_fits.2 (bestR_fits hl hw hc))
  rw [times_sum, (bestR_law hl hw hc).2.2.2] at h1
  have h2 := fits_le hl hw (setP_fits.1 (bestR_fits hx hw hc2))
  have h3 := (bestR_law hx hw hc2).2.2.2
  rw [times_sum] at h3
  have h4 := Int.mul_le_mul_of_nonneg_left h2 hk
  omega
theorem ones_ok {l : List Dy} (hl : OkL l) : OkL (setP (fun _ => 1) l) := by
  refine ⟨by rw [setP_len]; exact hl.n1, by rw [setP_len]; exact hl.n8, fun d hd => ?_⟩
  obtain ⟨e, he, rfl⟩ := List.mem_map.1 hd
  have h := hl.ok e he
  exact ⟨h.a0, h.a6, h.b0, h.b6, h.ab, by show (0 : Int) ≤ 1; decide, by show (1 : Int) ≤ 1000000; decide, h.f1, h.f8⟩
theorem ones_sum {l : List Dy} {r : List Int} (hr : r.length = l.length) : sP (setP (fun _ => 1) l) r (setP (fun _ => 1) l).length = sumF (gI r) r.length := by
  rw [setP_sum, hr]
  exact sumF_congr fun i _ => by rw [Int.mul_one]
/-! ### The same costs -/
structure SameC (l : List Dy) (w : Wn) (x : List Dy) (v : Wn) : Prop where
  ok : okWn x v = 0
  e : chE x v = chE l w
  c : chC x v = chC l w
  g : grL x v = grL l w
  n : wiN x v = wiN l w
theorem sameC {l : List Dy} {w : Wn} {x : List Dy} {v : Wn} (hl : OkL l) (hw : OkW w) (hx : OkL x) (hv : OkW v) (hc : costB x v = costB l w) (hg : ∀ q : Int, 1 ≤ q → q ≤ 8 → costB x ⟨v.x, v.y, q⟩ = costB l ⟨w.x, w.y, q⟩) (hb : ∀ b : Nat, b ≤ 20 → costB x (widenW v b) = costB l (widenW w b)) : SameC l w x v := by
  have o1 := (okWn_iff l w).2 ⟨hl, hw⟩
  have o2 := (okWn_iff x v).2 ⟨hx, hv⟩
  have e : chE x v = chE l w := by unfold chE; rw [o1, o2, hc]
  refine ⟨o2, e, by unfold chC; rw [e, hc], ?_, ?_⟩
  · unfold grL
    rw [if_pos o1, if_pos o2]
    unfold gradeL
    refine List.map_congr_left fun j hj => ?_
    have := List.mem_range.1 hj
    rw [gradeV_at, gradeV_at, hg _ (by omega) (by omega)]
  · unfold wiN
    rw [if_pos o1, if_pos o2]
    have key : ∀ k, k ≤ 20 → widF x v k = widF l w k := fun k => by
      induction k with
      | zero => intro _; rfl
      | succ k ih => intro hk; rw [widF, widF, hb _ (Nat.sub_le _ _), ih (by omega)]
    rw [key 20 (Nat.le_refl _)]
/-! ### Both bands exchanged -/
def swD (l : List Dy) : List Dy := l.map fun d => ⟨d.b, d.a, d.p, d.f⟩
def swW (w : Wn) : Wn := ⟨w.y, w.x, w.f⟩
theorem swD_len (l : List Dy) : (swD l).length = l.length := by simp [swD]
theorem swD_get {l : List Dy} {i : Nat} (h : i < l.length) : gD (swD l) i = ⟨(gD l i).b, (gD l i).a, (gD l i).p, (gD l i).f⟩ := by
  have h1 := gD_lt h
  exact gD_get (by simp [swD, h1])
theorem swD_ok {l : List Dy} (hl : OkL l) : OkL (swD l) := by
  refine ⟨by rw [swD_len]; exact hl.n1, by rw [swD_len]; exact hl.n8, fun d hd => ?_⟩
  obtain ⟨e, he, rfl⟩ := List.mem_map.1 hd
  have h := hl.ok e he
  exact ⟨h.b0, h.b6, h.a0, h.a6, fun hh => h.ab ⟨hh.2, hh.1⟩, h.p0, h.p6, h.f1, h.f8⟩
theorem swW_ok {w : Wn} (h : OkW w) : OkW (swW w) := ⟨h.y0, h.y1, h.y2, h.x0, h.x1, h.x2, h.f1, h.f8⟩
theorem swD_sw (l : List Dy) : swD (swD l) = l := by
  unfold swD
  rw [List.map_map]
  exact (List.map_congr_left fun d _ => rfl).trans (List.map_id l)
theorem sw_fits {l : List Dy} {w : Wn} {r : List Int} (h : Fits l w r) : Fits (swD l) (swW w) r ∧ sP (swD l) r (swD l).length = sP l r l.length := by
  have e1 : sA (swD l) r l.length = sB l r l.length := sumF_congr fun i hi => by rw [swD_get hi]
  have e2 : sB (swD l) r l.length = sA l r l.length := sumF_congr fun i hi => by rw [swD_get hi]
  have e3 : sP (swD l) r l.length = sP l r l.length := sumF_congr fun i hi => by rw [swD_get hi]
  refine ⟨⟨⟨h.ok.ln.trans (swD_len l).symm, h.ok.b⟩, ?_, ?_⟩, by rw [swD_len, e3]⟩
  · have := h.win
    unfold inWB at this ⊢
    rw [swD_len, e1, e2, Bool.and_comm]; exact this
  · refine fade_none fun i hi hc => ?_
    rw [swD_len] at hi
    rw [swD_get hi] at hc
    have h2 := h.fade
    have hc2 : (gD l i).f < w.f := hc.2
    rw [fade_at hi hc.1 hc2] at h2; cases h2
theorem sw_cost {l : List Dy} {w : Wn} (hl : OkL l) (hw : OkW w) : costB (swD l) (swW w) = costB l w := by
  have a := cost_le (swD_ok hl) (swW_ok hw) hl hw fun r h => ⟨r, (sw_fits h).1, by rw [(sw_fits h).2]; exact Int.le_refl _⟩
  have b := cost_le hl hw (swD_ok hl) (swW_ok hw) fun r h => ⟨r, by have := (sw_fits h).1; rwa [swD_sw] at this, by have := (sw_fits h).2; rw [swD_sw] at this; rw [this]; exact Int.le_refl _⟩
  omega
theorem sw_same {l : List Dy} {w : Wn} (hl : OkL l) (hw : OkW w) : SameC l w (swD l) (swW w) :=
  sameC hl hw (swD_ok hl) (swW_ok hw) (sw_cost hl hw) (fun q h1 h8 => sw_cost (w := ⟨w.x, w.y, q⟩) hl (wn_ok hw h1 h8)) (fun b hb => sw_cost (w := widenW w b) hl (widen_ok hw (by omega)))
/-! ### Dyes change their places -/
def rotD (l : List Dy) (t : Nat) : List Dy := (List.range l.length).map fun i => gD l ((i + t) % l.length)
def rotR (r : List Int) (t : Nat) : List Int := (List.range r.length).map fun i => gI r ((i + t) % r.length)
theorem rotD_len (l : List Dy) (t : Nat) : (rotD l t).length = l.length := by simp [rotD]
theorem rotR_len (l : List Int) (t : Nat) : (rotR l t).length = l.length := by simp [rotR]
theorem rotD_get {l : List Dy} {t i : Nat} (h : i < l.length) : gD (rotD l t) i = gD l ((i + t) % l.length) := gD_get (by simp [rotD, h])
theorem rotR_get {l : List Int} {t i : Nat} (h : i < l.length) : gI (rotR l t) i = gI l ((i + t) % l.length) := gI_get (by simp [rotR, h])
theorem sumF_front (f : Nat → Int) : ∀ n, sumF f (n + 1) = f 0 + sumF (fun i => f (i + 1)) n
  | 0 => by simp [sumF]
  | n + 1 => by rw [sumF, sumF_front f n, sumF]; omega
theorem sum_rot1 (f : Nat → Int) (n : Nat) : sumF (fun i => f ((i + 1) % n)) n = sumF f n := by
  cases n with
  | zero => rfl
  | succ n =>
    rw [sumF, sumF_front f n, show (n + 1) % (n + 1) = 0 from Nat.mod_self _, sumF_congr (g := fun i => f (i + 1)) (fun i hi => by rw [Nat.mod_eq_of_lt (by omega)])]
    omega
theorem sum_rot (f : Nat → Int) (n : Nat) : ∀ t, sumF (fun i => f ((i + t) % n)) n = sumF f n
  | 0 => sumF_congr fun i hi => by rw [Nat.add_zero, Nat.mod_eq_of_lt hi]
  | t + 1 => by
    rw [← sum_rot f n t, ← sum_rot1 (fun i => f ((i + t) % n)) n]
    refine sumF_congr fun i hi => ?_
    simp only [Nat.mod_add_mod]
    congr 2; omega
theorem rot_ok {l : List Dy} (hl : OkL l) (t : Nat) : OkL (rotD l t) := by
  refine ⟨by rw [rotD_len]; exact hl.n1, by rw [rotD_len]; exact hl.n8, fun d hd => ?_⟩
  obtain ⟨i, hi, rfl⟩ := List.mem_map.1 hd
  exact hl.g (Nat.mod_lt _ hl.n1)
theorem rot_fits {l : List Dy} {w : Wn} {r : List Int} (hl : OkL l) (t : Nat) (h : Fits l w r) : Fits (rotD l t) w (rotR r t) ∧ sP (rotD l t) (rotR r t) (rotD l t).length = sP l r l.length := by
  have hln := h.ok.ln
  have key : ∀ f : Dy → Int, sumF (fun i => gI (rotR r t) i * f (gD (rotD l t) i)) l.length = sumF (fun i => gI r i * f (gD l i)) l.length := fun f => by
    rw [← sum_rot (fun i => gI r i * f (gD l i)) l.length t]
    exact sumF_congr fun i hi => by rw [rotD_get hi, rotR_get (by omega), hln]
  have e1 : sA (rotD l t) (rotR r t) l.length = sA l r l.length := key (·.a)
  have e2 : sB (rotD l t) (rotR r t) l.length = sB l r l.length := key (·.b)
  have e3 : sP (rotD l t) (rotR r t) l.length = sP l r l.length := key (·.p)
  refine ⟨⟨⟨by rw [rotR_len, rotD_len, hln], fun x hx => ?_⟩, ?_, ?_⟩, by rw [rotD_len, e3]⟩
  · obtain ⟨i, hi, rfl⟩ := List.mem_map.1 hx
    exact h.ok.g (i := (i + t) % r.length) (by rw [hln]; exact Nat.mod_lt _ hl.n1)
  · have := h.win
    unfold inWB at this ⊢
    rw [rotD_len, e1, e2]; exact this
  · refine fade_none fun i hi hc => ?_
    rw [rotD_len] at hi
    rw [rotD_get hi, rotR_get (by omega), hln] at hc
    have h2 := h.fade
    rw [fade_at (Nat.mod_lt _ hl.n1) hc.1 hc.2] at h2; cases h2
theorem rot_back {l : List Dy} (hl : OkL l) (t : Nat) : rotD (rotD l t) (l.length - t % l.length) = l := by
  have h1 := hl.n1
  refine List.ext_getElem? fun i => ?_
  by_cases hi : i < l.length
  · have e1 : (rotD (rotD l t) (l.length - t % l.length))[i]? = some (gD (rotD (rotD l t) (l.length - t % l.length)) i) := gD_lt (by rw [rotD_len, rotD_len]; exact hi)
    rw [e1, gD_lt hi, rotD_get (by rw [rotD_len]; exact hi), rotD_len, rotD_get (Nat.mod_lt _ h1)]
    have hm := Nat.mod_lt t h1
    have e : ((i + (l.length - t % l.length)) % l.length + t) % l.length = i := by
      rw [Nat.mod_add_mod]
      have h2 := Nat.div_add_mod t l.length
      have h3 : i + (l.length - t % l.length) + t = i + l.length * (t / l.length + 1) := by rw [Nat.mul_add, Nat.mul_one]; omega
      rw [h3, Nat.add_mul_mod_self_left, Nat.mod_eq_of_lt hi]
    rw [e]
  · rw [List.getElem?_eq_none (by rw [rotD_len, rotD_len]; omega), List.getElem?_eq_none (by omega)]
theorem rot_cost {l : List Dy} {w : Wn} (hl : OkL l) (hw : OkW w) (t : Nat) : costB (rotD l t) w = costB l w := by
  have a : ∀ (l : List Dy) (t : Nat), OkL l → costB (rotD l t) w ≤ costB l w := fun l t hl => cost_le (rot_ok hl t) hw hl hw fun r h => ⟨rotR r t, (rot_fits hl t h).1, by rw [(rot_fits hl t h).2]; exact Int.le_refl _⟩
  have h1 := a l t hl
  have h2 := a (rotD l t) (l.length - t % l.length) (rot_ok hl t)
  rw [rot_back hl t] at h2
  omega
theorem rot_same {l : List Dy} {w : Wn} (hl : OkL l) (hw : OkW w) (t : Nat) : SameC l w (rotD l t) w :=
  sameC hl hw (rot_ok hl t) hw (rot_cost hl hw t) (fun q h1 h8 => rot_cost hl (wn_ok hw h1 h8) t) (fun b hb => rot_cost hl (widen_ok hw (by omega)) t)
end Go.Proofs.Ytkbnmanfoejoiaa
