/- Dyes: CheckTable of the reference. -/
import Derived.Test.YtkbnmanfoejoiaaD21
set_option linter.unusedSimpArgs false
set_option linter.unusedVariables false
set_option maxRecDepth 100000
namespace Go.Proofs.Ytkbnmanfoejoiaa
open Go Go.Abs Go.Proofs
def kp31 : List (Nat × List Nat) := [(0, [0, 2, 4]), (1, [0, 2, 4, 19]), (2, [6, 7]), (3, [0, 2, 4, 29]), (4, [6, 7]), (5, [0, 2, 4, 8]), (6, [0, 2, 4, 8, 33]), (7, [0, 2, 4, 8]), (8, [0, 2, 4, 8, 47]), (9, [6, 7]), (10, [0, 2, 4, 51]), (11, [6, 7]), (12, [0, 2, 4, 9]), (13, [0, 2, 4, 9, 55]), (14, [0, 2, 4, 9]), (15, [0, 2, 4, 9, 10]), (16, [0, 2, 4, 9, 10, 11]), (17, [0, 2, 4, 9, 10, 11, 63]), (18, [0, 2, 4, 9, 10, 11]), (19, [0, 2, 4, 9, 10, 11, 12]), (20, [0, 2, 4, 9, 10, 11, 12, 67]), (21, [0, 2, 4, 9, 10, 11, 12]), (22, [0, 2, 4, 9, 10, 11, 12, 13]), (23, [0, 2, 4, 9, 10, 11, 12, 13, 86]), (24, [6, 7]), (25, [0, 2, 4, 9, 10, 11, 12, 13, 14, 15]), (26, [0, 2, 4, 9, 10, 11, 12, 124]), (27, [6, 7]), (28, [6, 7])]
theorem lk31 : lookK kp31 0 = some [0, 2, 4] ∧ lookK kp31 1 = some [0, 2, 4, 19] ∧ lookK kp31 2 = some [6, 7] ∧ lookK kp31 3 = some [0, 2, 4, 29] ∧ lookK kp31 4 = some [6, 7] ∧ lookK kp31 5 = some [0, 2, 4, 8] ∧ lookK kp31 6 = some [0, 2, 4, 8, 33] ∧ lookK kp31 7 = some [0, 2, 4, 8] ∧ lookK kp31 8 = some [0, 2, 4, 8, 47] ∧ lookK kp31 9 = some [6, 7] ∧ lookK kp31 10 = some [0, 2, 4, 51] ∧ lookK kp31 11 = some [6, 7] ∧ lookK kp31 12 = some [0, 2, 4, 9] ∧ lookK kp31 13 = some [0, 2, 4, 9, 55] ∧ lookK kp31 14 = some [0, 2, 4, 9] ∧ lookK kp31 15 = some [0, 2, 4, 9, 10] ∧ lookK kp31 16 = some [0, 2, 4, 9, 10, 11] ∧ lookK kp31 17 = some [0, 2, 4, 9, 10, 11, 63] ∧ lookK kp31 18 = some [0, 2, 4, 9, 10, 11] ∧ lookK kp31 19 = some [0, 2, 4, 9, 10, 11, 12] ∧ lookK kp31 20 = some [0, 2, 4, 9, 10, 11, 12, 67] ∧ lookK kp31 21 = some [0, 2, 4, 9, 10, 11, 12] ∧ lookK kp31 22 = some [0, 2, 4, 9, 10, 11, 12, 13] ∧ lookK kp31 23 = some [0, 2, 4, 9, 10, 11, 12, 13, 86] ∧ lookK kp31 24 = some [6, 7] ∧ lookK kp31 25 = some [0, 2, 4, 9, 10, 11, 12, 13, 14, 15] ∧ lookK kp31 26 = some [0, 2, 4, 9, 10, 11, 12, 124] ∧ lookK kp31 27 = some [6, 7] ∧ lookK kp31 28 = some [6, 7] := ⟨rfl, rfl, rfl, rfl, rfl, rfl, rfl, rfl, rfl, rfl, rfl, rfl, rfl, rfl, rfl, rfl, rfl, rfl, rfl, rfl, rfl, rfl, rfl, rfl, rfl, rfl, rfl, rfl, rfl⟩

def doneP (l : List Dy) (q : Int) (f : Nat → Int) (m : Nat) : Prop := ∀ j, j < m → RightP l q f (j / 441) (j % 441 / 21) (j % 21)
theorem doneP_succ {l : List Dy} {q : Int} {f : Nat → Int} {i x y : Nat} (h : doneP l q f (cix i x y)) (hx : x < 21) (hy : y < 21) (hr : RightP l q f i x y) : doneP l q f (cix i x y + 1) := fun j hj => by
  by_cases e : j = cix i x y
  · subst e
    have e1 : cix i x y / 441 = i := by unfold cix; omega
    have e2 : cix i x y % 441 / 21 = x := by unfold cix; omega
    have e3 : cix i x y % 21 = y := by unfold cix; omega
    rw [e1, e2, e3]; exact hr
  · exact h j (by omega)
theorem doneP_all {l : List Dy} {q : Int} {f : Nat → Int} (h : doneP l q f (l.length * 441)) (h0 : f 0 = 0) : rightI l q f l.length = true := (rightI_iff l q f l.length).2 ⟨h0, fun i x y hi hx hy => by
  have := h (cix i x y) (by unfold cix; omega)
  have e1 : cix i x y / 441 = i := by unfold cix; omega
  have e2 : cix i x y % 441 / 21 = x := by unfold cix; omega
  have e3 : cix i x y % 21 = y := by unfold cix; omega
  rwa [e1, e2, e3] at this⟩
theorem right_false {l : List Dy} {q : Int} {f : Nat → Int} {i x y : Nat} (hi : i < l.length) (hx : x < 21) (hy : y < 21) (h : ¬ RightP l q f i x y) : rightI l q f l.length = false := by
  cases hr : rightI l q f l.length with
  | false => rfl
  | true => exact absurd (((rightI_iff l q f l.length).1 hr).2 i x y hi hx hy) h
theorem right_zero {l : List Dy} {q : Int} {f : Nat → Int} (h : ¬ f 0 = 0) : rightI l q f l.length = false := by
  cases hr : rightI l q f l.length with
  | false => rfl
  | true => exact absurd ((rightI_iff l q f l.length).1 hr).1 h
/-- Sums of a spot and a dye. -/
theorem sp_add {d : Dy} (hd : OkD d) {x y : Nat} (hx : x < 21) (hy : y < 21) : wr .i64 ((x : Int) + d.a) = ((x + d.a.toNat : Nat) : Int) ∧ wr .i64 ((y : Int) + d.b) = ((y + d.b.toNat : Nat) : Int) := by
  have d1 := hd.a0
  have d2 := hd.a6
  have d3 := hd.b0
  have d4 := hd.b6
  exact ⟨by rw [wr_in (by omega)]; omega, by rw [wr_in (by omega)]; omega⟩
theorem wr_cost {a : Int} {d : Dy} (hd : OkD d) (h : 0 ≤ a ∧ a ≤ MX) : wr .i64 (a + d.p) = a + d.p := by
  have d5 := hd.p0
  have d6 := hd.p6
  exact wr_in (by unfold MX at h; omega)
theorem small_le {n : Nat} : ((n : Int) ≤ 20) = (n < 21) := by simp; omega
set_option maxHeartbeats 8000000 in
theorem checktable31 (l : List Dy) (w : Wn) (t : List Int) : Pure Try.prog 31 [dys l, wnV w, ints t] (.tup [I (ctabN l w t), I (ctabE l w t)]) := by
  refine pure_wkE (bad := []) (kp := kp31) (X := tx) (nt := 129) (rs := [.tmp 6, .tmp 7]) Try.func31 rfl rfl rfl rfl mo (by kernel_rfl) rfl rfl (fun hf => ?_)
  have hw := wanted26 l w
  unfold wnV wnC at hw
  simp (maxSteps := 2000000) only [go_sem, reduceIte, Nat.reduceEqDiff, Nat.reduceAdd, lk31, wnV, wnC]
  refine aops_pure' (hw) rfl rfl (by first | exact wk_refls _ | (repeat constructor)) ?_
  by_cases h0 : okWn l w = 0
  case neg =>
    have e : ctabE l w t = okWn l w := by unfold ctabE; rw [if_neg h0]
    have e2 : ctabN l w t = 0 := by unfold ctabN; rw [e, if_neg h0]
    simp (maxSteps := 2000000) only [go_sem, reduceIte, Nat.reduceEqDiff, Nat.reduceAdd, lk31, h0]
    refine aops_pure' (hw) rfl rfl (by first | exact wk_refls _ | (repeat constructor)) ?_
    simp (maxSteps := 2000000) only [go_sem, reduceIte, Nat.reduceEqDiff, lk31, h0, e, e2]
    all_goals first | exact .refl _ | exact ⟨.refl _, .refl _⟩ | exact ⟨.refl _, .refl _, .refl _⟩ | exact ⟨.refl _, _, rfl⟩ | exact ⟨_, rfl⟩ | exact ⟨.refl _, [], by simp⟩ | exact ⟨[], by simp⟩
  obtain ⟨hl, hv⟩ := (okWn_iff l w).1 h0
  have h8 := hl.n8
  have z1 : wr .i64 ((l.length : Int) + 1) = ((l.length + 1 : Nat) : Int) := by rw [wr_in (by omega)]; omega
  have hi0 := index60 (l.length + 1) 0 0 (by omega) (by omega) (by omega)
  rw [show cix (l.length + 1) 0 0 = (l.length + 1) * 441 by unfold cix; omega] at hi0
  simp (maxSteps := 2000000) only [go_sem, reduceIte, Nat.reduceEqDiff, Nat.reduceAdd, lk31, h0, dys, ints, z1]
  simp (maxSteps := 2000000) only [go_sem, lk31] at hi0
  refine aops_pure' (hi0) rfl rfl (by first | exact wk_refls _ | (repeat constructor)) ?_
  by_cases hln : t.length = (l.length + 1) * 441
  case neg =>
    have e : ctabE l w t = 15 := by unfold ctabE; rw [if_pos h0, if_neg hln]
    have e2 : ctabN l w t = 0 := by unfold ctabN; rw [e]; rfl
    have hln' : ¬ (t.length : Int) = (((l.length + 1) * 441 : Nat) : Int) := by omega
    simp (maxSteps := 2000000) only [go_sem, reduceIte, Nat.reduceEqDiff, Nat.reduceAdd, lk31, hln', e, e2]
    all_goals first | exact .refl _ | exact ⟨.refl _, .refl _⟩ | exact ⟨.refl _, .refl _, .refl _⟩ | exact ⟨.refl _, _, rfl⟩ | exact ⟨_, rfl⟩ | exact ⟨.refl _, [], by simp⟩ | exact ⟨[], by simp⟩
  have hln' : (t.length : Int) = (((l.length + 1) * 441 : Nat) : Int) := by omega
  have hE1 : ctabE l w t = if mnI t (t.length - 1) < 0 ∨ MX < mxI t (t.length - 1) then 3 else if rightI l w.f (gI t) l.length then 0 else 14 := by unfold ctabE; rw [if_pos h0, if_pos hln]
  have hmn := mn_iff (t := t) (by omega)
  have hN0 : ctabE l w t ≠ 0 → ctabN l w t = 0 := fun h => by unfold ctabN; rw [if_neg h]
  have kt : t.length ≤ 1000000000 := by omega
  simp (maxSteps := 2000000) only [go_sem, reduceIte, Nat.reduceEqDiff, Nat.reduceAdd, lk31, hln']
  refine goE_loop (bad := []) (kp := kp31) (fun k : Nat => { slots := [(0, dys l), (2, ints t), (4, .c (.ptr 0 0)), (8, I k)], heap := [.cells (wnC w)], marks := [] }) (fun k => k ≤ t.length ∧ ∀ j, j < k → ¬ (gI t j < 0 ∨ MX < gI t j)) (fun k => t.length - k) 0 mo (by kernel_rfl) ?_ ⟨Nat.zero_le _, fun j hj => by omega⟩ ?_
  · refine ent_weaken [] rfl rfl (Nat.zero_le _) rfl rfl ?_
    simp (maxSteps := 2000000) only [go_sem, reduceIte, Nat.reduceEqDiff, Nat.reduceLT, lk31, dys, ints, wnC]
    all_goals first | exact .refl _ | exact ⟨.refl _, .refl _⟩ | exact ⟨.refl _, .refl _, .refl _⟩ | exact ⟨.refl _, _, rfl⟩ | exact ⟨_, rfl⟩ | exact ⟨.refl _, [], by simp⟩ | exact ⟨[], by simp⟩
  rintro k ⟨hk, hall⟩
  simp (maxSteps := 2000000) only [go_sem, reduceIte, Nat.reduceEqDiff, Nat.reduceAdd, lk31, dys, ints, wnC]
  by_cases hlt : k < t.length
  · have hlt' : (k : Int) < t.length := by omega
    have g1 := gI_lt hlt
    by_cases c1 : gI t k < 0
    · have e : ctabE l w t = 3 := by rw [hE1, if_pos (hmn.2 ⟨k, hlt, .inl c1⟩)]
      have e2 := hN0 (by rw [e]; decide)
      simp (maxSteps := 2000000) only [go_sem, reduceIte, Nat.reduceEqDiff, Nat.reduceAdd, lk31, hlt', nn, g1, iD, c1, e, e2]
      all_goals first | exact .refl _ | exact ⟨.refl _, .refl _⟩ | exact ⟨.refl _, .refl _, .refl _⟩ | exact ⟨.refl _, _, rfl⟩ | exact ⟨_, rfl⟩ | exact ⟨.refl _, [], by simp⟩ | exact ⟨[], by simp⟩
    by_cases c2 : MX < gI t k
    · have e : ctabE l w t = 3 := by rw [hE1, if_pos (hmn.2 ⟨k, hlt, .inr c2⟩)]
      have e2 := hN0 (by rw [e]; decide)
      have c2' : (1099511627776 : Int) < gI t k := c2
      simp (maxSteps := 2000000) only [go_sem, reduceIte, Nat.reduceEqDiff, Nat.reduceAdd, lk31, hlt', nn, g1, iD, c1, c2', e, e2]
      all_goals first | exact .refl _ | exact ⟨.refl _, .refl _⟩ | exact ⟨.refl _, .refl _, .refl _⟩ | exact ⟨.refl _, _, rfl⟩ | exact ⟨_, rfl⟩ | exact ⟨.refl _, [], by simp⟩ | exact ⟨[], by simp⟩
    have c2' : ¬ (1099511627776 : Int) < gI t k := c2
    have m1 : t.length - (k + 1) < t.length - k := by omega
    have hall2 : ∀ j, j < k + 1 → ¬ (gI t j < 0 ∨ MX < gI t j) := fun j hj => by
      by_cases e : j = k
      · subst e; exact fun h => h.elim c1 c2
      · exact hall j (by omega)
    have w7 : wr .i64 ((k : Int) + 1) = ((k + 1 : Nat) : Int) := wr_succ hlt (Nat.le_trans kt (by decide))
    simp (maxSteps := 2000000) only [go_sem, reduceIte, Nat.reduceEqDiff, Nat.reduceAdd, lk31, hlt', nn, g1, iD, c1, c2', w7]
    refine ⟨k + 1, ⟨hlt, hall2⟩, m1, ?_⟩
    refine ent_weaken [] rfl rfl (Nat.zero_le _) rfl rfl ?_
    simp (maxSteps := 2000000) only [go_sem, reduceIte, Nat.reduceEqDiff, Nat.reduceLT, lk31, dys, ints, wnC]
    all_goals first | exact .refl _ | exact ⟨.refl _, .refl _⟩ | exact ⟨.refl _, .refl _, .refl _⟩ | exact ⟨.refl _, _, rfl⟩ | exact ⟨_, rfl⟩ | exact ⟨.refl _, [], by simp⟩ | exact ⟨[], by simp⟩
  have hlt' : ¬ (k : Int) < t.length := by omega
  have hok : ¬ (mnI t (t.length - 1) < 0 ∨ MX < mxI t (t.length - 1)) := fun h => by
    obtain ⟨j, hj, h2⟩ := hmn.1 h
    exact hall j (by omega) h2
  have hE : ctabE l w t = if rightI l w.f (gI t) l.length then 0 else 14 := by rw [hE1, if_neg hok]
  have hBd := gI_bd hok
  have hpos : (0 : Int) < t.length := by omega
  have g0 := gI_lt (l := t) (b := 0) (by omega)
  clear hall hmn
  by_cases hz : gI t 0 = 0
  case neg =>
    have e : ctabE l w t = 14 := by rw [hE, right_zero hz]; rfl
    have e2 := hN0 (by rw [e]; decide)
    simp (maxSteps := 2000000) only [go_sem, reduceIte, Nat.reduceEqDiff, Nat.reduceAdd, Int.reduceLE, Int.reduceToNat, lk31, hlt', hpos, g0, iD, hz, e, e2]
    all_goals first | exact .refl _ | exact ⟨.refl _, .refl _⟩ | exact ⟨.refl _, .refl _, .refl _⟩ | exact ⟨.refl _, _, rfl⟩ | exact ⟨_, rfl⟩ | exact ⟨.refl _, [], by simp⟩ | exact ⟨[], by simp⟩
  have hbad : ∀ {i x y : Nat}, i < l.length → x < 21 → y < 21 → ¬ RightP l w.f (gI t) i x y → ctabE l w t = 14 ∧ ctabN l w t = 0 := fun hi hx hy h => by
    have e : ctabE l w t = 14 := by rw [hE, right_false hi hx hy h]; rfl
    exact ⟨e, hN0 (by rw [e]; decide)⟩
  have hbo := bound55 l w t hl hv hln
  unfold wnV wnC at hbo
  simp (maxSteps := 2000000) only [go_sem, reduceIte, Nat.reduceEqDiff, Nat.reduceAdd, Int.reduceLE, Int.reduceToNat, lk31, hlt', hpos, g0, iD, hz]
  refine goE_loop (bad := []) (kp := kp31) (fun i : Nat => { slots := [(0, dys l), (2, ints t), (4, .c (.ptr 0 0)), (9, I i)], heap := [.cells (wnC w)], marks := [] }) (fun i => i ≤ l.length ∧ doneP l w.f (gI t) (i * 441)) (fun i => l.length - i) 0 mo (by kernel_rfl) ?_ ⟨Nat.zero_le _, fun j hj => by omega⟩ ?_
  · refine ent_weaken [] rfl rfl (Nat.zero_le _) rfl rfl ?_
    simp (maxSteps := 2000000) only [go_sem, reduceIte, Nat.reduceEqDiff, Nat.reduceLT, lk31, dys, ints, wnC]
    all_goals first | exact .refl _ | exact ⟨.refl _, .refl _⟩ | exact ⟨.refl _, .refl _, .refl _⟩ | exact ⟨.refl _, _, rfl⟩ | exact ⟨_, rfl⟩ | exact ⟨.refl _, [], by simp⟩ | exact ⟨[], by simp⟩
  rintro i ⟨hi, hdone⟩
  simp (maxSteps := 2000000) only [go_sem, reduceIte, Nat.reduceEqDiff, Nat.reduceAdd, lk31, dys, ints, wnC]
  by_cases hil : i < l.length
  case neg =>
    have hil' : ¬ (i : Int) < l.length := by omega
    have ei : i = l.length := by omega
    subst ei
    have e : ctabE l w t = 0 := by rw [hE, doneP_all hdone hz]; rfl
    have e2 : ctabN l w t = boundF l.length w (gI t) := by unfold ctabN; rw [e]; rfl
    simp (maxSteps := 2000000) only [go_sem, reduceIte, Nat.reduceEqDiff, Nat.reduceAdd, lk31, hil']
    refine aops_pure' (hbo) rfl rfl (by first | exact wk_refls _ | (repeat constructor)) ?_
    simp (maxSteps := 2000000) only [go_sem, reduceIte, Nat.reduceEqDiff, lk31, e, e2]
    all_goals first | exact .refl _ | exact ⟨.refl _, .refl _⟩ | exact ⟨.refl _, .refl _, .refl _⟩ | exact ⟨.refl _, _, rfl⟩ | exact ⟨_, rfl⟩ | exact ⟨.refl _, [], by simp⟩ | exact ⟨[], by simp⟩
  have hil' : (i : Int) < l.length := by omega
  have gd := gD_lt hil
  have hd : OkD (gD l i) := hl.g hil
  simp (maxSteps := 2000000) only [go_sem, reduceIte, Nat.reduceEqDiff, Nat.reduceAdd, lk31, hil', nn, gd, dyD]
  refine goE_loop (bad := []) (kp := kp31) (fun x : Nat => { slots := [(0, dys l), (2, ints t), (4, .c (.ptr 0 0)), (9, I i), (10, .c (.ptr 1 0)), (11, I x)], heap := [.cells (wnC w), .cells (dyC (gD l i))], marks := [] }) (fun x => x ≤ 21 ∧ doneP l w.f (gI t) (i * 441 + x * 21)) (fun x => 21 - x) 0 mo (by kernel_rfl) ?_ ⟨Nat.zero_le _, by simpa using hdone⟩ ?_
  · refine ent_weaken [] rfl rfl (Nat.zero_le _) rfl rfl ?_
    simp (maxSteps := 2000000) only [go_sem, reduceIte, Nat.reduceEqDiff, Nat.reduceAdd, Nat.reduceLT, lk31, dys, ints, wnC, dyC]
    all_goals first | exact .refl _ | exact ⟨.refl _, .refl _⟩ | exact ⟨.refl _, .refl _, .refl _⟩ | exact ⟨.refl _, _, rfl⟩ | exact ⟨_, rfl⟩ | exact ⟨.refl _, [], by simp⟩ | exact ⟨[], by simp⟩
  clear hdone
  rintro x ⟨hx, hdone⟩
  simp (maxSteps := 2000000) only [go_sem, reduceIte, Nat.reduceEqDiff, Nat.reduceAdd, lk31, dys, ints, wnC, dyC]
  by_cases hxl : x < 21
  case neg =>
    have hxl' : ¬ (x : Int) ≤ 20 := by omega
    have ex : i * 441 + x * 21 = (i + 1) * 441 := by omega
    rw [ex] at hdone
    have m1 : l.length - (i + 1) < l.length - i := by omega
    have w7 : wr .i64 ((i : Int) + 1) = ((i + 1 : Nat) : Int) := wr_succ hil (Nat.le_trans h8 (by decide))
    simp (maxSteps := 2000000) only [go_sem, reduceIte, Nat.reduceEqDiff, Nat.reduceAdd, lk31, hxl', w7]
    refine ⟨i + 1, ⟨hil, hdone⟩, m1, ?_⟩
    refine ent_weaken [.cells (dyC (gD l i))] rfl rfl (Nat.zero_le _) rfl rfl ?_
    simp (maxSteps := 2000000) only [go_sem, reduceIte, Nat.reduceEqDiff, Nat.reduceLT, lk31, dys, ints, wnC]
    all_goals first | exact .refl _ | exact ⟨.refl _, .refl _⟩ | exact ⟨.refl _, .refl _, .refl _⟩ | exact ⟨.refl _, _, rfl⟩ | exact ⟨_, rfl⟩ | exact ⟨.refl _, [], by simp⟩ | exact ⟨[], by simp⟩
  have hxl' : (x : Int) ≤ 20 := by omega
  simp (maxSteps := 2000000) only [go_sem, reduceIte, Nat.reduceEqDiff, Nat.reduceAdd, lk31, hxl']
  refine goE_loop (bad := []) (kp := kp31) (fun y : Nat => { slots := [(0, dys l), (2, ints t), (4, .c (.ptr 0 0)), (9, I i), (10, .c (.ptr 1 0)), (11, I x), (12, I y)], heap := [.cells (wnC w), .cells (dyC (gD l i))], marks := [] }) (fun y => y ≤ 21 ∧ doneP l w.f (gI t) (cix i x y)) (fun y => 21 - y) 0 mo (by kernel_rfl) ?_ ⟨Nat.zero_le _, by simpa [cix] using hdone⟩ ?_
  · refine ent_weaken [] rfl rfl (Nat.zero_le _) rfl rfl ?_
    simp (maxSteps := 2000000) only [go_sem, reduceIte, Nat.reduceEqDiff, Nat.reduceAdd, Nat.reduceLT, lk31, dys, ints, wnC, dyC]
    all_goals first | exact .refl _ | exact ⟨.refl _, .refl _⟩ | exact ⟨.refl _, .refl _, .refl _⟩ | exact ⟨.refl _, _, rfl⟩ | exact ⟨_, rfl⟩ | exact ⟨.refl _, [], by simp⟩ | exact ⟨[], by simp⟩
  clear hdone
  rintro y ⟨hy, hdone⟩
  simp (maxSteps := 2000000) only [go_sem, reduceIte, Nat.reduceEqDiff, Nat.reduceAdd, lk31, dys, ints, wnC, dyC]
  by_cases hyl : y < 21
  case neg =>
    have hyl' : ¬ (y : Int) ≤ 20 := by omega
    have ey : cix i x y = i * 441 + (x + 1) * 21 := by unfold cix; omega
    rw [ey] at hdone
    have m1 : 21 - (x + 1) < 21 - x := by omega
    have w7 : wr .i64 ((x : Int) + 1) = ((x + 1 : Nat) : Int) := wr_succ hxl (by decide)
    simp (maxSteps := 2000000) only [go_sem, reduceIte, Nat.reduceEqDiff, Nat.reduceAdd, lk31, hyl', w7]
    refine ⟨x + 1, ⟨hxl, hdone⟩, m1, ?_⟩
    refine ent_weaken [] rfl rfl (Nat.zero_le _) rfl rfl ?_
    simp (maxSteps := 2000000) only [go_sem, reduceIte, Nat.reduceEqDiff, Nat.reduceAdd, Nat.reduceLT, lk31, dys, ints, wnC, dyC]
    all_goals first | exact .refl _ | exact ⟨.refl _, .refl _⟩ | exact ⟨.refl _, .refl _, .refl _⟩ | exact ⟨.refl _, _, rfl⟩ | exact ⟨_, rfl⟩ | exact ⟨.refl _, [], by simp⟩ | exact ⟨[], by simp⟩
  have hyl' : (y : Int) ≤ 20 := by omega
  have i100 : i + 1 < 100 := by omega
  have hP1 := fun h : RightP l w.f (gI t) i x y => doneP_succ hdone hxl hyl h
  have hP0 := fun h : ¬ RightP l w.f (gI t) i x y => hbad hil hxl hyl h
  have hPd : RightP l w.f (gI t) i x y = (gI t (cix (i + 1) x y) ≤ gI t (cix i x y) ∧ (w.f ≤ (gD l i).f ∧ x + (gD l i).a.toNat < 21 ∧ y + (gD l i).b.toNat < 21 → gI t (cix (i + 1) (x + (gD l i).a.toNat) (y + (gD l i).b.toNat)) ≤ gI t (cix (i + 1) x y) + (gD l i).p)) := rfl
  have m1 : 21 - (y + 1) < 21 - y := by omega
  have kk1 : cix (i + 1) x y < t.length := by rw [hln]; unfold cix; omega
  have kk0 : cix i x y < t.length := by rw [hln]; unfold cix; omega
  have kk1' : ((cix (i + 1) x y : Nat) : Int) < t.length := by omega
  have kk0' : ((cix i x y : Nat) : Int) < t.length := by omega
  have gk1 := gI_lt kk1
  have gk0 := gI_lt kk0
  have x1 := index60 (i + 1) x y i100 (by omega) (by omega)
  have x0 := index60 i x y (by omega) (by omega) (by omega)
  have hxy : ∀ {xa yb : Nat}, xa < 21 → yb < 21 → cix (i + 1) xa yb < t.length := fun h1 h2 => by rw [hln]; unfold cix; omega
  have b1 := hBd (cix (i + 1) x y)
  have w8 := wr_cost hd b1
  obtain ⟨w1, w2⟩ := sp_add hd hxl hyl
  have w6 : wr .i64 ((i : Int) + 1) = ((i + 1 : Nat) : Int) := wr_succ hil (Nat.le_trans h8 (by decide))
  have w7 : wr .i64 ((y : Int) + 1) = ((y + 1 : Nat) : Int) := wr_succ hyl (by decide)
  generalize x + (gD l i).a.toNat = xa at *
  generalize y + (gD l i).b.toNat = yb at *
  have x2 := fun (h1 : xa < 21) (h2 : yb < 21) => index60 (i + 1) xa yb i100 (Nat.lt_trans h1 (by decide)) (Nat.lt_trans h2 (by decide))
  simp (maxSteps := 2000000) only [go_sem, reduceIte, Nat.reduceEqDiff, Nat.reduceAdd, lk31, hyl', w6]
  refine aops_pure' (x1) rfl rfl (by first | exact wk_refls _ | (repeat constructor)) ?_
  simp (maxSteps := 2000000) only [go_sem, reduceIte, Nat.reduceEqDiff, lk31, kk1', nn, gk1, iD, Int.toNat_natCast]
  refine aops_pure' (x0) rfl rfl (by first | exact wk_refls _ | (repeat constructor)) ?_
  by_cases c1 : gI t (cix (i + 1) x y) ≤ gI t (cix i x y)
  case neg =>
    have c1' : gI t (cix i x y) < gI t (cix (i + 1) x y) := Int.not_le.1 c1
    obtain ⟨e, e2⟩ := hP0 (by rw [hPd]; exact fun h => c1 h.1)
    simp (maxSteps := 2000000) only [go_sem, reduceIte, Nat.reduceEqDiff, Nat.reduceAdd, lk31, kk0', nn, gk0, iD, Int.toNat_natCast, c1', e, e2]
    all_goals first | exact .refl _ | exact ⟨.refl _, .refl _⟩ | exact ⟨.refl _, .refl _, .refl _⟩ | exact ⟨.refl _, _, rfl⟩ | exact ⟨_, rfl⟩ | exact ⟨.refl _, [], by simp⟩ | exact ⟨[], by simp⟩
  have c1' : ¬ gI t (cix i x y) < gI t (cix (i + 1) x y) := Int.not_lt.2 c1
  simp (maxSteps := 2000000) only [go_sem, reduceIte, Nat.reduceEqDiff, Nat.reduceAdd, Nat.reduceLeDiff, Nat.reduceBEq, Nat.reduceMul, Int.reduceLT, Int.reduceLE, Int.reduceToNat, lk31, kk0', nn, gk0, iD, Int.toNat_natCast, c1', w1, w2]
  by_cases f1 : w.f ≤ (gD l i).f
  case neg =>
    have hr : RightP l w.f (gI t) i x y := by rw [hPd]; exact ⟨c1, fun h => absurd h.1 f1⟩
    simp (maxSteps := 2000000) only [go_sem, reduceIte, Nat.reduceEqDiff, Nat.reduceAdd, lk31, f1, w7]
    refine ⟨y + 1, ⟨hyl, hP1 hr⟩, m1, ?_⟩
    refine ent_weaken [] rfl rfl (Nat.zero_le _) rfl rfl ?_
    simp (maxSteps := 2000000) only [go_sem, reduceIte, Nat.reduceEqDiff, Nat.reduceAdd, Nat.reduceLT, lk31, dys, ints, wnC, dyC]
    all_goals first | exact .refl _ | exact ⟨.refl _, .refl _⟩ | exact ⟨.refl _, .refl _, .refl _⟩ | exact ⟨.refl _, _, rfl⟩ | exact ⟨_, rfl⟩ | exact ⟨.refl _, [], by simp⟩ | exact ⟨[], by simp⟩
  by_cases f2 : xa < 21
  case neg =>
    have f2' : ¬ (xa : Int) ≤ 20 := by rw [small_le]; exact f2
    have hr : RightP l w.f (gI t) i x y := by rw [hPd]; exact ⟨c1, fun h => absurd h.2.1 f2⟩
    simp (maxSteps := 2000000) only [go_sem, reduceIte, Nat.reduceEqDiff, Nat.reduceAdd, lk31, f1, f2', w7]
    refine ⟨y + 1, ⟨hyl, hP1 hr⟩, m1, ?_⟩
    refine ent_weaken [] rfl rfl (Nat.zero_le _) rfl rfl ?_
    simp (maxSteps := 2000000) only [go_sem, reduceIte, Nat.reduceEqDiff, Nat.reduceAdd, Nat.reduceLT, lk31, dys, ints, wnC, dyC]
    all_goals first | exact .refl _ | exact ⟨.refl _, .refl _⟩ | exact ⟨.refl _, .refl _, .refl _⟩ | exact ⟨.refl _, _, rfl⟩ | exact ⟨_, rfl⟩ | exact ⟨.refl _, [], by simp⟩ | exact ⟨[], by simp⟩
  have f2' : (xa : Int) ≤ 20 := by rw [small_le]; exact f2
  by_cases f3 : yb < 21
  case neg =>
    have f3' : ¬ (yb : Int) ≤ 20 := by rw [small_le]; exact f3
    have hr : RightP l w.f (gI t) i x y := by rw [hPd]; exact ⟨c1, fun h => absurd h.2.2 f3⟩
    simp (maxSteps := 2000000) only [go_sem, reduceIte, Nat.reduceEqDiff, Nat.reduceAdd, lk31, f1, f2', f3', w7]
    refine ⟨y + 1, ⟨hyl, hP1 hr⟩, m1, ?_⟩
    refine ent_weaken [] rfl rfl (Nat.zero_le _) rfl rfl ?_
    simp (maxSteps := 2000000) only [go_sem, reduceIte, Nat.reduceEqDiff, Nat.reduceAdd, Nat.reduceLT, lk31, dys, ints, wnC, dyC]
    all_goals first | exact .refl _ | exact ⟨.refl _, .refl _⟩ | exact ⟨.refl _, .refl _, .refl _⟩ | exact ⟨.refl _, _, rfl⟩ | exact ⟨_, rfl⟩ | exact ⟨.refl _, [], by simp⟩ | exact ⟨[], by simp⟩
  have f3' : (yb : Int) ≤ 20 := by rw [small_le]; exact f3
  have kk2 := hxy f2 f3
  have kk2' : ((cix (i + 1) xa yb : Nat) : Int) < t.length := Int.ofNat_lt.2 kk2
  have gk2 := gI_lt kk2
  simp (maxSteps := 2000000) only [go_sem, reduceIte, Nat.reduceEqDiff, Nat.reduceAdd, lk31, f1, f2', f3', w6]
  refine dops_pure' (x2 f2 f3) rfl rfl (by first | exact wk_refls _ | (repeat constructor)) (by kernel_rfl) ?_
  by_cases f4 : gI t (cix (i + 1) xa yb) ≤ gI t (cix (i + 1) x y) + (gD l i).p
  case neg =>
    have f4' : gI t (cix (i + 1) x y) + (gD l i).p < gI t (cix (i + 1) xa yb) := Int.not_le.1 f4
    obtain ⟨e, e2⟩ := hP0 (by rw [hPd]; exact fun h => f4 (h.2 ⟨f1, f2, f3⟩))
    simp (maxSteps := 2000000) only [go_sem, reduceIte, Nat.reduceEqDiff, Nat.reduceAdd, Nat.reduceLeDiff, Nat.reduceBEq, lk31, kk2', nn, gk2, iD, Int.toNat_natCast, w8, f4', e, e2]
    all_goals first | exact .refl _ | exact ⟨.refl _, .refl _⟩ | exact ⟨.refl _, .refl _, .refl _⟩ | exact ⟨.refl _, _, rfl⟩ | exact ⟨_, rfl⟩ | exact ⟨.refl _, [], by simp⟩ | exact ⟨[], by simp⟩
  have f4' : ¬ gI t (cix (i + 1) x y) + (gD l i).p < gI t (cix (i + 1) xa yb) := Int.not_lt.2 f4
  have hr : RightP l w.f (gI t) i x y := by rw [hPd]; exact ⟨c1, fun _ => f4⟩
  simp (maxSteps := 2000000) only [go_sem, reduceIte, Nat.reduceEqDiff, Nat.reduceAdd, Nat.reduceLeDiff, Nat.reduceBEq, lk31, kk2', nn, gk2, iD, Int.toNat_natCast, w8, f4', w7]
  refine ⟨y + 1, ⟨hyl, hP1 hr⟩, m1, ?_⟩
  refine ent_weaken [] rfl rfl (Nat.zero_le _) rfl rfl ?_
  simp (maxSteps := 2000000) only [go_sem, reduceIte, Nat.reduceEqDiff, Nat.reduceAdd, Nat.reduceLT, lk31, dys, ints, wnC, dyC]
  all_goals first | exact .refl _ | exact ⟨.refl _, .refl _⟩ | exact ⟨.refl _, .refl _, .refl _⟩ | exact ⟨.refl _, _, rfl⟩ | exact ⟨_, rfl⟩ | exact ⟨.refl _, [], by simp⟩ | exact ⟨[], by simp⟩
end Go.Proofs.Ytkbnmanfoejoiaa
