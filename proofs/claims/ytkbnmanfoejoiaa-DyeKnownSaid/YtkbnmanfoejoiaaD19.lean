/- Dyes: Least, Table, Widened, Grades, Wider of the reference. -/
import Derived.Test.YtkbnmanfoejoiaaNH
set_option linter.unusedSimpArgs false
set_option linter.unusedVariables false
set_option maxRecDepth 100000
namespace Go.Proofs.Ytkbnmanfoejoiaa
open Go Go.Abs Go.Proofs
def kp23 : List (Nat × List Nat) := [(0, [0, 3]), (1, [0, 3, 12]), (2, [4, 5]), (3, [0, 3, 6]), (4, [0, 3, 6, 17]), (5, [0, 3, 6]), (6, [0, 3, 6, 8]), (7, [0, 3, 6, 28]), (8, [4, 5]), (9, [4, 5])]
theorem lk23 : lookK kp23 0 = some [0, 3] ∧ lookK kp23 1 = some [0, 3, 12] ∧ lookK kp23 2 = some [4, 5] ∧ lookK kp23 3 = some [0, 3, 6] ∧ lookK kp23 4 = some [0, 3, 6, 17] ∧ lookK kp23 5 = some [0, 3, 6] ∧ lookK kp23 6 = some [0, 3, 6, 8] ∧ lookK kp23 7 = some [0, 3, 6, 28] ∧ lookK kp23 8 = some [4, 5] ∧ lookK kp23 9 = some [4, 5] := ⟨rfl, rfl, rfl, rfl, rfl, rfl, rfl, rfl, rfl, rfl⟩
def kp25 : List (Nat × List Nat) := [(0, [0, 3]), (1, [0, 3, 14]), (2, [4, 5]), (3, [0, 3, 6]), (4, [0, 3, 6, 7]), (5, [0, 3, 6, 7, 19]), (6, [0, 3, 6, 7]), (7, [0, 3, 6, 7, 8]), (8, [0, 3, 6, 7, 8]), (9, [0, 3, 6, 7, 9, 10]), (10, [0, 3, 6, 7, 9, 32]), (11, [0, 3, 6, 7, 9]), (12, [0, 3, 6, 7]), (13, [4, 5])]
theorem lk25 : lookK kp25 0 = some [0, 3] ∧ lookK kp25 1 = some [0, 3, 14] ∧ lookK kp25 2 = some [4, 5] ∧ lookK kp25 3 = some [0, 3, 6] ∧ lookK kp25 4 = some [0, 3, 6, 7] ∧ lookK kp25 5 = some [0, 3, 6, 7, 19] ∧ lookK kp25 6 = some [0, 3, 6, 7] ∧ lookK kp25 7 = some [0, 3, 6, 7, 8] ∧ lookK kp25 8 = some [0, 3, 6, 7, 8] ∧ lookK kp25 9 = some [0, 3, 6, 7, 9, 10] ∧ lookK kp25 10 = some [0, 3, 6, 7, 9, 32] ∧ lookK kp25 11 = some [0, 3, 6, 7, 9] ∧ lookK kp25 12 = some [0, 3, 6, 7] ∧ lookK kp25 13 = some [4, 5] := ⟨rfl, rfl, rfl, rfl, rfl, rfl, rfl, rfl, rfl, rfl, rfl, rfl, rfl, rfl⟩
def kp27 : List (Nat × List Nat) := [(0, [0, 3]), (1, [6]), (2, [4, 5])]
theorem lk27 : lookK kp27 0 = some [0, 3] ∧ lookK kp27 1 = some [6] ∧ lookK kp27 2 = some [4, 5] := ⟨rfl, rfl, rfl⟩
def kp29 : List (Nat × List Nat) := [(0, [0, 1]), (1, [0, 1, 8]), (2, [4, 5]), (3, [0, 1, 16]), (4, [4, 5]), (5, [4, 5])]
theorem lk29 : lookK kp29 0 = some [0, 1] ∧ lookK kp29 1 = some [0, 1, 8] ∧ lookK kp29 2 = some [4, 5] ∧ lookK kp29 3 = some [0, 1, 16] ∧ lookK kp29 4 = some [4, 5] ∧ lookK kp29 5 = some [4, 5] := ⟨rfl, rfl, rfl, rfl, rfl, rfl⟩
def kp34 : List (Nat × List Nat) := [(0, [1, 2, 4]), (1, [1, 2, 4, 5]), (2, [1, 2, 4, 5, 7]), (3, [1, 2, 4, 5]), (4, [1, 2, 4, 5]), (5, [4])]
theorem lk34 : lookK kp34 0 = some [1, 2, 4] ∧ lookK kp34 1 = some [1, 2, 4, 5] ∧ lookK kp34 2 = some [1, 2, 4, 5, 7] ∧ lookK kp34 3 = some [1, 2, 4, 5] ∧ lookK kp34 4 = some [1, 2, 4, 5] ∧ lookK kp34 5 = some [4] := ⟨rfl, rfl, rfl, rfl, rfl, rfl⟩

theorem boundF_congr {v : Wn} (hv : OkW v) {t u : Nat → Int} {n : Nat} (h : ∀ x y, x < 21 → y < 21 → t (cix n x y) = u (cix n x y)) : boundF n v t = boundF n v u := by
  obtain ⟨a1, a2, a3⟩ := bound_spec hv t n
  obtain ⟨b1, b2, b3⟩ := bound_spec hv u n
  have hab : boundF n v t ≤ boundF n v u := by
    rcases b1 with b1 | ⟨p, hp, b1⟩
    · omega
    · have := a3 p hp
      have hl := inS_lt hv hp
      rw [h _ _ hl.1 hl.2] at this
      omega
  have hba : boundF n v u ≤ boundF n v t := by
    rcases a1 with a1 | ⟨p, hp, a1⟩
    · omega
    · have := b3 p hp
      have hl := inS_lt hv hp
      rw [← h _ _ hl.1 hl.2] at this
      omega
  omega
theorem costB_bound {l : List Dy} {w : Wn} (hl : OkL l) (hw : OkW w) : boundF l.length w (gI (costsL l w.f)) = costB l w := by
  unfold costB
  rw [best_bound hw (fill_bd hl w.f)]
  exact boundF_congr hw fun x y hx hy => costsL_get hl w.f (by unfold cix; omega)
set_option maxHeartbeats 2000000 in
theorem least27 (l : List Dy) (w : Wn) (hl : OkL l) (hw : OkW w) : Pure Try.prog 27 [dys l, wnV w] (.tup [I (costB l w), B (decide (costB l w < MX))]) := by
  refine pure_wkE (bad := []) (kp := kp27) (X := tx) (nt := 17) (rs := [.tmp 4, .tmp 5]) Try.func27 rfl rfl rfl rfl mo (by kernel_rfl) rfl rfl (fun hf => ?_)
  have hb := bound55 l w (costsL l w.f) hl hw (costsL_len l w.f)
  rw [costB_bound hl hw] at hb
  unfold wnV wnC at hb
  simp (maxSteps := 2000000) only [go_sem, reduceIte, Nat.reduceEqDiff, Nat.reduceAdd, Nat.reduceBEq, lk23, lk25, lk27, lk29, lk34, wnV, wnC]
  refine dops_pure' (costs56 l w.f hl) rfl rfl (by first | exact wk_refls _ | (repeat constructor)) (by kernel_rfl) ?_
  simp (maxSteps := 2000000) only [go_sem, reduceIte, Nat.reduceEqDiff, Nat.reduceAdd, lk23, lk25, lk27, lk29, lk34]
  refine dops_pure' (hb) rfl rfl (by first | exact wk_refls _ | (repeat constructor)) (by kernel_rfl) ?_
  simp (maxSteps := 2000000) only [go_sem, reduceIte, Nat.reduceEqDiff, Nat.reduceAdd, lk23, lk25, lk27, lk29, lk34]
  all_goals first | exact .refl _ | exact ⟨.refl _, .refl _⟩ | exact ⟨.refl _, .refl _, .refl _⟩ | exact ⟨.refl _, _, rfl⟩ | exact ⟨_, rfl⟩ | exact ⟨.refl _, [], by simp⟩ | exact ⟨[], by simp⟩
def tabE (l : List Dy) (q : Int) : Int := if okShelf l = 0 then (if fastB q then 0 else 2) else okShelf l
def tabL (l : List Dy) (q : Int) : List Int := if tabE l q = 0 then costsL l q else []
set_option maxHeartbeats 2000000 in
theorem table29 (l : List Dy) (q : Int) : Pure Try.prog 29 [dys l, I q] (.tup [ints (tabL l q), I (tabE l q)]) := by
  refine pure_wkE (bad := []) (kp := kp29) (X := tx) (nt := 20) (rs := [.tmp 4, .tmp 5]) Try.func29 rfl rfl rfl rfl mo (by kernel_rfl) rfl rfl (fun hf => ?_)
  simp (maxSteps := 2000000) only [go_sem, reduceIte, Nat.reduceEqDiff, Nat.reduceAdd, lk23, lk25, lk27, lk29, lk34]
  refine aops_pure' (shelf19 l) rfl rfl (by first | exact wk_refls _ | (repeat constructor)) ?_
  by_cases h0 : okShelf l = 0
  case neg =>
    have e : tabE l q = okShelf l := by unfold tabE; rw [if_neg h0]
    have e2 : tabL l q = [] := by unfold tabL; rw [e, if_neg h0]
    simp (maxSteps := 2000000) only [go_sem, reduceIte, Nat.reduceEqDiff, Nat.reduceAdd, lk23, lk25, lk27, lk29, lk34, h0]
    refine aops_pure' (shelf19 l) rfl rfl (by first | exact wk_refls _ | (repeat constructor)) ?_
    simp (maxSteps := 2000000) only [go_sem, reduceIte, Nat.reduceEqDiff, lk23, lk25, lk27, lk29, lk34, h0, e, e2, ints]
    all_goals first | exact .refl _ | exact ⟨.refl _, .refl _⟩ | exact ⟨.refl _, .refl _, .refl _⟩ | exact ⟨.refl _, _, rfl⟩ | exact ⟨_, rfl⟩ | exact ⟨.refl _, [], by simp⟩ | exact ⟨[], by simp⟩
  have hl := (okShelf_iff l).1 h0
  by_cases c1 : q < 1
  · have e : tabE l q = 2 := by unfold tabE; rw [if_pos h0, if_neg (by simp [fastB]; omega)]
    have e2 : tabL l q = [] := by unfold tabL; rw [e]; rfl
    simp (maxSteps := 2000000) only [go_sem, reduceIte, Nat.reduceEqDiff, Nat.reduceAdd, lk23, lk25, lk27, lk29, lk34, h0, c1, e, e2, ints]
    all_goals first | exact .refl _ | exact ⟨.refl _, .refl _⟩ | exact ⟨.refl _, .refl _, .refl _⟩ | exact ⟨.refl _, _, rfl⟩ | exact ⟨_, rfl⟩ | exact ⟨.refl _, [], by simp⟩ | exact ⟨[], by simp⟩
  by_cases c2 : 8 < q
  · have e : tabE l q = 2 := by unfold tabE; rw [if_pos h0, if_neg (by simp [fastB]; omega)]
    have e2 : tabL l q = [] := by unfold tabL; rw [e]; rfl
    simp (maxSteps := 2000000) only [go_sem, reduceIte, Nat.reduceEqDiff, Nat.reduceAdd, lk23, lk25, lk27, lk29, lk34, h0, c1, c2, e, e2, ints]
    all_goals first | exact .refl _ | exact ⟨.refl _, .refl _⟩ | exact ⟨.refl _, .refl _, .refl _⟩ | exact ⟨.refl _, _, rfl⟩ | exact ⟨_, rfl⟩ | exact ⟨.refl _, [], by simp⟩ | exact ⟨[], by simp⟩
  have e : tabE l q = 0 := by unfold tabE; rw [if_pos h0, if_pos (by simp [fastB]; omega)]
  have e2 : tabL l q = costsL l q := by unfold tabL; rw [e]; rfl
  simp (maxSteps := 2000000) only [go_sem, reduceIte, Nat.reduceEqDiff, Nat.reduceAdd, lk23, lk25, lk27, lk29, lk34, h0, c1, c2]
  refine aops_pure' (costs56 l q hl) rfl rfl (by first | exact wk_refls _ | (repeat constructor)) ?_
  simp (maxSteps := 2000000) only [go_sem, reduceIte, Nat.reduceEqDiff, lk23, lk25, lk27, lk29, lk34, e, e2]
  all_goals first | exact .refl _ | exact ⟨.refl _, .refl _⟩ | exact ⟨.refl _, .refl _, .refl _⟩ | exact ⟨.refl _, _, rfl⟩ | exact ⟨_, rfl⟩ | exact ⟨.refl _, [], by simp⟩ | exact ⟨[], by simp⟩
def widenW (w : Wn) (b : Int) : Wn := ⟨⟨max 0 (w.x.lo - b), min 20 (w.x.hi + b)⟩, ⟨max 0 (w.y.lo - b), min 20 (w.y.hi + b)⟩, w.f⟩
theorem widen_ok {w : Wn} {b : Int} (hw : OkW w) (hb : 0 ≤ b) : OkW (widenW w b) := by
  have h1 := hw.x0
  have h2 := hw.x1
  have h3 := hw.x2
  have h4 := hw.y0
  have h5 := hw.y1
  have h6 := hw.y2
  refine ⟨?_, ?_, ?_, ?_, ?_, ?_, hw.f1, hw.f8⟩ <;> simp only [widenW] <;> omega
theorem maxL1 (a b : Int) : maxL a [b] = max a b := by simp [maxL]
theorem minL1 (a b : Int) : minL a [b] = min a b := by simp [minL]
set_option maxHeartbeats 4000000 in
theorem widened34 (w : Wn) (b : Int) (hw : OkW w) (hb : 0 ≤ b) (hb2 : b ≤ 20) : Pure Try.prog 34 [wnV w, I b] (wnV (widenW w b)) := by
  refine pure_wkE (bad := [4]) (kp := kp34) (X := tx) (nt := 31) (rs := [.cell 4 27]) Try.func34 rfl rfl rfl rfl mo (by kernel_rfl) rfl rfl (fun hf => ?_)
  have h1 := hw.x0
  have h2 := hw.x1
  have h3 := hw.x2
  have h4 := hw.y0
  have h5 := hw.y1
  have h6 := hw.y2
  have w1 : wr .i64 (w.x.lo - b) = w.x.lo - b := wr_in (by omega)
  have w2 : wr .i64 (w.x.hi + b) = w.x.hi + b := wr_in (by omega)
  have w3 : wr .i64 (w.y.lo - b) = w.y.lo - b := wr_in (by omega)
  have w4 : wr .i64 (w.y.hi + b) = w.y.hi + b := wr_in (by omega)
  simp (maxSteps := 2000000) only [go_sem, reduceIte, Nat.reduceEqDiff, Nat.reduceAdd, Nat.reduceBEq, lk23, lk25, lk27, lk29, lk34, wnV, wnC]
  refine goE_loop (bad := [4]) (kp := kp34) (fun k : Nat => { slots := [(1, I b), (2, .c (.ptr 0 0)), (4, .c (.ptr 1 0)), (5, I k)], heap := [.cells (wnC (if k = 0 then w else if k = 1 then ⟨(widenW w b).x, w.y, w.f⟩ else widenW w b)), .cells (wnC ⟨⟨0, 0⟩, ⟨0, 0⟩, 0⟩)], marks := [] }) (fun k => k ≤ 2) (fun k => 2 - k) 0 mo (by kernel_rfl) ?_ (Nat.zero_le _) ?_
  · refine ent_weaken [] rfl rfl (Nat.zero_le _) rfl rfl ?_
    simp (maxSteps := 2000000) only [go_sem, reduceIte, Nat.reduceEqDiff, Nat.reduceAdd, Nat.reduceLT, lk23, lk25, lk27, lk29, lk34, wnC]
    all_goals first | exact .refl _ | exact ⟨.refl _, .refl _⟩ | exact ⟨.refl _, .refl _, .refl _⟩ | exact ⟨.refl _, _, rfl⟩ | exact ⟨_, rfl⟩ | exact ⟨.refl _, [], by simp⟩ | exact ⟨[], by simp⟩
  rintro k hk
  have hk3 : k = 0 ∨ k = 1 ∨ k = 2 := by omega
  rcases hk3 with rfl | rfl | rfl
  · have w0 : wr .i64 ((0 : Int) + 1) = 1 := by decide
    simp (maxSteps := 2000000) only [go_sem, reduceIte, Nat.reduceEqDiff, Nat.reduceAdd, Nat.reduceLT, Nat.reduceLeDiff, Nat.reduceBEq, Nat.reduceMul, Nat.reduceSub, Int.reduceLT, Int.reduceLE, Int.reduceToNat, lk23, lk25, lk27, lk29, lk34, wnC, w1, w2, w0, maxL1, minL1]
    refine ⟨pairsOk_ord (by kernel_rfl), 1, by decide, by decide, ?_⟩
    refine ent_weaken [] rfl rfl (Nat.zero_le _) rfl rfl ?_
    simp (maxSteps := 2000000) only [go_sem, reduceIte, Nat.reduceEqDiff, Nat.reduceAdd, Nat.reduceLT, lk23, lk25, lk27, lk29, lk34, wnC]
    all_goals first | exact .refl _ | exact ⟨.refl _, .refl _⟩ | exact ⟨.refl _, .refl _, .refl _⟩ | exact ⟨.refl _, _, rfl⟩ | exact ⟨_, rfl⟩ | exact ⟨.refl _, [], by simp⟩ | exact ⟨[], by simp⟩
  · have w0 : wr .i64 ((1 : Int) + 1) = 2 := by decide
    simp (maxSteps := 2000000) only [go_sem, reduceIte, Nat.reduceEqDiff, Nat.reduceAdd, Nat.reduceLT, Nat.reduceLeDiff, Nat.reduceBEq, Nat.reduceMul, Nat.reduceSub, Int.reduceLT, Int.reduceLE, Int.reduceToNat, lk23, lk25, lk27, lk29, lk34, wnC, w3, w4, w0, maxL1, minL1]
    refine ⟨pairsOk_ord (by kernel_rfl), 2, by decide, by decide, ?_⟩
    refine ent_weaken [] rfl rfl (Nat.zero_le _) rfl rfl ?_
    simp (maxSteps := 2000000) only [go_sem, reduceIte, Nat.reduceEqDiff, Nat.reduceAdd, Nat.reduceLT, lk23, lk25, lk27, lk29, lk34, wnC]
    all_goals first | exact .refl _ | exact ⟨.refl _, .refl _⟩ | exact ⟨.refl _, .refl _, .refl _⟩ | exact ⟨.refl _, _, rfl⟩ | exact ⟨_, rfl⟩ | exact ⟨.refl _, [], by simp⟩ | exact ⟨[], by simp⟩
  · simp (maxSteps := 2000000) only [go_sem, reduceIte, Nat.reduceEqDiff, Nat.reduceAdd, Nat.reduceBEq, Nat.reduceSub, Int.reduceLT, lk23, lk25, lk27, lk29, lk34, wnC]
theorem gradeV_at (l : List Dy) (w : Wn) (q : Int) : gradeV l w q = if costB l ⟨w.x, w.y, q⟩ = MX then -1 else costB l ⟨w.x, w.y, q⟩ := rfl
theorem costB_lt {l : List Dy} (hl : OkL l) (w : Wn) : decide (costB l w < MX) = decide (costB l w ≠ MX) := by
  have := costB_bd hl w
  rw [decide_eq_decide]; omega
set_option maxHeartbeats 4000000 in
theorem grades25 (l : List Dy) (w : Wn) : Pure Try.prog 25 [dys l, wnV w] (.tup [ints (grL l w), I (okWn l w)]) := by
  refine pure_wkE (bad := []) (kp := kp25) (X := tx) (nt := 38) (rs := [.tmp 4, .tmp 5]) Try.func25 rfl rfl rfl rfl mo (by kernel_rfl) rfl rfl (fun hf => ?_)
  have hw := wanted26 l w
  unfold wnV wnC at hw
  simp (maxSteps := 2000000) only [go_sem, reduceIte, Nat.reduceEqDiff, Nat.reduceAdd, Int.reduceNeg, lk23, lk25, lk27, lk29, lk34, wnV, wnC]
  refine aops_pure' (hw) rfl rfl (by first | exact wk_refls _ | (repeat constructor)) ?_
  by_cases h0 : okWn l w = 0
  case neg =>
    have e3 : grL l w = [] := by unfold grL; rw [if_neg h0]
    simp (maxSteps := 2000000) only [go_sem, reduceIte, Nat.reduceEqDiff, Nat.reduceAdd, Int.reduceNeg, lk23, lk25, lk27, lk29, lk34, h0]
    refine aops_pure' (hw) rfl rfl (by first | exact wk_refls _ | (repeat constructor)) ?_
    simp (maxSteps := 2000000) only [go_sem, reduceIte, Nat.reduceEqDiff, lk23, lk25, lk27, lk29, lk34, h0, e3, ints]
    all_goals first | exact .refl _ | exact ⟨.refl _, .refl _⟩ | exact ⟨.refl _, .refl _, .refl _⟩ | exact ⟨.refl _, _, rfl⟩ | exact ⟨_, rfl⟩ | exact ⟨.refl _, [], by simp⟩ | exact ⟨[], by simp⟩
  obtain ⟨hl, hv⟩ := (okWn_iff l w).1 h0
  have e3 : grL l w = gradeL l w 8 := by unfold grL; rw [if_pos h0]
  simp (maxSteps := 2000000) only [go_sem, reduceIte, Nat.reduceEqDiff, Nat.reduceAdd, Int.reduceNeg, lk23, lk25, lk27, lk29, lk34, h0]
  refine goE_loop (bad := []) (kp := kp25) (fun k : Nat => { slots := [(0, dys l), (3, .c (.ptr 0 0)), (6, .c (.own 1 ((gradeL l w k).map iD))), (7, I ((k + 1 : Nat) : Int))], heap := [.cells (wnC w), .grow k 1], marks := [] }) (fun k => k ≤ 8) (fun k => 8 - k) 0 mo (by kernel_rfl) ?_ (Nat.zero_le _) ?_
  · refine Ent.trans (ent_own 6 1 rfl) ?_
    refine ent_weaken [] rfl rfl (Nat.zero_le _) (by simp [AB.low, wnC, C.lowL, C.low]) rfl ?_
    simp (maxSteps := 2000000) only [go_sem, reduceIte, Nat.reduceEqDiff, Nat.reduceAdd, Nat.reduceLT, lk23, lk25, lk27, lk29, lk34, gradeL, List.range_zero]
    all_goals first | exact .refl _ | exact ⟨.refl _, .refl _⟩ | exact ⟨.refl _, .refl _, .refl _⟩ | exact ⟨.refl _, _, rfl⟩ | exact ⟨_, rfl⟩ | exact ⟨.refl _, [], by simp⟩ | exact ⟨[], by simp⟩
  rintro k hk
  simp (maxSteps := 2000000) only [go_sem, reduceIte, Nat.reduceEqDiff, Nat.reduceAdd, Int.reduceNeg, lk23, lk25, lk27, lk29, lk34, wnC]
  by_cases hlt : k < 8
  · have hlt' : ((k + 1 : Nat) : Int) ≤ 8 := by omega
    have hg : gradeV l w ((k + 1 : Nat) : Int) = if costB l ⟨w.x, w.y, ((k + 1 : Nat) : Int)⟩ = MX then -1 else costB l ⟨w.x, w.y, ((k + 1 : Nat) : Int)⟩ := rfl
    have hv2 : OkW ⟨w.x, w.y, ((k + 1 : Nat) : Int)⟩ := ⟨hv.x0, hv.x1, hv.x2, hv.y0, hv.y1, hv.y2, by show (1 : Int) ≤ ((k + 1 : Nat) : Int); omega, hlt'⟩
    have hls := least27 l ⟨w.x, w.y, ((k + 1 : Nat) : Int)⟩ hl hv2
    rw [costB_lt hl] at hls
    have hgl := gradeL_len l w k
    have hsu := gradeL_succ l w k
    have w7 : wr .i64 (((k + 1 : Nat) : Int) + 1) = ((k + 1 + 1 : Nat) : Int) := wr_succ (n := 9) (by omega) (by decide)
    have m1 : 8 - (k + 1) < 8 - k := by omega
    generalize costB l ⟨w.x, w.y, ((k + 1 : Nat) : Int)⟩ = c at *
    unfold wnV wnC at hls
    simp (maxSteps := 2000000) only [go_sem, reduceIte, Nat.reduceEqDiff, Nat.reduceAdd, Nat.reduceBEq, Int.reduceNeg, lk23, lk25, lk27, lk29, lk34, hlt']
    by_cases hc : c = MX
    · rw [if_pos hc] at hg
      rw [show decide (c ≠ MX) = false by simp [hc]] at hls
      refine aops_pure' (hls) rfl rfl (by first | exact wk_refls _ | (repeat constructor)) ?_
      simp (maxSteps := 2000000) only [go_sem, reduceIte, Nat.reduceEqDiff, Nat.reduceAdd, Nat.reduceLT, Nat.reduceLeDiff, Nat.reduceBEq, Nat.reduceMul, Int.reduceNeg, lk23, lk25, lk27, lk29, lk34, hgl, w7]
      refine ⟨by simp [iD]; omega, k + 1, hlt, m1, ?_⟩
      refine ent_weaken [.cells (wnC ⟨w.x, w.y, ((k + 1 : Nat) : Int)⟩)] rfl rfl (Nat.zero_le _) (by simp [AB.low, wnC, C.lowL, C.low]) rfl ?_
      simp (maxSteps := 2000000) only [go_sem, reduceIte, Nat.reduceEqDiff, Nat.reduceAdd, Nat.reduceLT, Int.reduceNeg, lk23, lk25, lk27, lk29, lk34, hsu, hg, List.map_append, iD]
      all_goals first | exact .refl _ | exact ⟨.refl _, .refl _⟩ | exact ⟨.refl _, .refl _, .refl _⟩ | exact ⟨.refl _, _, rfl⟩ | exact ⟨_, rfl⟩ | exact ⟨.refl _, [], by simp⟩ | exact ⟨[], by simp⟩
    · rw [if_neg hc] at hg
      rw [show decide (c ≠ MX) = true by simp [hc]] at hls
      refine aops_pure' (hls) rfl rfl (by first | exact wk_refls _ | (repeat constructor)) ?_
      simp (maxSteps := 2000000) only [go_sem, reduceIte, Nat.reduceEqDiff, Nat.reduceAdd, Nat.reduceLT, Nat.reduceLeDiff, Nat.reduceBEq, Nat.reduceMul, Int.reduceNeg, lk23, lk25, lk27, lk29, lk34, hgl, w7]
      refine ⟨by simp [iD]; omega, k + 1, hlt, m1, ?_⟩
      refine ent_weaken [.cells (wnC ⟨w.x, w.y, ((k + 1 : Nat) : Int)⟩)] rfl rfl (Nat.zero_le _) (by simp [AB.low, wnC, C.lowL, C.low]) rfl ?_
      simp (maxSteps := 2000000) only [go_sem, reduceIte, Nat.reduceEqDiff, Nat.reduceAdd, Nat.reduceLT, lk23, lk25, lk27, lk29, lk34, hsu, hg, List.map_append, iD]
      all_goals first | exact .refl _ | exact ⟨.refl _, .refl _⟩ | exact ⟨.refl _, .refl _, .refl _⟩ | exact ⟨.refl _, _, rfl⟩ | exact ⟨_, rfl⟩ | exact ⟨.refl _, [], by simp⟩ | exact ⟨[], by simp⟩
  · have hlt' : ¬ ((k + 1 : Nat) : Int) ≤ 8 := by omega
    have e : k = 8 := by omega
    subst e
    simp (maxSteps := 2000000) only [go_sem, reduceIte, Nat.reduceEqDiff, Nat.reduceAdd, Nat.reduceSub, Int.reduceNeg, Int.reduceLE, lk23, lk25, lk27, lk29, lk34, hlt', e3, h0, ints]
    all_goals first | exact .refl _ | exact ⟨.refl _, .refl _⟩ | exact ⟨.refl _, .refl _, .refl _⟩ | exact ⟨.refl _, _, rfl⟩ | exact ⟨_, rfl⟩ | exact ⟨.refl _, [], by simp⟩ | exact ⟨[], by simp⟩
/-- By how much a want has to be wider. -/
def widF (l : List Dy) (w : Wn) : Nat → Nat
  | 0 => 20
  | k + 1 => if costB l (widenW w ((20 - (k + 1) : Nat) : Int)) ≠ MX then 20 - (k + 1) else widF l w k
theorem widF_at {l : List Dy} {w : Wn} {b : Nat} (hb : b < 20) : widF l w (20 - b) = if costB l (widenW w (b : Int)) ≠ MX then b else widF l w (20 - (b + 1)) := by
  rw [show 20 - b = 20 - (b + 1) + 1 by omega, widF, show 20 - (20 - (b + 1) + 1) = b by omega]
theorem isL00 {l : List Dy} (hl : OkL l) (q : Int) : ∀ i, i ≤ l.length → Reach l q i 0 0 0
  | 0, _ => ⟨rfl, rfl, rfl⟩
  | i + 1, hi => ⟨0, fun h => by omega, 0, 0, 0, isL00 hl q i (by omega), by omega, by omega, by rw [show ((0 : Nat) : Int) = 0 from rfl, Int.zero_mul]; rfl⟩
theorem cost_w20 {l : List Dy} {w : Wn} (hl : OkL l) (hw : OkW w) : costB l (widenW w 20) ≠ MX := by
  have hw2 := widen_ok hw (show (0 : Int) ≤ 20 by decide)
  have h1 := hw.x0
  have h2 := hw.x1
  have h3 := hw.x2
  have h4 := hw.y0
  have h5 := hw.y1
  have h6 := hw.y2
  have hb := (best_spec hw2 (fillF l w.f l.length) l.length).2 (0, 0) ((inS_iff _ _).2 (by simp only [widenW]; omega))
  have hc := (rec_isL hl (fill_rec hl w.f) (Nat.le_refl _) (x := 0) (y := 0) (by omega) (by omega)).le _ (isL00 hl w.f l.length (Nat.le_refl _))
  intro e
  have e2 : bestC (widenW w 20) (fillF l w.f l.length) l.length = MX := e
  simp only at hb
  unfold MX at e2
  omega
def wiN (l : List Dy) (w : Wn) : Int := if okWn l w = 0 then (widF l w 20 : Nat) else 0
set_option maxHeartbeats 4000000 in
theorem wider23 (l : List Dy) (w : Wn) : Pure Try.prog 23 [dys l, wnV w] (.tup [I (wiN l w), I (okWn l w)]) := by
  refine pure_wkE (bad := []) (kp := kp23) (X := tx) (nt := 30) (rs := [.tmp 4, .tmp 5]) Try.func23 rfl rfl rfl rfl mo (by kernel_rfl) rfl rfl (fun hf => ?_)
  have hw := wanted26 l w
  unfold wnV wnC at hw
  simp (maxSteps := 2000000) only [go_sem, reduceIte, Nat.reduceEqDiff, Nat.reduceAdd, lk23, lk25, lk27, lk29, lk34, wnV, wnC]
  refine aops_pure' (hw) rfl rfl (by first | exact wk_refls _ | (repeat constructor)) ?_
  by_cases h0 : okWn l w = 0
  case neg =>
    have e3 : wiN l w = 0 := by unfold wiN; rw [if_neg h0]
    simp (maxSteps := 2000000) only [go_sem, reduceIte, Nat.reduceEqDiff, Nat.reduceAdd, lk23, lk25, lk27, lk29, lk34, h0]
    refine aops_pure' (hw) rfl rfl (by first | exact wk_refls _ | (repeat constructor)) ?_
    simp (maxSteps := 2000000) only [go_sem, reduceIte, Nat.reduceEqDiff, lk23, lk25, lk27, lk29, lk34, h0, e3]
    all_goals first | exact .refl _ | exact ⟨.refl _, .refl _⟩ | exact ⟨.refl _, .refl _, .refl _⟩ | exact ⟨.refl _, _, rfl⟩ | exact ⟨_, rfl⟩ | exact ⟨.refl _, [], by simp⟩ | exact ⟨[], by simp⟩
  obtain ⟨hl, hv⟩ := (okWn_iff l w).1 h0
  have e3 : wiN l w = (widF l w 20 : Nat) := by unfold wiN; rw [if_pos h0]
  simp (maxSteps := 2000000) only [go_sem, reduceIte, Nat.reduceEqDiff, Nat.reduceAdd, lk23, lk25, lk27, lk29, lk34, h0]
  refine goE_loop (bad := []) (kp := kp23) (fun k : Nat => { slots := [(0, dys l), (3, .c (.ptr 0 0)), (6, I k)], heap := [.cells (wnC w)], marks := [] }) (fun k => k ≤ 20 ∧ widF l w (20 - k) = widF l w 20) (fun k => 21 - k) 0 mo (by kernel_rfl) ?_ ⟨Nat.zero_le _, rfl⟩ ?_
  · refine ent_weaken [] rfl rfl (Nat.zero_le _) rfl rfl ?_
    simp (maxSteps := 2000000) only [go_sem, reduceIte, Nat.reduceEqDiff, Nat.reduceLT, lk23, lk25, lk27, lk29, lk34, wnC]
    all_goals first | exact .refl _ | exact ⟨.refl _, .refl _⟩ | exact ⟨.refl _, .refl _, .refl _⟩ | exact ⟨.refl _, _, rfl⟩ | exact ⟨_, rfl⟩ | exact ⟨.refl _, [], by simp⟩ | exact ⟨[], by simp⟩
  rintro k ⟨hk, hR⟩
  have hk' : (k : Int) ≤ 20 := by omega
  have hwd := widened34 w k hv (by omega) hk'
  have hls := least27 l (widenW w k) hl (widen_ok hv (by omega))
  rw [costB_lt hl] at hls
  unfold wnV wnC at hwd hls
  simp (maxSteps := 2000000) only [go_sem, reduceIte, Nat.reduceEqDiff, Nat.reduceAdd, lk23, lk25, lk27, lk29, lk34, wnC, hk']
  refine aops_pure' (hwd) rfl rfl (by first | exact wk_refls _ | (repeat constructor)) ?_
  simp (maxSteps := 2000000) only [go_sem, reduceIte, Nat.reduceEqDiff, lk23, lk25, lk27, lk29, lk34]
  have hk20 : k = 20 → costB l (widenW w k) ≠ MX := fun e => by subst e; exact cost_w20 hl hv
  have hR2 := fun h : k < 20 => hR.symm.trans (widF_at (l := l) (w := w) h)
  by_cases hc : costB l (widenW w k) = MX
  · have hlt : k < 20 := by
      by_cases e : k = 20
      · exact absurd hc (hk20 e)
      · omega
    have hR3 := hR2 hlt
    rw [if_neg (fun h => h hc)] at hR3
    have w7 : wr .i64 ((k : Int) + 1) = ((k + 1 : Nat) : Int) := wr_succ (n := 21) (by omega) (by decide)
    have m1 : 21 - (k + 1) < 21 - k := by omega
    rw [show decide (costB l (widenW w k) ≠ MX) = false by simp [hc]] at hls
    refine aops_pure' (hls) rfl rfl (by first | exact wk_refls _ | (repeat constructor)) ?_
    simp (maxSteps := 2000000) only [go_sem, reduceIte, Nat.reduceEqDiff, Nat.reduceAdd, lk23, lk25, lk27, lk29, lk34, w7]
    refine ⟨k + 1, ⟨hlt, hR3.symm⟩, m1, ?_⟩
    refine ent_weaken [] rfl rfl (Nat.zero_le _) rfl rfl ?_
    simp (maxSteps := 2000000) only [go_sem, reduceIte, Nat.reduceEqDiff, Nat.reduceLT, lk23, lk25, lk27, lk29, lk34, wnC]
    all_goals first | exact .refl _ | exact ⟨.refl _, .refl _⟩ | exact ⟨.refl _, .refl _, .refl _⟩ | exact ⟨.refl _, _, rfl⟩ | exact ⟨_, rfl⟩ | exact ⟨.refl _, [], by simp⟩ | exact ⟨[], by simp⟩
  · have hW : widF l w 20 = k := by
      by_cases e : k = 20
      · subst e; rw [← hR]; rfl
      · rw [hR2 (by omega), if_pos hc]
    rw [show decide (costB l (widenW w k) ≠ MX) = true by simp [hc]] at hls
    refine aops_pure' (hls) rfl rfl (by first | exact wk_refls _ | (repeat constructor)) ?_
    simp (maxSteps := 2000000) only [go_sem, reduceIte, Nat.reduceEqDiff, Nat.reduceAdd, lk23, lk25, lk27, lk29, lk34, e3, hW, h0]
    all_goals first | exact .refl _ | exact ⟨.refl _, .refl _⟩ | exact ⟨.refl _, .refl _, .refl _⟩ | exact ⟨.refl _, _, rfl⟩ | exact ⟨_, rfl⟩ | exact ⟨.refl _, [], by simp⟩ | exact ⟨[], by simp⟩
end Go.Proofs.Ytkbnmanfoejoiaa
