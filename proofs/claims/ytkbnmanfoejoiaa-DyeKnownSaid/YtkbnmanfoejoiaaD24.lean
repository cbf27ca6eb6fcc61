/- Dyes: the statements Mixes, Cheapest, Tables, Known. -/
import Derived.Test.YtkbnmanfoejoiaaD23
set_option linter.unusedSimpArgs false
set_option linter.unusedVariables false
set_option maxRecDepth 100000
namespace Go.Proofs.Ytkbnmanfoejoiaa
open Go Go.Abs Go.Proofs
def kp3 : List (Nat × List Nat) := [(0, [0, 2, 4]), (1, [0, 2, 4, 24]), (2, [6]), (3, [0, 2, 4, 7, 8, 9]), (4, [0, 2, 4, 7, 8, 9, 10, 11, 12]), (5, [0, 2, 4, 7, 8, 9, 10, 11, 12, 13, 14]), (6, [0, 7, 8, 9, 10, 11, 12, 13, 14, 15, 16]), (7, [6])]
theorem lk3 : lookK kp3 0 = some [0, 2, 4] ∧ lookK kp3 1 = some [0, 2, 4, 24] ∧ lookK kp3 2 = some [6] ∧ lookK kp3 3 = some [0, 2, 4, 7, 8, 9] ∧ lookK kp3 4 = some [0, 2, 4, 7, 8, 9, 10, 11, 12] ∧ lookK kp3 5 = some [0, 2, 4, 7, 8, 9, 10, 11, 12, 13, 14] ∧ lookK kp3 6 = some [0, 7, 8, 9, 10, 11, 12, 13, 14, 15, 16] ∧ lookK kp3 7 = some [6] := ⟨rfl, rfl, rfl, rfl, rfl, rfl, rfl, rfl⟩
def kp4 : List (Nat × List Nat) := [(0, [0, 3]), (1, [0, 3, 22]), (2, [4]), (3, [0, 3, 5, 6, 7]), (4, [0, 3, 5, 6, 7, 8, 9]), (5, [0, 3, 5, 6, 7, 8, 9, 10, 11]), (6, [0, 3, 5, 6, 7, 8, 9, 10, 11, 12, 13]), (7, [0, 3, 5, 6, 7, 8, 9, 10, 11, 12, 13, 14, 15]), (8, [0, 3, 5, 6, 7, 73]), (9, [4]), (10, [0, 3, 5, 6, 7, 77]), (11, [4]), (12, [0, 3, 5, 6, 7, 16, 17]), (13, [0, 3, 5, 6, 7, 16, 102]), (14, [4]), (15, [6, 7, 16, 18, 19]), (16, [4])]
theorem lk4 : lookK kp4 0 = some [0, 3] ∧ lookK kp4 1 = some [0, 3, 22] ∧ lookK kp4 2 = some [4] ∧ lookK kp4 3 = some [0, 3, 5, 6, 7] ∧ lookK kp4 4 = some [0, 3, 5, 6, 7, 8, 9] ∧ lookK kp4 5 = some [0, 3, 5, 6, 7, 8, 9, 10, 11] ∧ lookK kp4 6 = some [0, 3, 5, 6, 7, 8, 9, 10, 11, 12, 13] ∧ lookK kp4 7 = some [0, 3, 5, 6, 7, 8, 9, 10, 11, 12, 13, 14, 15] ∧ lookK kp4 8 = some [0, 3, 5, 6, 7, 73] ∧ lookK kp4 9 = some [4] ∧ lookK kp4 10 = some [0, 3, 5, 6, 7, 77] ∧ lookK kp4 11 = some [4] ∧ lookK kp4 12 = some [0, 3, 5, 6, 7, 16, 17] ∧ lookK kp4 13 = some [0, 3, 5, 6, 7, 16, 102] ∧ lookK kp4 14 = some [4] ∧ lookK kp4 15 = some [6, 7, 16, 18, 19] ∧ lookK kp4 16 = some [4] := ⟨rfl, rfl, rfl, rfl, rfl, rfl, rfl, rfl, rfl, rfl, rfl, rfl, rfl, rfl, rfl, rfl, rfl⟩
def kp5 : List (Nat × List Nat) := [(0, [0, 2, 3, 5]), (1, [0, 2, 3, 5, 24]), (2, [8]), (3, [0, 2, 3, 5, 9, 10]), (4, [0, 3, 5, 9, 10, 11, 12]), (5, [0, 3, 5, 9, 10, 11, 12, 13, 14]), (6, [9, 10, 11, 12, 13, 14, 15, 16]), (7, [8])]
theorem lk5 : lookK kp5 0 = some [0, 2, 3, 5] ∧ lookK kp5 1 = some [0, 2, 3, 5, 24] ∧ lookK kp5 2 = some [8] ∧ lookK kp5 3 = some [0, 2, 3, 5, 9, 10] ∧ lookK kp5 4 = some [0, 3, 5, 9, 10, 11, 12] ∧ lookK kp5 5 = some [0, 3, 5, 9, 10, 11, 12, 13, 14] ∧ lookK kp5 6 = some [9, 10, 11, 12, 13, 14, 15, 16] ∧ lookK kp5 7 = some [8] := ⟨rfl, rfl, rfl, rfl, rfl, rfl, rfl, rfl⟩

theorem okLen {l : List Dy} (h : okShelf l = 0) : l.length ≤ 8 := ((okShelf_iff l).1 h).n8
set_option maxHeartbeats 4000000 in
theorem mixesLaw (l : List Dy) (w : Wn) (r : List Int) : Pure Try.prog 3 [dys l, wnV w, ints r] (B true) := by
  refine pure_wkE (bad := []) (kp := kp3) (X := tx) (nt := 87) (rs := [.tmp 6]) Try.func3 rfl rfl rfl rfl mo (by kernel_rfl) rfl rfl (fun hf => ?_)
  have m1 := mix14 l r
  have m2 := mix15 l r
  have k1 := check16 l w r
  have k2 := check17 l w r
  have s1 := shelf18 l
  have s2 := shelf19 l
  have hw := works13
  have lg := longs20 (mixL l r) (mixL l r)
  rw [decide_eq_true rfl] at lg
  simp only [wnV, wnC, dys, ints] at m1 m2 k1 k2 s1 s2 lg
  simp (maxSteps := 2000000) only [go_sem, reduceIte, Nat.reduceEqDiff, Nat.reduceAdd, lk3, lk4, lk5, wnV, wnC, dys, ints]
  by_cases h1 : 12 < l.length
  · have h1' : (12 : Int) < l.length := by omega
    simp (maxSteps := 2000000) only [go_sem, reduceIte, Nat.reduceEqDiff, Nat.reduceAdd, lk3, lk4, lk5, h1']
    refine aops_pure' (hw) rfl rfl (by first | exact wk_refls _ | (repeat constructor)) ?_
    simp (maxSteps := 2000000) only [go_sem, reduceIte, Nat.reduceEqDiff, lk3, lk4, lk5]
  have h1' : ¬ (12 : Int) < l.length := by omega
  by_cases h2 : 12 < r.length
  · have h2' : (12 : Int) < r.length := by omega
    simp (maxSteps := 2000000) only [go_sem, reduceIte, Nat.reduceEqDiff, Nat.reduceAdd, lk3, lk4, lk5, h1', h2']
    refine aops_pure' (hw) rfl rfl (by first | exact wk_refls _ | (repeat constructor)) ?_
    simp (maxSteps := 2000000) only [go_sem, reduceIte, Nat.reduceEqDiff, lk3, lk4, lk5]
  have h2' : ¬ (12 : Int) < r.length := by omega
  simp (maxSteps := 2000000) only [go_sem, reduceIte, Nat.reduceEqDiff, Nat.reduceAdd, lk3, lk4, lk5, h1', h2']
  refine aops_pure' (m1) rfl rfl (by first | exact wk_refls _ | (repeat constructor)) ?_
  simp (maxSteps := 2000000) only [go_sem, reduceIte, Nat.reduceEqDiff, lk3, lk4, lk5]
  refine aops_pure' (m2) rfl rfl (by first | exact wk_refls _ | (repeat constructor)) ?_
  simp (maxSteps := 2000000) only [go_sem, reduceIte, Nat.reduceEqDiff, Nat.reduceAdd, lk3, lk4, lk5]
  refine aops_pure' (k1) rfl rfl (by first | exact wk_refls _ | (repeat constructor)) ?_
  simp (maxSteps := 2000000) only [go_sem, reduceIte, Nat.reduceEqDiff, Nat.reduceAdd, lk3, lk4, lk5]
  refine aops_pure' (k2) rfl rfl (by first | exact wk_refls _ | (repeat constructor)) ?_
  simp (maxSteps := 2000000) only [go_sem, reduceIte, Nat.reduceEqDiff, lk3, lk4, lk5]
  refine aops_pure' (s1) rfl rfl (by first | exact wk_refls _ | (repeat constructor)) ?_
  simp (maxSteps := 2000000) only [go_sem, reduceIte, Nat.reduceEqDiff, lk3, lk4, lk5]
  refine aops_pure' (s2) rfl rfl (by first | exact wk_refls _ | (repeat constructor)) ?_
  simp (maxSteps := 2000000) only [go_sem, reduceIte, Nat.reduceEqDiff, lk3, lk4, lk5]
  refine aops_pure' (lg) rfl rfl (by first | exact wk_refls _ | (repeat constructor)) ?_
  simp (maxSteps := 2000000) only [go_sem, reduceIte, Nat.reduceEqDiff, lk3, lk4, lk5]
  refine aops_pure' (hw) rfl rfl (by first | exact wk_refls _ | (repeat constructor)) ?_
  simp (maxSteps := 2000000) only [go_sem, reduceIte, Nat.reduceEqDiff, lk3, lk4, lk5]
theorem chRE {l : List Dy} {w : Wn} (h : chE l w ≠ 0) : chR l w = [] ∧ chC l w = 0 := ⟨by unfold chR; rw [if_neg h], by unfold chC; rw [if_neg h]⟩
set_option maxHeartbeats 4000000 in
theorem cheapestLaw (l : List Dy) (w : Wn) : Pure Try.prog 4 [dys l, wnV w] (B true) := by
  refine pure_wkE (bad := []) (kp := kp4) (X := tx) (nt := 143) (rs := [.tmp 4]) Try.func4 rfl rfl rfl rfl mo (by kernel_rfl) rfl rfl (fun hf => ?_)
  have m1 := cheapest21 l w
  have k1 := wider22 l w
  have k2 := wider23 l w
  have g1 := grades24 l w
  have g2 := grades25 l w
  have hwn := wanted26 l w
  have hw := works13
  have lg := longs20 (grL l w) (grL l w)
  rw [decide_eq_true rfl] at lg
  by_cases h1 : 12 < l.length
  · have h1' : (12 : Int) < l.length := by omega
    simp (maxSteps := 2000000) only [go_sem, reduceIte, Nat.reduceEqDiff, Nat.reduceAdd, lk3, lk4, lk5, wnV, wnC, dys, h1']
    refine aops_pure' (hw) rfl rfl (by first | exact wk_refls _ | (repeat constructor)) ?_
    simp (maxSteps := 2000000) only [go_sem, reduceIte, Nat.reduceEqDiff, lk3, lk4, lk5]
  have h1' : ¬ (12 : Int) < l.length := by omega
  by_cases h0 : okWn l w = 0
  case neg =>
    have e : chE l w = okWn l w := by unfold chE; rw [if_neg h0]
    obtain ⟨e2, e3⟩ := chRE (l := l) (w := w) (by rw [e]; exact h0)
    rw [e, e2, e3] at m1
    unfold wnV wnC dys at m1 k1 k2 g1 g2 hwn
    unfold ints at m1 g1 g2 lg
    simp (maxSteps := 2000000) only [go_sem, reduceIte, Nat.reduceEqDiff, Nat.reduceAdd, lk3, lk4, lk5, wnV, wnC, dys, h1']
    refine aops_pure' (m1) rfl rfl (by first | exact wk_refls _ | (repeat constructor)) ?_
    simp (maxSteps := 2000000) only [go_sem, reduceIte, Nat.reduceEqDiff, Nat.reduceAdd, lk3, lk4, lk5]
    refine aops_pure' (k1) rfl rfl (by first | exact wk_refls _ | (repeat constructor)) ?_
    simp (maxSteps := 2000000) only [go_sem, reduceIte, Nat.reduceEqDiff, Nat.reduceAdd, lk3, lk4, lk5]
    refine aops_pure' (k2) rfl rfl (by first | exact wk_refls _ | (repeat constructor)) ?_
    simp (maxSteps := 2000000) only [go_sem, reduceIte, Nat.reduceEqDiff, Nat.reduceAdd, lk3, lk4, lk5]
    refine aops_pure' (g1) rfl rfl (by first | exact wk_refls _ | (repeat constructor)) ?_
    simp (maxSteps := 2000000) only [go_sem, reduceIte, Nat.reduceEqDiff, Nat.reduceAdd, lk3, lk4, lk5]
    refine aops_pure' (g2) rfl rfl (by first | exact wk_refls _ | (repeat constructor)) ?_
    simp (maxSteps := 2000000) only [go_sem, reduceIte, Nat.reduceEqDiff, lk3, lk4, lk5]
    refine aops_pure' (lg) rfl rfl (by first | exact wk_refls _ | (repeat constructor)) ?_
    simp (maxSteps := 2000000) only [go_sem, reduceIte, Nat.reduceEqDiff, Nat.reduceAdd, lk3, lk4, lk5]
    refine aops_pure' (hwn) rfl rfl (by first | exact wk_refls _ | (repeat constructor)) ?_
    simp (maxSteps := 2000000) only [go_sem, reduceIte, Nat.reduceEqDiff, Nat.reduceAdd, lk3, lk4, lk5, h0]
    refine aops_pure' (hwn) rfl rfl (by first | exact wk_refls _ | (repeat constructor)) ?_
    simp (maxSteps := 2000000) only [go_sem, reduceIte, Nat.reduceEqDiff, lk3, lk4, lk5]
    refine aops_pure' (hw) rfl rfl (by first | exact wk_refls _ | (repeat constructor)) ?_
    simp (maxSteps := 2000000) only [go_sem, reduceIte, Nat.reduceEqDiff, lk3, lk4, lk5]
  obtain ⟨hl, hv⟩ := (okWn_iff l w).1 h0
  have ls := least27 l w hl hv
  rw [costB_lt hl] at ls
  by_cases hc : costB l w = MX
  · have e : chE l w = 13 := by unfold chE; rw [if_pos h0, if_pos hc]
    obtain ⟨e2, e3⟩ := chRE (l := l) (w := w) (by rw [e]; decide)
    rw [e, e2, e3] at m1
    rw [show decide (costB l w ≠ MX) = false by simp [hc]] at ls
    rw [h0] at hwn
    unfold wnV wnC dys at m1 k1 k2 g1 g2 hwn ls
    unfold ints at m1 g1 g2 lg
    simp (maxSteps := 2000000) only [go_sem, reduceIte, Nat.reduceEqDiff, Nat.reduceAdd, lk3, lk4, lk5, wnV, wnC, dys, h1']
    refine aops_pure' (m1) rfl rfl (by first | exact wk_refls _ | (repeat constructor)) ?_
    simp (maxSteps := 2000000) only [go_sem, reduceIte, Nat.reduceEqDiff, Nat.reduceAdd, lk3, lk4, lk5]
    refine aops_pure' (k1) rfl rfl (by first | exact wk_refls _ | (repeat constructor)) ?_
    simp (maxSteps := 2000000) only [go_sem, reduceIte, Nat.reduceEqDiff, Nat.reduceAdd, lk3, lk4, lk5]
    refine aops_pure' (k2) rfl rfl (by first | exact wk_refls _ | (repeat constructor)) ?_
    simp (maxSteps := 2000000) only [go_sem, reduceIte, Nat.reduceEqDiff, Nat.reduceAdd, lk3, lk4, lk5]
    refine aops_pure' (g1) rfl rfl (by first | exact wk_refls _ | (repeat constructor)) ?_
    simp (maxSteps := 2000000) only [go_sem, reduceIte, Nat.reduceEqDiff, Nat.reduceAdd, lk3, lk4, lk5]
    refine aops_pure' (g2) rfl rfl (by first | exact wk_refls _ | (repeat constructor)) ?_
    simp (maxSteps := 2000000) only [go_sem, reduceIte, Nat.reduceEqDiff, lk3, lk4, lk5]
    refine aops_pure' (lg) rfl rfl (by first | exact wk_refls _ | (repeat constructor)) ?_
    simp (maxSteps := 2000000) only [go_sem, reduceIte, Nat.reduceEqDiff, Nat.reduceAdd, lk3, lk4, lk5]
    refine aops_pure' (hwn) rfl rfl (by first | exact wk_refls _ | (repeat constructor)) ?_
    simp (maxSteps := 2000000) only [go_sem, reduceIte, Nat.reduceEqDiff, Nat.reduceAdd, lk3, lk4, lk5]
    refine aops_pure' (ls) rfl rfl (by first | exact wk_refls _ | (repeat constructor)) ?_
    simp (maxSteps := 2000000) only [go_sem, reduceIte, Nat.reduceEqDiff, Nat.reduceAdd, lk3, lk4, lk5]
    refine aops_pure' (hw) rfl rfl (by first | exact wk_refls _ | (repeat constructor)) ?_
    simp (maxSteps := 2000000) only [go_sem, reduceIte, Nat.reduceEqDiff, lk3, lk4, lk5]
  · have e : chE l w = 0 := by unfold chE; rw [if_pos h0, if_neg hc]
    have e2 : chR l w = bestR l w := by unfold chR; rw [e, if_pos rfl]
    have e3 : chC l w = costB l w := by unfold chC; rw [e, if_pos rfl]
    have hf := bestR_fits hl hv hc
    have k3 := check17 l w (bestR l w)
    have e4 : chkE l w (bestR l w) = 0 := chkE_iff.2 ⟨⟨hl, hv⟩, hf⟩
    have e5 : chkN l w (bestR l w) = costB l w := by unfold chkN; rw [e4, if_pos rfl, (bestR_law hl hv hc).2.2.2]
    rw [e4, e5] at k3
    rw [e, e2, e3] at m1
    rw [show decide (costB l w ≠ MX) = true by simp [hc]] at ls
    rw [h0] at hwn
    unfold wnV wnC dys at m1 k1 k2 g1 g2 hwn ls k3
    unfold ints at m1 g1 g2 lg k3
    simp (maxSteps := 2000000) only [go_sem, reduceIte, Nat.reduceEqDiff, Nat.reduceAdd, lk3, lk4, lk5, wnV, wnC, dys, h1']
    refine aops_pure' (m1) rfl rfl (by first | exact wk_refls _ | (repeat constructor)) ?_
    simp (maxSteps := 2000000) only [go_sem, reduceIte, Nat.reduceEqDiff, Nat.reduceAdd, lk3, lk4, lk5]
    refine aops_pure' (k1) rfl rfl (by first | exact wk_refls _ | (repeat constructor)) ?_
    simp (maxSteps := 2000000) only [go_sem, reduceIte, Nat.reduceEqDiff, Nat.reduceAdd, lk3, lk4, lk5]
    refine aops_pure' (k2) rfl rfl (by first | exact wk_refls _ | (repeat constructor)) ?_
    simp (maxSteps := 2000000) only [go_sem, reduceIte, Nat.reduceEqDiff, Nat.reduceAdd, lk3, lk4, lk5]
    refine aops_pure' (g1) rfl rfl (by first | exact wk_refls _ | (repeat constructor)) ?_
    simp (maxSteps := 2000000) only [go_sem, reduceIte, Nat.reduceEqDiff, Nat.reduceAdd, lk3, lk4, lk5]
    refine aops_pure' (g2) rfl rfl (by first | exact wk_refls _ | (repeat constructor)) ?_
    simp (maxSteps := 2000000) only [go_sem, reduceIte, Nat.reduceEqDiff, lk3, lk4, lk5]
    refine aops_pure' (lg) rfl rfl (by first | exact wk_refls _ | (repeat constructor)) ?_
    simp (maxSteps := 2000000) only [go_sem, reduceIte, Nat.reduceEqDiff, Nat.reduceAdd, lk3, lk4, lk5]
    refine aops_pure' (hwn) rfl rfl (by first | exact wk_refls _ | (repeat constructor)) ?_
    simp (maxSteps := 2000000) only [go_sem, reduceIte, Nat.reduceEqDiff, Nat.reduceAdd, lk3, lk4, lk5]
    refine aops_pure' (ls) rfl rfl (by first | exact wk_refls _ | (repeat constructor)) ?_
    simp (maxSteps := 2000000) only [go_sem, reduceIte, Nat.reduceEqDiff, Nat.reduceAdd, lk3, lk4, lk5]
    refine aops_pure' (k3) rfl rfl (by first | exact wk_refls _ | (repeat constructor)) ?_
    simp (maxSteps := 2000000) only [go_sem, reduceIte, Nat.reduceEqDiff, lk3, lk4, lk5]
    refine aops_pure' (hw) rfl rfl (by first | exact wk_refls _ | (repeat constructor)) ?_
    simp (maxSteps := 2000000) only [go_sem, reduceIte, Nat.reduceEqDiff, lk3, lk4, lk5]
set_option maxHeartbeats 4000000 in
theorem tablesLaw (l : List Dy) (w : Wn) (q : Int) (t : List Int) : Pure Try.prog 5 [dys l, wnV w, I q, ints t] (B true) := by
  refine pure_wkE (bad := []) (kp := kp5) (X := tx) (nt := 73) (rs := [.tmp 8]) Try.func5 rfl rfl rfl rfl mo (by kernel_rfl) rfl rfl (fun hf => ?_)
  have m1 := table28 l q
  have m2 := table29 l q
  have k1 := checktable30 l w t
  have k2 := checktable31 l w t
  have hw := works13
  have lg := longs20 (tabL l q) (tabL l q)
  rw [decide_eq_true rfl] at lg
  unfold wnV wnC dys at k1 k2
  unfold dys at m1 m2
  unfold ints at m1 m2 k1 k2 lg
  simp (maxSteps := 2000000) only [go_sem, reduceIte, Nat.reduceEqDiff, Nat.reduceAdd, lk3, lk4, lk5, wnV, wnC, dys, ints]
  by_cases h1 : 12 < l.length
  · have h1' : (12 : Int) < l.length := by omega
    simp (maxSteps := 2000000) only [go_sem, reduceIte, Nat.reduceEqDiff, Nat.reduceAdd, lk3, lk4, lk5, h1']
    refine aops_pure' (hw) rfl rfl (by first | exact wk_refls _ | (repeat constructor)) ?_
    simp (maxSteps := 2000000) only [go_sem, reduceIte, Nat.reduceEqDiff, lk3, lk4, lk5]
  have h1' : ¬ (12 : Int) < l.length := by omega
  by_cases h2 : 4200 < t.length
  · have h2' : (4200 : Int) < t.length := by omega
    simp (maxSteps := 2000000) only [go_sem, reduceIte, Nat.reduceEqDiff, Nat.reduceAdd, lk3, lk4, lk5, h1', h2']
    refine aops_pure' (hw) rfl rfl (by first | exact wk_refls _ | (repeat constructor)) ?_
    simp (maxSteps := 2000000) only [go_sem, reduceIte, Nat.reduceEqDiff, lk3, lk4, lk5]
  have h2' : ¬ (4200 : Int) < t.length := by omega
  simp (maxSteps := 2000000) only [go_sem, reduceIte, Nat.reduceEqDiff, Nat.reduceAdd, lk3, lk4, lk5, h1', h2']
  refine aops_pure' (m1) rfl rfl (by first | exact wk_refls _ | (repeat constructor)) ?_
  simp (maxSteps := 2000000) only [go_sem, reduceIte, Nat.reduceEqDiff, lk3, lk4, lk5]
  refine aops_pure' (m2) rfl rfl (by first | exact wk_refls _ | (repeat constructor)) ?_
  simp (maxSteps := 2000000) only [go_sem, reduceIte, Nat.reduceEqDiff, Nat.reduceAdd, lk3, lk4, lk5]
  refine aops_pure' (k1) rfl rfl (by first | exact wk_refls _ | (repeat constructor)) ?_
  simp (maxSteps := 2000000) only [go_sem, reduceIte, Nat.reduceEqDiff, Nat.reduceAdd, lk3, lk4, lk5]
  refine aops_pure' (k2) rfl rfl (by first | exact wk_refls _ | (repeat constructor)) ?_
  simp (maxSteps := 2000000) only [go_sem, reduceIte, Nat.reduceEqDiff, lk3, lk4, lk5]
  refine aops_pure' (lg) rfl rfl (by first | exact wk_refls _ | (repeat constructor)) ?_
  simp (maxSteps := 2000000) only [go_sem, reduceIte, Nat.reduceEqDiff, lk3, lk4, lk5]
  refine aops_pure' (hw) rfl rfl (by first | exact wk_refls _ | (repeat constructor)) ?_
  simp (maxSteps := 2000000) only [go_sem, reduceIte, Nat.reduceEqDiff, lk3, lk4, lk5]
theorem ctab63 : ctabE sh0 (wt0 3) (costsL sh0 6) = 14 := by
  have hB := fill_bd sh0_ok 6
  have hlen := costsL_len sh0 6
  unfold ctabE
  rw [if_pos (okw0 (by decide) (by decide)), if_pos hlen, if_neg, if_neg]
  · rw [right_congr (g := fillF sh0 6 sh0.length) (fun k hk => costsL_get sh0_ok 6 hk)]
    intro h
    have hR := ((rightI_iff _ _ _ _).1 h).2
    have h1 := (hR 1 0 0 (by decide) (by decide) (by decide)).2 ⟨by show (3 : Int) ≤ 3; decide, by decide, by decide⟩
    have z : ∀ i, i ≤ 3 → fillF sh0 6 sh0.length (cix i 0 0) ≤ 0 := fun i hi => (rec_isL sh0_ok (fill_rec sh0_ok 6) hi (x := 0) (y := 0) (by decide) (by decide)).le _ (isL00 sh0_ok 6 i hi)
    have z2 := z 2 (by decide)
    have h3 := (rec_isL sh0_ok (fill_rec sh0_ok 6) (i := 2) (by decide) (x := 0) (y := 3) (by decide) (by decide)).at'
    have h1 : fillF sh0 6 sh0.length (cix 2 0 3) ≤ fillF sh0 6 sh0.length (cix 2 0 0) + 4 := h1
    rcases h3 with h3 | h3
    · rw [h3] at h1; unfold MX at h1; omega
    · obtain ⟨g, hg, x', y', c', ⟨g2, hg2, x2, y2, c2, r2, ex2, ey2, ec2⟩, ex, ey, ec⟩ := h3
      have hg0 : g = 0 := by
        by_cases e : 0 < g
        · have : (6 : Int) ≤ 3 := hg e
          omega
        · omega
      subst hg0
      obtain ⟨r1, r2, r3⟩ := r2
      have ex2 : x' = x2 + g2 * 2 := ex2
      have ey2 : y' = y2 + g2 * 1 := ey2
      omega
  · rw [mn_iff (by omega)]
    rintro ⟨j, hj, h⟩
    rw [costsL_get sh0_ok 6 (by omega)] at h
    have := hB j
    omega
end Go.Proofs.Ytkbnmanfoejoiaa
