/- Metamers: the law of matches. -/
import Derived.Test.YtjkpfojkkfopmaaM21
import Derived.Test.YtjkpfojkkfopmaaM19
set_option linter.unusedSimpArgs false
set_option linter.unusedVariables false
set_option maxRecDepth 100000
namespace Go.Proofs.Ytjkpfojkkfopmaa
open Go Go.Abs Go.Proofs
def kp4 : List (Nat × List Nat) := [(0, [1, 2, 3]), (1, [1, 2, 3, 24]), (2, [6]), (3, [1, 2, 3, 7, 8]), (4, [1, 2, 3, 7, 8, 9, 10]), (5, [1, 2, 3, 7, 8, 9, 10, 11, 12]), (6, [1, 2, 3, 11, 12, 74]), (7, [6]), (8, [1, 2, 3, 11, 76]), (9, [6]), (10, [6])]
theorem lk4 : lookK kp4 0 = some [1, 2, 3] ∧ lookK kp4 1 = some [1, 2, 3, 24] ∧ lookK kp4 2 = some [6] ∧ lookK kp4 3 = some [1, 2, 3, 7, 8] ∧ lookK kp4 4 = some [1, 2, 3, 7, 8, 9, 10] ∧ lookK kp4 5 = some [1, 2, 3, 7, 8, 9, 10, 11, 12] ∧ lookK kp4 6 = some [1, 2, 3, 11, 12, 74] ∧ lookK kp4 7 = some [6] ∧ lookK kp4 8 = some [1, 2, 3, 11, 76] ∧ lookK kp4 9 = some [6] ∧ lookK kp4 10 = some [6] := ⟨rfl, rfl, rfl, rfl, rfl, rfl, rfl, rfl, rfl, rfl, rfl⟩

theorem okCase_not19 (c : Cs) : okCase c ≠ 19 := by
  unfold okCase
  repeat' split
  all_goals decide
theorem okChip_not19 (c : Cs) (l : List Int) : okChip c l ≠ 19 := by
  unfold okChip
  repeat' split
  all_goals decide
theorem okChips_not19 (c : Cs) (a b : List Int) : okChips c a b ≠ 19 := by
  unfold okChips
  have h0 := okCase_not19 c
  have h1 := okChip_not19 c a
  have h2 := okChip_not19 c b
  repeat' split
  all_goals assumption
theorem partR_bad {c : Cs} {a b : List Int} (h : ¬ okChips c a b = 0) : partR c a b = (⟨[], []⟩, okChips c a b) ∧ partE c a b = okChips c a b := by
  refine ⟨by simp only [partR, if_neg h], ?_⟩
  have e : sureE c a b = okChips c a b := by simp only [sureE, if_neg h]
  simp only [partE, e, if_neg h, if_neg (okChips_not19 c a b)]
theorem partR_none {c : Cs} {a b : List Int} (h : okChips c a b = 0) (hp : partB c (lessL a b) = false) : partR c a b = (⟨[], []⟩, 5) ∧ partE c a b = 5 ∧ sureE c a b = 0 := by
  have e : sureE c a b = 0 := by rw [← sure_eq]; simp only [sureP, if_pos h, hp, Bool.false_eq_true, if_false]
  refine ⟨by simp only [partR, if_pos h, hp, Bool.false_eq_true, if_false], ?_, e⟩
  simp only [partE, e, if_true]
theorem partR_some {c : Cs} {a b : List Int} (h : okChips c a b = 0) (hp : partB c (lessL a b) = true) : partR c a b = (partT c (partP c (lessL a b)), 0) ∧ partE c a b = 0 ∧ sureE c a b = 19 := by
  have e : sureE c a b = 19 := by rw [← sure_eq]; simp only [sureP, if_pos h, hp, if_true]
  refine ⟨by simp only [partR, if_pos h, hp, if_true], ?_, e⟩
  simp only [partE, e]; rfl
set_option maxHeartbeats 8000000 in
theorem matchesLaw (c : Cs) (a b : List Int) : Pure Try.prog 4 [csV c, ints a, ints b] (B true) := by
  refine pure_wkE (bad := []) (kp := kp4) (X := tx) (nt := 107) (rs := [.tmp 6]) Try.func4 rfl rfl rfl rfl mo (by kernel_rfl) rfl rfl (fun hf => ?_)
  have hs27 := surely27 c a b
  rw [sure_eq] at hs27
  have hs28 := surely28 c a b
  have hp29 := parting29 c a b
  have hp26 := parting26 c a b
  simp (config := { maxSteps := 2000000 }) only [go_sem, reduceIte, Nat.reduceEqDiff, Nat.reduceAdd, Nat.reduceLT, Nat.reduceLeDiff, Nat.reduceBEq, Nat.reduceMul, Nat.reduceSub, Nat.reduceDiv, Int.reduceNeg, Int.reduceLT, Int.reduceLE, Int.reduceEq, Int.reduceToNat, lk4, csV, csC, ints]
  refine aops_pure' (great13 c) rfl rfl (by first | exact wk_refls _ | (repeat constructor)) ?_
  cases greatB c with
  | true =>
    simp (config := { maxSteps := 2000000 }) only [go_sem, reduceIte, Nat.reduceEqDiff, Nat.reduceAdd, Nat.reduceLT, Nat.reduceLeDiff, Nat.reduceBEq, Nat.reduceMul, Nat.reduceSub, Nat.reduceDiv, Int.reduceNeg, Int.reduceLT, Int.reduceLE, Int.reduceEq, Int.reduceToNat, lk4]
    refine aops_pure' (works15) rfl rfl (by first | exact wk_refls _ | (repeat constructor)) ?_
    simp (config := { maxSteps := 2000000 }) only [go_sem, reduceIte, Nat.reduceEqDiff, Nat.reduceAdd, Nat.reduceLT, Nat.reduceLeDiff, Nat.reduceBEq, Nat.reduceMul, Nat.reduceSub, Nat.reduceDiv, Int.reduceNeg, Int.reduceLT, Int.reduceLE, Int.reduceEq, Int.reduceToNat, lk4]
  | false =>
  simp (config := { maxSteps := 2000000 }) only [go_sem, reduceIte, Nat.reduceEqDiff, Nat.reduceAdd, Nat.reduceLT, Nat.reduceLeDiff, Nat.reduceBEq, Nat.reduceMul, Nat.reduceSub, Nat.reduceDiv, Int.reduceNeg, Int.reduceLT, Int.reduceLE, Int.reduceEq, Int.reduceToNat, lk4]
  by_cases h1 : (20 : Int) < a.length
  · simp (config := { maxSteps := 2000000 }) only [go_sem, reduceIte, Nat.reduceEqDiff, Nat.reduceAdd, Nat.reduceLT, Nat.reduceLeDiff, Nat.reduceBEq, Nat.reduceMul, Nat.reduceSub, Nat.reduceDiv, Int.reduceNeg, Int.reduceLT, Int.reduceLE, Int.reduceEq, Int.reduceToNat, lk4, h1]
    refine aops_pure' (works15) rfl rfl (by first | exact wk_refls _ | (repeat constructor)) ?_
    simp (config := { maxSteps := 2000000 }) only [go_sem, reduceIte, Nat.reduceEqDiff, Nat.reduceAdd, Nat.reduceLT, Nat.reduceLeDiff, Nat.reduceBEq, Nat.reduceMul, Nat.reduceSub, Nat.reduceDiv, Int.reduceNeg, Int.reduceLT, Int.reduceLE, Int.reduceEq, Int.reduceToNat, lk4]
  by_cases h2 : (20 : Int) < b.length
  · simp (config := { maxSteps := 2000000 }) only [go_sem, reduceIte, Nat.reduceEqDiff, Nat.reduceAdd, Nat.reduceLT, Nat.reduceLeDiff, Nat.reduceBEq, Nat.reduceMul, Nat.reduceSub, Nat.reduceDiv, Int.reduceNeg, Int.reduceLT, Int.reduceLE, Int.reduceEq, Int.reduceToNat, lk4, h1, h2]
    refine aops_pure' (works15) rfl rfl (by first | exact wk_refls _ | (repeat constructor)) ?_
    simp (config := { maxSteps := 2000000 }) only [go_sem, reduceIte, Nat.reduceEqDiff, Nat.reduceAdd, Nat.reduceLT, Nat.reduceLeDiff, Nat.reduceBEq, Nat.reduceMul, Nat.reduceSub, Nat.reduceDiv, Int.reduceNeg, Int.reduceLT, Int.reduceLE, Int.reduceEq, Int.reduceToNat, lk4]
  simp (config := { maxSteps := 2000000 }) only [go_sem, reduceIte, Nat.reduceEqDiff, Nat.reduceAdd, Nat.reduceLT, Nat.reduceLeDiff, Nat.reduceBEq, Nat.reduceMul, Nat.reduceSub, Nat.reduceDiv, Int.reduceNeg, Int.reduceLT, Int.reduceLE, Int.reduceEq, Int.reduceToNat, lk4, h1, h2, csC]
  refine aops_pure' (apart24 c a b) rfl rfl (by first | exact wk_refls _ | (repeat constructor)) ?_
  simp (config := { maxSteps := 2000000 }) only [go_sem, reduceIte, Nat.reduceEqDiff, Nat.reduceAdd, Nat.reduceLT, Nat.reduceLeDiff, Nat.reduceBEq, Nat.reduceMul, Nat.reduceSub, Nat.reduceDiv, Int.reduceNeg, Int.reduceLT, Int.reduceLE, Int.reduceEq, Int.reduceToNat, lk4, apaV, csC]
  refine aops_pure' (apart25 c a b) rfl rfl (by first | exact wk_refls _ | (repeat constructor)) ?_
  simp (config := { maxSteps := 2000000 }) only [go_sem, reduceIte, Nat.reduceEqDiff, Nat.reduceAdd, Nat.reduceLT, Nat.reduceLeDiff, Nat.reduceBEq, Nat.reduceMul, Nat.reduceSub, Nat.reduceDiv, Int.reduceNeg, Int.reduceLT, Int.reduceLE, Int.reduceEq, Int.reduceToNat, lk4, apaV, csC]
  by_cases h : okChips c a b = 0
  case neg =>
    obtain ⟨e1, e2⟩ := partR_bad h
    rw [pgV_of e1] at hp26
    rw [e2] at hp29
    refine aops_pure' (hp26) rfl rfl (by first | exact wk_refls _ | (repeat constructor)) ?_
    simp (config := { maxSteps := 2000000 }) only [go_sem, reduceIte, Nat.reduceEqDiff, Nat.reduceAdd, Nat.reduceLT, Nat.reduceLeDiff, Nat.reduceBEq, Nat.reduceMul, Nat.reduceSub, Nat.reduceDiv, Int.reduceNeg, Int.reduceLT, Int.reduceLE, Int.reduceEq, Int.reduceToNat, lk4, csC, trV, trC]
    refine dops_pure' (ranges23 (apaL c a b) (apaL c a b)) rfl rfl (by first | exact wk_refls _ | (repeat constructor)) (by kernel_rfl) ?_
    simp (config := { maxSteps := 2000000 }) only [go_sem, reduceIte, Nat.reduceEqDiff, Nat.reduceAdd, Nat.reduceLT, Nat.reduceLeDiff, Nat.reduceBEq, Nat.reduceMul, Nat.reduceSub, Nat.reduceDiv, Int.reduceNeg, Int.reduceLT, Int.reduceLE, Int.reduceEq, Int.reduceToNat, lk4, csC]
    refine dops_pure' (hs27) rfl rfl (by first | exact wk_refls _ | (repeat constructor)) (by kernel_rfl) ?_
    simp (config := { maxSteps := 2000000 }) only [go_sem, reduceIte, Nat.reduceEqDiff, Nat.reduceAdd, Nat.reduceLT, Nat.reduceLeDiff, Nat.reduceBEq, Nat.reduceMul, Nat.reduceSub, Nat.reduceDiv, Int.reduceNeg, Int.reduceLT, Int.reduceLE, Int.reduceEq, Int.reduceToNat, lk4, csC]
    refine dops_pure' (hs28) rfl rfl (by first | exact wk_refls _ | (repeat constructor)) (by kernel_rfl) ?_
    simp (config := { maxSteps := 2000000 }) only [go_sem, reduceIte, Nat.reduceEqDiff, Nat.reduceAdd, Nat.reduceLT, Nat.reduceLeDiff, Nat.reduceBEq, Nat.reduceMul, Nat.reduceSub, Nat.reduceDiv, Int.reduceNeg, Int.reduceLT, Int.reduceLE, Int.reduceEq, Int.reduceToNat, lk4, csC]
    refine dops_pure' (hp29) rfl rfl (by first | exact wk_refls _ | (repeat constructor)) (by kernel_rfl) ?_
    simp (config := { maxSteps := 2000000 }) only [go_sem, reduceIte, Nat.reduceEqDiff, Nat.reduceAdd, Nat.reduceLT, Nat.reduceLeDiff, Nat.reduceBEq, Nat.reduceMul, Nat.reduceSub, Nat.reduceDiv, Int.reduceNeg, Int.reduceLT, Int.reduceLE, Int.reduceEq, Int.reduceToNat, lk4, h, y0]
    refine aops_pure' (works15) rfl rfl (by first | exact wk_refls _ | (repeat constructor)) ?_
    simp (config := { maxSteps := 2000000 }) only [go_sem, reduceIte, Nat.reduceEqDiff, Nat.reduceAdd, Nat.reduceLT, Nat.reduceLeDiff, Nat.reduceBEq, Nat.reduceMul, Nat.reduceSub, Nat.reduceDiv, Int.reduceNeg, Int.reduceLT, Int.reduceLE, Int.reduceEq, Int.reduceToNat, lk4]
  cases hp : partB c (lessL a b) with
  | false =>
    obtain ⟨e1, e2, e3⟩ := partR_none h hp
    rw [pgV_of e1] at hp26
    rw [e2] at hp29
    refine aops_pure' (hp26) rfl rfl (by first | exact wk_refls _ | (repeat constructor)) ?_
    simp (config := { maxSteps := 2000000 }) only [go_sem, reduceIte, Nat.reduceEqDiff, Nat.reduceAdd, Nat.reduceLT, Nat.reduceLeDiff, Nat.reduceBEq, Nat.reduceMul, Nat.reduceSub, Nat.reduceDiv, Int.reduceNeg, Int.reduceLT, Int.reduceLE, Int.reduceEq, Int.reduceToNat, lk4, csC, trV, trC]
    refine dops_pure' (ranges23 (apaL c a b) (apaL c a b)) rfl rfl (by first | exact wk_refls _ | (repeat constructor)) (by kernel_rfl) ?_
    simp (config := { maxSteps := 2000000 }) only [go_sem, reduceIte, Nat.reduceEqDiff, Nat.reduceAdd, Nat.reduceLT, Nat.reduceLeDiff, Nat.reduceBEq, Nat.reduceMul, Nat.reduceSub, Nat.reduceDiv, Int.reduceNeg, Int.reduceLT, Int.reduceLE, Int.reduceEq, Int.reduceToNat, lk4, csC]
    refine dops_pure' (hs27) rfl rfl (by first | exact wk_refls _ | (repeat constructor)) (by kernel_rfl) ?_
    simp (config := { maxSteps := 2000000 }) only [go_sem, reduceIte, Nat.reduceEqDiff, Nat.reduceAdd, Nat.reduceLT, Nat.reduceLeDiff, Nat.reduceBEq, Nat.reduceMul, Nat.reduceSub, Nat.reduceDiv, Int.reduceNeg, Int.reduceLT, Int.reduceLE, Int.reduceEq, Int.reduceToNat, lk4, csC]
    refine dops_pure' (hs28) rfl rfl (by first | exact wk_refls _ | (repeat constructor)) (by kernel_rfl) ?_
    simp (config := { maxSteps := 2000000 }) only [go_sem, reduceIte, Nat.reduceEqDiff, Nat.reduceAdd, Nat.reduceLT, Nat.reduceLeDiff, Nat.reduceBEq, Nat.reduceMul, Nat.reduceSub, Nat.reduceDiv, Int.reduceNeg, Int.reduceLT, Int.reduceLE, Int.reduceEq, Int.reduceToNat, lk4, csC]
    refine dops_pure' (hp29) rfl rfl (by first | exact wk_refls _ | (repeat constructor)) (by kernel_rfl) ?_
    simp (config := { maxSteps := 2000000 }) only [go_sem, reduceIte, Nat.reduceEqDiff, Nat.reduceAdd, Nat.reduceLT, Nat.reduceLeDiff, Nat.reduceBEq, Nat.reduceMul, Nat.reduceSub, Nat.reduceDiv, Int.reduceNeg, Int.reduceLT, Int.reduceLE, Int.reduceEq, Int.reduceToNat, lk4, y0]
    refine aops_pure' (works15) rfl rfl (by first | exact wk_refls _ | (repeat constructor)) ?_
    simp (config := { maxSteps := 2000000 }) only [go_sem, reduceIte, Nat.reduceEqDiff, Nat.reduceAdd, Nat.reduceLT, Nat.reduceLeDiff, Nat.reduceBEq, Nat.reduceMul, Nat.reduceSub, Nat.reduceDiv, Int.reduceNeg, Int.reduceLT, Int.reduceLE, Int.reduceEq, Int.reduceToNat, lk4]
  | true =>
    obtain ⟨e1, e2, e3⟩ := partR_some h hp
    obtain ⟨hc, ha, hb⟩ := (okChips_iff c a b).1 h
    obtain ⟨hsa, hna⟩ := chip_spec hc ha
    obtain ⟨hsb, hnb⟩ := chip_spec hc hb
    have hT := partT_ok hc (partP c (lessL a b))
    have hne : ¬ seeL (pX (partT c (partP c (lessL a b)))) a = seeL (pX (partT c (partP c (lessL a b)))) b := fun he => by
      obtain ⟨k, hk, h0⟩ := part_parts hc (by rw [lessL_len]; exact hna) hp
      exact h0 ((seeL_eq (by omega)).1 he k hk)
    have ht30 := checkTrue30 c (partT c (partP c (lessL a b))) hc
    rw [(okTr_iff c _).2 hT] at ht30
    have s1 := see31 (partT c (partP c (lessL a b))) a hc hT hsa (Nat.le_of_eq hna)
    have s2 := see31 (partT c (partP c (lessL a b))) b hc hT hsb (Nat.le_of_eq hnb)
    rw [pgV_of e1] at hp26
    rw [e2] at hp29
    generalize partT c (partP c (lessL a b)) = x at *
    refine aops_pure' (hp26) rfl rfl (by first | exact wk_refls _ | (repeat constructor)) ?_
    simp (config := { maxSteps := 2000000 }) only [go_sem, reduceIte, Nat.reduceEqDiff, Nat.reduceAdd, Nat.reduceLT, Nat.reduceLeDiff, Nat.reduceBEq, Nat.reduceMul, Nat.reduceSub, Nat.reduceDiv, Int.reduceNeg, Int.reduceLT, Int.reduceLE, Int.reduceEq, Int.reduceToNat, lk4, csC, trV, trC]
    refine dops_pure' (ranges23 (apaL c a b) (apaL c a b)) rfl rfl (by first | exact wk_refls _ | (repeat constructor)) (by kernel_rfl) ?_
    simp (config := { maxSteps := 2000000 }) only [go_sem, reduceIte, Nat.reduceEqDiff, Nat.reduceAdd, Nat.reduceLT, Nat.reduceLeDiff, Nat.reduceBEq, Nat.reduceMul, Nat.reduceSub, Nat.reduceDiv, Int.reduceNeg, Int.reduceLT, Int.reduceLE, Int.reduceEq, Int.reduceToNat, lk4, csC]
    refine dops_pure' (hs27) rfl rfl (by first | exact wk_refls _ | (repeat constructor)) (by kernel_rfl) ?_
    simp (config := { maxSteps := 2000000 }) only [go_sem, reduceIte, Nat.reduceEqDiff, Nat.reduceAdd, Nat.reduceLT, Nat.reduceLeDiff, Nat.reduceBEq, Nat.reduceMul, Nat.reduceSub, Nat.reduceDiv, Int.reduceNeg, Int.reduceLT, Int.reduceLE, Int.reduceEq, Int.reduceToNat, lk4, csC]
    refine dops_pure' (hs28) rfl rfl (by first | exact wk_refls _ | (repeat constructor)) (by kernel_rfl) ?_
    simp (config := { maxSteps := 2000000 }) only [go_sem, reduceIte, Nat.reduceEqDiff, Nat.reduceAdd, Nat.reduceLT, Nat.reduceLeDiff, Nat.reduceBEq, Nat.reduceMul, Nat.reduceSub, Nat.reduceDiv, Int.reduceNeg, Int.reduceLT, Int.reduceLE, Int.reduceEq, Int.reduceToNat, lk4, csC]
    refine dops_pure' (hp29) rfl rfl (by first | exact wk_refls _ | (repeat constructor)) (by kernel_rfl) ?_
    simp (config := { maxSteps := 2000000 }) only [go_sem, reduceIte, Nat.reduceEqDiff, Nat.reduceAdd, Nat.reduceLT, Nat.reduceLeDiff, Nat.reduceBEq, Nat.reduceMul, Nat.reduceSub, Nat.reduceDiv, Int.reduceNeg, Int.reduceLT, Int.reduceLE, Int.reduceEq, Int.reduceToNat, lk4, trC, csC]
    refine dops_pure' (ht30) rfl rfl (by first | exact wk_refls _ | (repeat constructor)) (by kernel_rfl) ?_
    simp (config := { maxSteps := 2000000 }) only [go_sem, reduceIte, Nat.reduceEqDiff, Nat.reduceAdd, Nat.reduceLT, Nat.reduceLeDiff, Nat.reduceBEq, Nat.reduceMul, Nat.reduceSub, Nat.reduceDiv, Int.reduceNeg, Int.reduceLT, Int.reduceLE, Int.reduceEq, Int.reduceToNat, lk4, trC, csC]
    refine dops_pure' (s1) rfl rfl (by first | exact wk_refls _ | (repeat constructor)) (by kernel_rfl) ?_
    simp (config := { maxSteps := 2000000 }) only [go_sem, reduceIte, Nat.reduceEqDiff, Nat.reduceAdd, Nat.reduceLT, Nat.reduceLeDiff, Nat.reduceBEq, Nat.reduceMul, Nat.reduceSub, Nat.reduceDiv, Int.reduceNeg, Int.reduceLT, Int.reduceLE, Int.reduceEq, Int.reduceToNat, lk4, trC, csC]
    refine dops_pure' (s2) rfl rfl (by first | exact wk_refls _ | (repeat constructor)) (by kernel_rfl) ?_
    simp (config := { maxSteps := 2000000 }) only [go_sem, reduceIte, Nat.reduceEqDiff, Nat.reduceAdd, Nat.reduceLT, Nat.reduceLeDiff, Nat.reduceBEq, Nat.reduceMul, Nat.reduceSub, Nat.reduceDiv, Int.reduceNeg, Int.reduceLT, Int.reduceLE, Int.reduceEq, Int.reduceToNat, lk4, trC, csC]
    refine dops_pure' (longs22 (seeL (pX x) a) (seeL (pX x) b)) rfl rfl (by first | exact wk_refls _ | (repeat constructor)) (by kernel_rfl) ?_
    simp (config := { maxSteps := 2000000 }) only [go_sem, reduceIte, Nat.reduceEqDiff, Nat.reduceAdd, Nat.reduceLT, Nat.reduceLeDiff, Nat.reduceBEq, Nat.reduceMul, Nat.reduceSub, Nat.reduceDiv, Int.reduceNeg, Int.reduceLT, Int.reduceLE, Int.reduceEq, Int.reduceToNat, lk4, hne]
    refine dops_pure' (works15) rfl rfl (by first | exact wk_refls _ | (repeat constructor)) (by kernel_rfl) ?_
    simp (config := { maxSteps := 2000000 }) only [go_sem, reduceIte, Nat.reduceEqDiff, Nat.reduceAdd, Nat.reduceLT, Nat.reduceLeDiff, Nat.reduceBEq, Nat.reduceMul, Nat.reduceSub, Nat.reduceDiv, Int.reduceNeg, Int.reduceLT, Int.reduceLE, Int.reduceEq, Int.reduceToNat, lk4]
end Go.Proofs.Ytjkpfojkkfopmaa
