/- Metamers: the laws that compare. -/
import Derived.Test.YtjkpfojkkfopmaaM19
set_option linter.unusedSimpArgs false
set_option linter.unusedVariables false
set_option maxRecDepth 100000
namespace Go.Proofs.Ytjkpfojkkfopmaa
open Go Go.Abs Go.Proofs
def kp3 : List (Nat × List Nat) := [(0, [2, 3, 4]), (1, [2, 3, 4, 25]), (2, [6]), (3, [2, 3, 4, 7, 8]), (4, [2, 3, 7, 8, 9, 10]), (5, [2, 3, 7, 8, 9, 10, 11, 12]), (6, [3, 7, 8, 9, 10, 11, 12, 13, 14]), (7, [6])]
theorem lk3 : lookK kp3 0 = some [2, 3, 4] ∧ lookK kp3 1 = some [2, 3, 4, 25] ∧ lookK kp3 2 = some [6] ∧ lookK kp3 3 = some [2, 3, 4, 7, 8] ∧ lookK kp3 4 = some [2, 3, 7, 8, 9, 10] ∧ lookK kp3 5 = some [2, 3, 7, 8, 9, 10, 11, 12] ∧ lookK kp3 6 = some [3, 7, 8, 9, 10, 11, 12, 13, 14] ∧ lookK kp3 7 = some [6] := ⟨rfl, rfl, rfl, rfl, rfl, rfl, rfl, rfl⟩
def kp5 : List (Nat × List Nat) := [(0, [1, 2, 3]), (1, [1, 2, 3, 21]), (2, [6]), (3, [1, 2, 3, 7, 8]), (4, [2, 3, 7, 8, 9, 10]), (5, [2, 3, 7, 8, 9, 10, 11, 12]), (6, [3, 7, 8, 9, 10, 11, 12, 13, 14]), (7, [6])]
theorem lk5 : lookK kp5 0 = some [1, 2, 3] ∧ lookK kp5 1 = some [1, 2, 3, 21] ∧ lookK kp5 2 = some [6] ∧ lookK kp5 3 = some [1, 2, 3, 7, 8] ∧ lookK kp5 4 = some [2, 3, 7, 8, 9, 10] ∧ lookK kp5 5 = some [2, 3, 7, 8, 9, 10, 11, 12] ∧ lookK kp5 6 = some [3, 7, 8, 9, 10, 11, 12, 13, 14] ∧ lookK kp5 7 = some [6] := ⟨rfl, rfl, rfl, rfl, rfl, rfl, rfl, rfl⟩
def kp6 : List (Nat × List Nat) := [(0, [1]), (1, [1, 10]), (2, [2]), (3, [1, 3, 4, 5]), (4, [3, 4, 5, 6, 7, 8]), (5, [2])]
theorem lk6 : lookK kp6 0 = some [1] ∧ lookK kp6 1 = some [1, 10] ∧ lookK kp6 2 = some [2] ∧ lookK kp6 3 = some [1, 3, 4, 5] ∧ lookK kp6 4 = some [3, 4, 5, 6, 7, 8] ∧ lookK kp6 5 = some [2] := ⟨rfl, rfl, rfl, rfl, rfl, rfl⟩
def kp12 : List (Nat × List Nat) := [(0, []), (1, [1]), (2, [1, 2, 3]), (3, [1, 2, 3, 4]), (4, [1, 2, 3, 4, 5, 6]), (5, [1, 2, 5, 6, 7, 8]), (6, [1, 2, 5, 6, 7, 8, 9, 10]), (7, [1, 2, 5, 6, 7, 8, 9, 10, 12]), (8, [0])]
theorem lk12 : lookK kp12 0 = some [] ∧ lookK kp12 1 = some [1] ∧ lookK kp12 2 = some [1, 2, 3] ∧ lookK kp12 3 = some [1, 2, 3, 4] ∧ lookK kp12 4 = some [1, 2, 3, 4, 5, 6] ∧ lookK kp12 5 = some [1, 2, 5, 6, 7, 8] ∧ lookK kp12 6 = some [1, 2, 5, 6, 7, 8, 9, 10] ∧ lookK kp12 7 = some [1, 2, 5, 6, 7, 8, 9, 10, 12] ∧ lookK kp12 8 = some [0] := ⟨rfl, rfl, rfl, rfl, rfl, rfl, rfl, rfl, rfl⟩

set_option maxHeartbeats 4000000 in
theorem numbersLaw (c : Cs) (x : Tr) (l : List Int) : Pure Try.prog 3 [csV c, trV x, ints l] (B true) := by
  refine pure_wkE (bad := []) (kp := kp3) (X := tx) (nt := 81) (rs := [.tmp 6]) Try.func3 rfl rfl rfl rfl mo (by kernel_rfl) rfl rfl (fun hf => ?_)
  simp (config := { maxSteps := 2000000 }) only [go_sem, reduceIte, Nat.reduceEqDiff, Nat.reduceAdd, Nat.reduceLT, Nat.reduceLeDiff, Nat.reduceBEq, Nat.reduceMul, Nat.reduceSub, Nat.reduceDiv, Int.reduceNeg, Int.reduceLT, Int.reduceLE, Int.reduceEq, Int.reduceToNat, lk3, lk5, lk6, lk12, csV, csC, trV, trC, ints]
  refine aops_pure' (great13 c) rfl rfl (by first | exact wk_refls _ | (repeat constructor)) ?_
  cases greatB c with
  | true =>
    simp (config := { maxSteps := 2000000 }) only [go_sem, reduceIte, Nat.reduceEqDiff, Nat.reduceAdd, Nat.reduceLT, Nat.reduceLeDiff, Nat.reduceBEq, Nat.reduceMul, Nat.reduceSub, Nat.reduceDiv, Int.reduceNeg, Int.reduceLT, Int.reduceLE, Int.reduceEq, Int.reduceToNat, lk3, lk5, lk6, lk12]
    refine aops_pure' (works15) rfl rfl (by first | exact wk_refls _ | (repeat constructor)) ?_
    simp (config := { maxSteps := 2000000 }) only [go_sem, reduceIte, Nat.reduceEqDiff, Nat.reduceAdd, Nat.reduceLT, Nat.reduceLeDiff, Nat.reduceBEq, Nat.reduceMul, Nat.reduceSub, Nat.reduceDiv, Int.reduceNeg, Int.reduceLT, Int.reduceLE, Int.reduceEq, Int.reduceToNat, lk3, lk5, lk6, lk12]
  | false =>
  simp (config := { maxSteps := 2000000 }) only [go_sem, reduceIte, Nat.reduceEqDiff, Nat.reduceAdd, Nat.reduceLT, Nat.reduceLeDiff, Nat.reduceBEq, Nat.reduceMul, Nat.reduceSub, Nat.reduceDiv, Int.reduceNeg, Int.reduceLT, Int.reduceLE, Int.reduceEq, Int.reduceToNat, lk3, lk5, lk6, lk12, trC]
  refine aops_pure' (great14 x) rfl rfl (by first | exact wk_refls _ | (repeat constructor)) ?_
  cases wideB x with
  | true =>
    simp (config := { maxSteps := 2000000 }) only [go_sem, reduceIte, Nat.reduceEqDiff, Nat.reduceAdd, Nat.reduceLT, Nat.reduceLeDiff, Nat.reduceBEq, Nat.reduceMul, Nat.reduceSub, Nat.reduceDiv, Int.reduceNeg, Int.reduceLT, Int.reduceLE, Int.reduceEq, Int.reduceToNat, lk3, lk5, lk6, lk12]
    refine aops_pure' (works15) rfl rfl (by first | exact wk_refls _ | (repeat constructor)) ?_
    simp (config := { maxSteps := 2000000 }) only [go_sem, reduceIte, Nat.reduceEqDiff, Nat.reduceAdd, Nat.reduceLT, Nat.reduceLeDiff, Nat.reduceBEq, Nat.reduceMul, Nat.reduceSub, Nat.reduceDiv, Int.reduceNeg, Int.reduceLT, Int.reduceLE, Int.reduceEq, Int.reduceToNat, lk3, lk5, lk6, lk12]
  | false =>
  simp (config := { maxSteps := 2000000 }) only [go_sem, reduceIte, Nat.reduceEqDiff, Nat.reduceAdd, Nat.reduceLT, Nat.reduceLeDiff, Nat.reduceBEq, Nat.reduceMul, Nat.reduceSub, Nat.reduceDiv, Int.reduceNeg, Int.reduceLT, Int.reduceLE, Int.reduceEq, Int.reduceToNat, lk3, lk5, lk6, lk12]
  refine goE_if (fun h => ?_) (fun h => ?_)
  · simp (config := { maxSteps := 2000000 }) only [go_sem, reduceIte, Nat.reduceEqDiff, Nat.reduceAdd, Nat.reduceLT, Nat.reduceLeDiff, Nat.reduceBEq, Nat.reduceMul, Nat.reduceSub, Nat.reduceDiv, Int.reduceNeg, Int.reduceLT, Int.reduceLE, Int.reduceEq, Int.reduceToNat, lk3, lk5, lk6, lk12]
    refine aops_pure' (works15) rfl rfl (by first | exact wk_refls _ | (repeat constructor)) ?_
    simp (config := { maxSteps := 2000000 }) only [go_sem, reduceIte, Nat.reduceEqDiff, Nat.reduceAdd, Nat.reduceLT, Nat.reduceLeDiff, Nat.reduceBEq, Nat.reduceMul, Nat.reduceSub, Nat.reduceDiv, Int.reduceNeg, Int.reduceLT, Int.reduceLE, Int.reduceEq, Int.reduceToNat, lk3, lk5, lk6, lk12]
  · simp (config := { maxSteps := 2000000 }) only [go_sem, reduceIte, Nat.reduceEqDiff, Nat.reduceAdd, Nat.reduceLT, Nat.reduceLeDiff, Nat.reduceBEq, Nat.reduceMul, Nat.reduceSub, Nat.reduceDiv, Int.reduceNeg, Int.reduceLT, Int.reduceLE, Int.reduceEq, Int.reduceToNat, lk3, lk5, lk6, lk12, csC, trC]
    refine aops_pure' (numbers16 c x l) rfl rfl (by first | exact wk_refls _ | (repeat constructor)) ?_
    simp (config := { maxSteps := 2000000 }) only [go_sem, reduceIte, Nat.reduceEqDiff, Nat.reduceAdd, Nat.reduceLT, Nat.reduceLeDiff, Nat.reduceBEq, Nat.reduceMul, Nat.reduceSub, Nat.reduceDiv, Int.reduceNeg, Int.reduceLT, Int.reduceLE, Int.reduceEq, Int.reduceToNat, lk3, lk5, lk6, lk12, numV, csC, trC]
    refine aops_pure' (numbers17 c x l) rfl rfl (by first | exact wk_refls _ | (repeat constructor)) ?_
    simp (config := { maxSteps := 2000000 }) only [go_sem, reduceIte, Nat.reduceEqDiff, Nat.reduceAdd, Nat.reduceLT, Nat.reduceLeDiff, Nat.reduceBEq, Nat.reduceMul, Nat.reduceSub, Nat.reduceDiv, Int.reduceNeg, Int.reduceLT, Int.reduceLE, Int.reduceEq, Int.reduceToNat, lk3, lk5, lk6, lk12, numV, csC]
    refine aops_pure' (spans18 c l) rfl rfl (by first | exact wk_refls _ | (repeat constructor)) ?_
    simp (config := { maxSteps := 2000000 }) only [go_sem, reduceIte, Nat.reduceEqDiff, Nat.reduceAdd, Nat.reduceLT, Nat.reduceLeDiff, Nat.reduceBEq, Nat.reduceMul, Nat.reduceSub, Nat.reduceDiv, Int.reduceNeg, Int.reduceLT, Int.reduceLE, Int.reduceEq, Int.reduceToNat, lk3, lk5, lk6, lk12, spaV, csC]
    refine aops_pure' (spans19 c l) rfl rfl (by first | exact wk_refls _ | (repeat constructor)) ?_
    simp (config := { maxSteps := 2000000 }) only [go_sem, reduceIte, Nat.reduceEqDiff, Nat.reduceAdd, Nat.reduceLT, Nat.reduceLeDiff, Nat.reduceBEq, Nat.reduceMul, Nat.reduceSub, Nat.reduceDiv, Int.reduceNeg, Int.reduceLT, Int.reduceLE, Int.reduceEq, Int.reduceToNat, lk3, lk5, lk6, lk12, spaV, csC]
    refine dops_pure' (checkCase20 c) rfl rfl (by first | exact wk_refls _ | (repeat constructor)) (by kernel_rfl) ?_
    simp (config := { maxSteps := 2000000 }) only [go_sem, reduceIte, Nat.reduceEqDiff, Nat.reduceAdd, Nat.reduceLT, Nat.reduceLeDiff, Nat.reduceBEq, Nat.reduceMul, Nat.reduceSub, Nat.reduceDiv, Int.reduceNeg, Int.reduceLT, Int.reduceLE, Int.reduceEq, Int.reduceToNat, lk3, lk5, lk6, lk12, csC]
    refine dops_pure' (checkCase21 c) rfl rfl (by first | exact wk_refls _ | (repeat constructor)) (by kernel_rfl) ?_
    simp (config := { maxSteps := 2000000 }) only [go_sem, reduceIte, Nat.reduceEqDiff, Nat.reduceAdd, Nat.reduceLT, Nat.reduceLeDiff, Nat.reduceBEq, Nat.reduceMul, Nat.reduceSub, Nat.reduceDiv, Int.reduceNeg, Int.reduceLT, Int.reduceLE, Int.reduceEq, Int.reduceToNat, lk3, lk5, lk6, lk12]
    refine dops_pure' (longs22 (numL c x l) (numL c x l)) rfl rfl (by first | exact wk_refls _ | (repeat constructor)) (by kernel_rfl) ?_
    simp (config := { maxSteps := 2000000 }) only [go_sem, reduceIte, Nat.reduceEqDiff, Nat.reduceAdd, Nat.reduceLT, Nat.reduceLeDiff, Nat.reduceBEq, Nat.reduceMul, Nat.reduceSub, Nat.reduceDiv, Int.reduceNeg, Int.reduceLT, Int.reduceLE, Int.reduceEq, Int.reduceToNat, lk3, lk5, lk6, lk12]
    refine dops_pure' (ranges23 (if chip1 c l = 0 then spansL c l else []) (if chip1 c l = 0 then spansL c l else [])) rfl rfl (by first | exact wk_refls _ | (repeat constructor)) (by kernel_rfl) ?_
    simp (config := { maxSteps := 2000000 }) only [go_sem, reduceIte, Nat.reduceEqDiff, Nat.reduceAdd, Nat.reduceLT, Nat.reduceLeDiff, Nat.reduceBEq, Nat.reduceMul, Nat.reduceSub, Nat.reduceDiv, Int.reduceNeg, Int.reduceLT, Int.reduceLE, Int.reduceEq, Int.reduceToNat, lk3, lk5, lk6, lk12]
    refine dops_pure' (works15) rfl rfl (by first | exact wk_refls _ | (repeat constructor)) (by kernel_rfl) ?_
    simp (config := { maxSteps := 2000000 }) only [go_sem, reduceIte, Nat.reduceEqDiff, Nat.reduceAdd, Nat.reduceLT, Nat.reduceLeDiff, Nat.reduceBEq, Nat.reduceMul, Nat.reduceSub, Nat.reduceDiv, Int.reduceNeg, Int.reduceLT, Int.reduceLE, Int.reduceEq, Int.reduceToNat, lk3, lk5, lk6, lk12]
set_option maxHeartbeats 4000000 in
theorem fitsLaw (p : Pal) (s : Int) (l : List Int) : Pure Try.prog 5 [palV p, I s, ints l] (B true) := by
  refine pure_wkE (bad := []) (kp := kp5) (X := tx) (nt := 75) (rs := [.tmp 6]) Try.func5 rfl rfl rfl rfl mo (by kernel_rfl) rfl rfl (fun hf => ?_)
  simp (config := { maxSteps := 2000000 }) only [go_sem, reduceIte, Nat.reduceEqDiff, Nat.reduceAdd, Nat.reduceLT, Nat.reduceLeDiff, Nat.reduceBEq, Nat.reduceMul, Nat.reduceSub, Nat.reduceDiv, Int.reduceNeg, Int.reduceLT, Int.reduceLE, Int.reduceEq, Int.reduceToNat, lk3, lk5, lk6, lk12, palV, palC, ints]
  refine aops_pure' (broad32 p 8) rfl rfl (by first | exact wk_refls _ | (repeat constructor)) ?_
  cases broadB p 8 with
  | true =>
    simp (config := { maxSteps := 2000000 }) only [go_sem, reduceIte, Nat.reduceEqDiff, Nat.reduceAdd, Nat.reduceLT, Nat.reduceLeDiff, Nat.reduceBEq, Nat.reduceMul, Nat.reduceSub, Nat.reduceDiv, Int.reduceNeg, Int.reduceLT, Int.reduceLE, Int.reduceEq, Int.reduceToNat, lk3, lk5, lk6, lk12]
    refine aops_pure' (works15) rfl rfl (by first | exact wk_refls _ | (repeat constructor)) ?_
    simp (config := { maxSteps := 2000000 }) only [go_sem, reduceIte, Nat.reduceEqDiff, Nat.reduceAdd, Nat.reduceLT, Nat.reduceLeDiff, Nat.reduceBEq, Nat.reduceMul, Nat.reduceSub, Nat.reduceDiv, Int.reduceNeg, Int.reduceLT, Int.reduceLE, Int.reduceEq, Int.reduceToNat, lk3, lk5, lk6, lk12]
  | false =>
  simp (config := { maxSteps := 2000000 }) only [go_sem, reduceIte, Nat.reduceEqDiff, Nat.reduceAdd, Nat.reduceLT, Nat.reduceLeDiff, Nat.reduceBEq, Nat.reduceMul, Nat.reduceSub, Nat.reduceDiv, Int.reduceNeg, Int.reduceLT, Int.reduceLE, Int.reduceEq, Int.reduceToNat, lk3, lk5, lk6, lk12]
  refine goE_if (fun h => ?_) (fun h => ?_)
  · simp (config := { maxSteps := 2000000 }) only [go_sem, reduceIte, Nat.reduceEqDiff, Nat.reduceAdd, Nat.reduceLT, Nat.reduceLeDiff, Nat.reduceBEq, Nat.reduceMul, Nat.reduceSub, Nat.reduceDiv, Int.reduceNeg, Int.reduceLT, Int.reduceLE, Int.reduceEq, Int.reduceToNat, lk3, lk5, lk6, lk12]
    refine aops_pure' (works15) rfl rfl (by first | exact wk_refls _ | (repeat constructor)) ?_
    simp (config := { maxSteps := 2000000 }) only [go_sem, reduceIte, Nat.reduceEqDiff, Nat.reduceAdd, Nat.reduceLT, Nat.reduceLeDiff, Nat.reduceBEq, Nat.reduceMul, Nat.reduceSub, Nat.reduceDiv, Int.reduceNeg, Int.reduceLT, Int.reduceLE, Int.reduceEq, Int.reduceToNat, lk3, lk5, lk6, lk12]
  · simp (config := { maxSteps := 2000000 }) only [go_sem, reduceIte, Nat.reduceEqDiff, Nat.reduceAdd, Nat.reduceLT, Nat.reduceLeDiff, Nat.reduceBEq, Nat.reduceMul, Nat.reduceSub, Nat.reduceDiv, Int.reduceNeg, Int.reduceLT, Int.reduceLE, Int.reduceEq, Int.reduceToNat, lk3, lk5, lk6, lk12, palC]
    refine aops_pure' (mix33 p s) rfl rfl (by first | exact wk_refls _ | (repeat constructor)) ?_
    simp (config := { maxSteps := 2000000 }) only [go_sem, reduceIte, Nat.reduceEqDiff, Nat.reduceAdd, Nat.reduceLT, Nat.reduceLeDiff, Nat.reduceBEq, Nat.reduceMul, Nat.reduceSub, Nat.reduceDiv, Int.reduceNeg, Int.reduceLT, Int.reduceLE, Int.reduceEq, Int.reduceToNat, lk3, lk5, lk6, lk12, mixV, palC]
    refine aops_pure' (mix34 p s) rfl rfl (by first | exact wk_refls _ | (repeat constructor)) ?_
    simp (config := { maxSteps := 2000000 }) only [go_sem, reduceIte, Nat.reduceEqDiff, Nat.reduceAdd, Nat.reduceLT, Nat.reduceLeDiff, Nat.reduceBEq, Nat.reduceMul, Nat.reduceSub, Nat.reduceDiv, Int.reduceNeg, Int.reduceLT, Int.reduceLE, Int.reduceEq, Int.reduceToNat, lk3, lk5, lk6, lk12, mixV, palC]
    refine aops_pure' (fit35 p l) rfl rfl (by first | exact wk_refls _ | (repeat constructor)) ?_
    simp (config := { maxSteps := 2000000 }) only [go_sem, reduceIte, Nat.reduceEqDiff, Nat.reduceAdd, Nat.reduceLT, Nat.reduceLeDiff, Nat.reduceBEq, Nat.reduceMul, Nat.reduceSub, Nat.reduceDiv, Int.reduceNeg, Int.reduceLT, Int.reduceLE, Int.reduceEq, Int.reduceToNat, lk3, lk5, lk6, lk12, fitV', palC]
    refine aops_pure' (fit36 p l) rfl rfl (by first | exact wk_refls _ | (repeat constructor)) ?_
    simp (config := { maxSteps := 2000000 }) only [go_sem, reduceIte, Nat.reduceEqDiff, Nat.reduceAdd, Nat.reduceLT, Nat.reduceLeDiff, Nat.reduceBEq, Nat.reduceMul, Nat.reduceSub, Nat.reduceDiv, Int.reduceNeg, Int.reduceLT, Int.reduceLE, Int.reduceEq, Int.reduceToNat, lk3, lk5, lk6, lk12, fitV', palC]
    refine dops_pure' (checkPal37 p) rfl rfl (by first | exact wk_refls _ | (repeat constructor)) (by kernel_rfl) ?_
    simp (config := { maxSteps := 2000000 }) only [go_sem, reduceIte, Nat.reduceEqDiff, Nat.reduceAdd, Nat.reduceLT, Nat.reduceLeDiff, Nat.reduceBEq, Nat.reduceMul, Nat.reduceSub, Nat.reduceDiv, Int.reduceNeg, Int.reduceLT, Int.reduceLE, Int.reduceEq, Int.reduceToNat, lk3, lk5, lk6, lk12, palC]
    refine dops_pure' (checkPal38 p) rfl rfl (by first | exact wk_refls _ | (repeat constructor)) (by kernel_rfl) ?_
    simp (config := { maxSteps := 2000000 }) only [go_sem, reduceIte, Nat.reduceEqDiff, Nat.reduceAdd, Nat.reduceLT, Nat.reduceLeDiff, Nat.reduceBEq, Nat.reduceMul, Nat.reduceSub, Nat.reduceDiv, Int.reduceNeg, Int.reduceLT, Int.reduceLE, Int.reduceEq, Int.reduceToNat, lk3, lk5, lk6, lk12]
    refine dops_pure' (longs22 (if mixE p s = 0 then sumL p s.toNat else []) (if mixE p s = 0 then sumL p s.toNat else [])) rfl rfl (by first | exact wk_refls _ | (repeat constructor)) (by kernel_rfl) ?_
    simp (config := { maxSteps := 2000000 }) only [go_sem, reduceIte, Nat.reduceEqDiff, Nat.reduceAdd, Nat.reduceLT, Nat.reduceLeDiff, Nat.reduceBEq, Nat.reduceMul, Nat.reduceSub, Nat.reduceDiv, Int.reduceNeg, Int.reduceLT, Int.reduceLE, Int.reduceEq, Int.reduceToNat, lk3, lk5, lk6, lk12]
    refine dops_pure' (ints39 (if fitE p l = 0 then fitN p l (2 ^ p.pig.length) else []) (if fitE p l = 0 then fitN p l (2 ^ p.pig.length) else [])) rfl rfl (by first | exact wk_refls _ | (repeat constructor)) (by kernel_rfl) ?_
    simp (config := { maxSteps := 2000000 }) only [go_sem, reduceIte, Nat.reduceEqDiff, Nat.reduceAdd, Nat.reduceLT, Nat.reduceLeDiff, Nat.reduceBEq, Nat.reduceMul, Nat.reduceSub, Nat.reduceDiv, Int.reduceNeg, Int.reduceLT, Int.reduceLE, Int.reduceEq, Int.reduceToNat, lk3, lk5, lk6, lk12]
    refine dops_pure' (works15) rfl rfl (by first | exact wk_refls _ | (repeat constructor)) (by kernel_rfl) ?_
    simp (config := { maxSteps := 2000000 }) only [go_sem, reduceIte, Nat.reduceEqDiff, Nat.reduceAdd, Nat.reduceLT, Nat.reduceLeDiff, Nat.reduceBEq, Nat.reduceMul, Nat.reduceSub, Nat.reduceDiv, Int.reduceNeg, Int.reduceLT, Int.reduceLE, Int.reduceEq, Int.reduceToNat, lk3, lk5, lk6, lk12]
set_option maxHeartbeats 4000000 in
theorem clashesLaw (p : Pal) : Pure Try.prog 6 [palV p] (B true) := by
  refine pure_wkE (bad := []) (kp := kp6) (X := tx) (nt := 40) (rs := [.tmp 2]) Try.func6 rfl rfl rfl rfl mo (by kernel_rfl) rfl rfl (fun hf => ?_)
  simp (config := { maxSteps := 2000000 }) only [go_sem, reduceIte, Nat.reduceEqDiff, Nat.reduceAdd, Nat.reduceLT, Nat.reduceLeDiff, Nat.reduceBEq, Nat.reduceMul, Nat.reduceSub, Nat.reduceDiv, Int.reduceNeg, Int.reduceLT, Int.reduceLE, Int.reduceEq, Int.reduceToNat, lk3, lk5, lk6, lk12, palV, palC]
  refine aops_pure' (broad32 p 6) rfl rfl (by first | exact wk_refls _ | (repeat constructor)) ?_
  cases broadB p 6 with
  | true =>
    simp (config := { maxSteps := 2000000 }) only [go_sem, reduceIte, Nat.reduceEqDiff, Nat.reduceAdd, Nat.reduceLT, Nat.reduceLeDiff, Nat.reduceBEq, Nat.reduceMul, Nat.reduceSub, Nat.reduceDiv, Int.reduceNeg, Int.reduceLT, Int.reduceLE, Int.reduceEq, Int.reduceToNat, lk3, lk5, lk6, lk12]
    refine aops_pure' (works15) rfl rfl (by first | exact wk_refls _ | (repeat constructor)) ?_
    simp (config := { maxSteps := 2000000 }) only [go_sem, reduceIte, Nat.reduceEqDiff, Nat.reduceAdd, Nat.reduceLT, Nat.reduceLeDiff, Nat.reduceBEq, Nat.reduceMul, Nat.reduceSub, Nat.reduceDiv, Int.reduceNeg, Int.reduceLT, Int.reduceLE, Int.reduceEq, Int.reduceToNat, lk3, lk5, lk6, lk12]
  | false =>
  simp (config := { maxSteps := 2000000 }) only [go_sem, reduceIte, Nat.reduceEqDiff, Nat.reduceAdd, Nat.reduceLT, Nat.reduceLeDiff, Nat.reduceBEq, Nat.reduceMul, Nat.reduceSub, Nat.reduceDiv, Int.reduceNeg, Int.reduceLT, Int.reduceLE, Int.reduceEq, Int.reduceToNat, lk3, lk5, lk6, lk12, palC]
  refine aops_pure' (clash40 p) rfl rfl (by first | exact wk_refls _ | (repeat constructor)) ?_
  simp (config := { maxSteps := 2000000 }) only [go_sem, reduceIte, Nat.reduceEqDiff, Nat.reduceAdd, Nat.reduceLT, Nat.reduceLeDiff, Nat.reduceBEq, Nat.reduceMul, Nat.reduceSub, Nat.reduceDiv, Int.reduceNeg, Int.reduceLT, Int.reduceLE, Int.reduceEq, Int.reduceToNat, lk3, lk5, lk6, lk12, clV, palC]
  refine aops_pure' (clash41 p) rfl rfl (by first | exact wk_refls _ | (repeat constructor)) ?_
  simp (config := { maxSteps := 2000000 }) only [go_sem, reduceIte, Nat.reduceEqDiff, Nat.reduceAdd, Nat.reduceLT, Nat.reduceLeDiff, Nat.reduceBEq, Nat.reduceMul, Nat.reduceSub, Nat.reduceDiv, Int.reduceNeg, Int.reduceLT, Int.reduceLE, Int.reduceEq, Int.reduceToNat, lk3, lk5, lk6, lk12, clV]
  refine aops_pure' (works15) rfl rfl (by first | exact wk_refls _ | (repeat constructor)) ?_
  simp (config := { maxSteps := 2000000 }) only [go_sem, reduceIte, Nat.reduceEqDiff, Nat.reduceAdd, Nat.reduceLT, Nat.reduceLeDiff, Nat.reduceBEq, Nat.reduceMul, Nat.reduceSub, Nat.reduceDiv, Int.reduceNeg, Int.reduceLT, Int.reduceLE, Int.reduceEq, Int.reduceToNat, lk3, lk5, lk6, lk12]
theorem v_num1 : numV caseC (trueT caseC []) [4, 1, 3, 0] = .tup [ints [6, 4, 6], I 0] := by kernel_rfl
theorem v_num2 : numV caseC (trueT caseC []) [2, 2, 2, 2] = .tup [ints [6, 4, 6], I 0] := by kernel_rfl
theorem v_fit : fitV' (palX 0) [5] = .tup [ints [5], I 0] := by kernel_rfl
theorem v_part : pgV caseC [4, 1, 3, 0] [4, 1, 3, 0] = .tup [trV ⟨[], []⟩, I 5] := by kernel_rfl
theorem v_sure : sureP caseC [4, 1, 3, 0] [4, 1, 3, 0] = 0 := by kernel_rfl
set_option maxHeartbeats 4000000 in
theorem knownLaw : Pure Try.prog 12 [] (B true) := by
  refine pure_wkE (bad := []) (kp := kp12) (X := tx) (nt := 84) (rs := [.tmp 0]) Try.func12 rfl rfl rfl rfl mo (by kernel_rfl) rfl rfl (fun hf => ?_)
  have h1 := numbers16 caseC (trueT caseC []) [4, 1, 3, 0]
  rw [v_num1] at h1
  have h2 := numbers16 caseC (trueT caseC []) [2, 2, 2, 2]
  rw [v_num2] at h2
  have h3 := fit35 (palX 0) [5]
  rw [v_fit] at h3
  have h4 := parting26 caseC [4, 1, 3, 0] [4, 1, 3, 0]
  rw [v_part] at h4
  have h5 := surely27 caseC [4, 1, 3, 0] [4, 1, 3, 0]
  rw [v_sure] at h5
  have h6 := true43 caseC [] okC_case (by intro x hx; simp at hx)
  simp (config := { maxSteps := 2000000 }) only [go_sem, reduceIte, Nat.reduceEqDiff, Nat.reduceAdd, Nat.reduceLT, Nat.reduceLeDiff, Nat.reduceBEq, Nat.reduceMul, Nat.reduceSub, Nat.reduceDiv, Int.reduceNeg, Int.reduceLT, Int.reduceLE, Int.reduceEq, Int.reduceToNat, lk3, lk5, lk6, lk12]
  refine aops_pure' (case49) rfl rfl (by first | exact wk_refls _ | (repeat constructor)) ?_
  simp (config := { maxSteps := 2000000 }) only [go_sem, reduceIte, Nat.reduceEqDiff, Nat.reduceAdd, Nat.reduceLT, Nat.reduceLeDiff, Nat.reduceBEq, Nat.reduceMul, Nat.reduceSub, Nat.reduceDiv, Int.reduceNeg, Int.reduceLT, Int.reduceLE, Int.reduceEq, Int.reduceToNat, lk3, lk5, lk6, lk12, csV, csC]
  refine aops_pure' (h6) rfl rfl (by first | exact wk_refls _ | (repeat constructor)) ?_
  simp (config := { maxSteps := 2000000 }) only [go_sem, reduceIte, Nat.reduceEqDiff, Nat.reduceAdd, Nat.reduceLT, Nat.reduceLeDiff, Nat.reduceBEq, Nat.reduceMul, Nat.reduceSub, Nat.reduceDiv, Int.reduceNeg, Int.reduceLT, Int.reduceLE, Int.reduceEq, Int.reduceToNat, lk3, lk5, lk6, lk12, csC, trV, trC]
  refine aops_pure' (h1) rfl rfl (by first | exact wk_refls _ | (repeat constructor)) ?_
  simp (config := { maxSteps := 2000000 }) only [go_sem, reduceIte, Nat.reduceEqDiff, Nat.reduceAdd, Nat.reduceLT, Nat.reduceLeDiff, Nat.reduceBEq, Nat.reduceMul, Nat.reduceSub, Nat.reduceDiv, Int.reduceNeg, Int.reduceLT, Int.reduceLE, Int.reduceEq, Int.reduceToNat, lk3, lk5, lk6, lk12, csC, trC]
  refine aops_pure' (h2) rfl rfl (by first | exact wk_refls _ | (repeat constructor)) ?_
  simp (config := { maxSteps := 2000000 }) only [go_sem, reduceIte, Nat.reduceEqDiff, Nat.reduceAdd, Nat.reduceLT, Nat.reduceLeDiff, Nat.reduceBEq, Nat.reduceMul, Nat.reduceSub, Nat.reduceDiv, Int.reduceNeg, Int.reduceLT, Int.reduceLE, Int.reduceEq, Int.reduceToNat, lk3, lk5, lk6, lk12, csC, trC]
  refine aops_pure' (palette50 0) rfl rfl (by first | exact wk_refls _ | (repeat constructor)) ?_
  simp (config := { maxSteps := 2000000 }) only [go_sem, reduceIte, Nat.reduceEqDiff, Nat.reduceAdd, Nat.reduceLT, Nat.reduceLeDiff, Nat.reduceBEq, Nat.reduceMul, Nat.reduceSub, Nat.reduceDiv, Int.reduceNeg, Int.reduceLT, Int.reduceLE, Int.reduceEq, Int.reduceToNat, lk3, lk5, lk6, lk12, csC, trC]
  refine aops_pure' (h3) rfl rfl (by first | exact wk_refls _ | (repeat constructor)) ?_
  simp (config := { maxSteps := 2000000 }) only [go_sem, reduceIte, Nat.reduceEqDiff, Nat.reduceAdd, Nat.reduceLT, Nat.reduceLeDiff, Nat.reduceBEq, Nat.reduceMul, Nat.reduceSub, Nat.reduceDiv, Int.reduceNeg, Int.reduceLT, Int.reduceLE, Int.reduceEq, Int.reduceToNat, lk3, lk5, lk6, lk12, csC, trC]
  refine aops_pure' (h4) rfl rfl (by first | exact wk_refls _ | (repeat constructor)) ?_
  simp (config := { maxSteps := 2000000 }) only [go_sem, reduceIte, Nat.reduceEqDiff, Nat.reduceAdd, Nat.reduceLT, Nat.reduceLeDiff, Nat.reduceBEq, Nat.reduceMul, Nat.reduceSub, Nat.reduceDiv, Int.reduceNeg, Int.reduceLT, Int.reduceLE, Int.reduceEq, Int.reduceToNat, lk3, lk5, lk6, lk12, csC, trV, trC]
  refine aops_pure' (longs22 [6, 4, 6] [6, 4, 6]) rfl rfl (by first | exact wk_refls _ | (repeat constructor)) ?_
  simp (config := { maxSteps := 2000000 }) only [go_sem, reduceIte, Nat.reduceEqDiff, Nat.reduceAdd, Nat.reduceLT, Nat.reduceLeDiff, Nat.reduceBEq, Nat.reduceMul, Nat.reduceSub, Nat.reduceDiv, Int.reduceNeg, Int.reduceLT, Int.reduceLE, Int.reduceEq, Int.reduceToNat, lk3, lk5, lk6, lk12, csC, trC]
  refine aops_pure' (longs22 [6, 4, 6] [6, 4, 6]) rfl rfl (by first | exact wk_refls _ | (repeat constructor)) ?_
  simp (config := { maxSteps := 2000000 }) only [go_sem, reduceIte, Nat.reduceEqDiff, Nat.reduceAdd, Nat.reduceLT, Nat.reduceLeDiff, Nat.reduceBEq, Nat.reduceMul, Nat.reduceSub, Nat.reduceDiv, Int.reduceNeg, Int.reduceLT, Int.reduceLE, Int.reduceEq, Int.reduceToNat, lk3, lk5, lk6, lk12, csC, trC]
  refine aops_pure' (ints39 [5] [5]) rfl rfl (by first | exact wk_refls _ | (repeat constructor)) ?_
  simp (config := { maxSteps := 2000000 }) only [go_sem, reduceIte, Nat.reduceEqDiff, Nat.reduceAdd, Nat.reduceLT, Nat.reduceLeDiff, Nat.reduceBEq, Nat.reduceMul, Nat.reduceSub, Nat.reduceDiv, Int.reduceNeg, Int.reduceLT, Int.reduceLE, Int.reduceEq, Int.reduceToNat, lk3, lk5, lk6, lk12, csC, trC]
  refine aops_pure' (h5) rfl rfl (by first | exact wk_refls _ | (repeat constructor)) ?_
  simp (config := { maxSteps := 2000000 }) only [go_sem, reduceIte, Nat.reduceEqDiff, Nat.reduceAdd, Nat.reduceLT, Nat.reduceLeDiff, Nat.reduceBEq, Nat.reduceMul, Nat.reduceSub, Nat.reduceDiv, Int.reduceNeg, Int.reduceLT, Int.reduceLE, Int.reduceEq, Int.reduceToNat, lk3, lk5, lk6, lk12]
  refine aops_pure' (works15) rfl rfl (by first | exact wk_refls _ | (repeat constructor)) ?_
  simp (config := { maxSteps := 2000000 }) only [go_sem, reduceIte, Nat.reduceEqDiff, Nat.reduceAdd, Nat.reduceLT, Nat.reduceLeDiff, Nat.reduceBEq, Nat.reduceMul, Nat.reduceSub, Nat.reduceDiv, Int.reduceNeg, Int.reduceLT, Int.reduceLE, Int.reduceEq, Int.reduceToNat, lk3, lk5, lk6, lk12]
end Go.Proofs.Ytjkpfojkkfopmaa
