/- Dyes: the statement Known. -/
import Derived.Test.YtkbnmanfoejoiaaD24
set_option linter.unusedSimpArgs false
set_option linter.unusedVariables false
set_option maxRecDepth 100000
namespace Go.Proofs.Ytkbnmanfoejoiaa
open Go Go.Abs Go.Proofs
def kp12 : List (Nat × List Nat) := [(0, []), (1, [1]), (2, [1, 2, 3, 4]), (3, [1, 2, 3, 4, 5, 6]), (4, [1, 2, 3, 4, 5, 6, 7, 8]), (5, [1, 2, 3, 4, 5, 6, 7, 8, 9, 10]), (6, [2, 3, 4, 5, 6, 8, 9, 10, 12]), (7, [0])]
theorem lk12 : lookK kp12 0 = some [] ∧ lookK kp12 1 = some [1] ∧ lookK kp12 2 = some [1, 2, 3, 4] ∧ lookK kp12 3 = some [1, 2, 3, 4, 5, 6] ∧ lookK kp12 4 = some [1, 2, 3, 4, 5, 6, 7, 8] ∧ lookK kp12 5 = some [1, 2, 3, 4, 5, 6, 7, 8, 9, 10] ∧ lookK kp12 6 = some [2, 3, 4, 5, 6, 8, 9, 10, 12] ∧ lookK kp12 7 = some [0] := ⟨rfl, rfl, rfl, rfl, rfl, rfl, rfl, rfl⟩
set_option maxHeartbeats 4000000 in
theorem knownLaw : Pure Try.prog 12 [] (B true) := by
  refine pure_wkE (bad := [10001, 10002, 10003, 10004, 10005, 10006]) (kp := kp12) (X := tx) (nt := 84) (rs := [.tmp 0]) Try.func12 rfl rfl rfl rfl mo (by kernel_rfl) rfl rfl (fun hf => ?_)
  have h38a := want38 3
  have h38b := want38 6
  have m14 := mix14 sh0 [0, 1, 4]
  rw [show mixL sh0 [0, 1, 4] = [4, 3] from rfl, show mixP sh0 [0, 1, 4] = 16 from rfl, show mixE sh0 [0, 1, 4] = 0 from rfl] at m14
  have h3 := wider22 sh0 (wt0 3)
  rw [show okWn sh0 (wt0 3) = 0 from rfl, show wiN sh0 (wt0 3) = 0 by unfold wiN; rw [if_pos (okw0 (by decide) (by decide)), wid3]; rfl] at h3
  have h5 := table28 sh0 6
  rw [show tabE sh0 6 = 0 from rfl, show tabL sh0 6 = costsL sh0 6 by unfold tabL; rw [show tabE sh0 6 = 0 from rfl, if_pos rfl]] at h5
  have h6 := checktable30 sh0 (wt0 6) (costsL sh0 6)
  have k6 := ctab_own (w := wt0 6) sh0_ok (wt0_ok (by decide) (by decide))
  rw [show (wt0 6).f = 6 from rfl] at k6
  obtain ⟨M, hM⟩ : ∃ M, M = costB sh0 (wt0 6) := ⟨_, rfl⟩
  have hM2 : decide (M = 1099511627776) = true := decide_eq_true (hM.trans (cost4 (by decide) (by decide)))
  rw [k6.1, k6.2, ← hM] at h6
  clear hM
  have h7 := checktable30 sh0 (wt0 3) (costsL sh0 6)
  rw [ctab63] at h7
  have l1 := longs20 [4, 3] [4, 3]
  rw [decide_eq_true rfl] at l1
  have hw := works13
  generalize costsL sh0 6 = tb at *
  generalize ctabN sh0 (wt0 3) tb = cn at *
  clear k6
  have hsh := shelf37
  generalize hS : sh0 = s0 at *
  generalize hW3 : wt0 3 = w3 at *
  generalize hW6 : wt0 6 = w6 at *
  simp only [I, B] at m14 h3 h5 h6 h7 l1 hw h38a h38b
  simp (config := { maxSteps := 2000000 }) only [go_sem, reduceIte, Nat.reduceEqDiff, Nat.reduceAdd, Nat.reduceLT, Nat.reduceLeDiff, Nat.reduceBEq, Nat.reduceMul, Nat.reduceSub, Nat.reduceDiv, Int.reduceNeg, Int.reduceLT, Int.reduceLE, Int.reduceEq, Int.reduceToNat, lk12]
  refine aops_pure' (hsh) rfl rfl (by first | exact wk_refls _ | (repeat constructor)) ?_
  simp (config := { maxSteps := 2000000 }) only [go_sem, reduceIte, Nat.reduceEqDiff, Nat.reduceAdd, Nat.reduceLT, Nat.reduceLeDiff, Nat.reduceBEq, Nat.reduceMul, Nat.reduceSub, Nat.reduceDiv, Int.reduceNeg, Int.reduceLT, Int.reduceLE, Int.reduceEq, Int.reduceToNat, lk12]
  refine stop_mk _ Ent.refl ?_
  simp (config := { maxSteps := 2000000 }) only [go_sem, reduceIte, Nat.reduceEqDiff, Nat.reduceAdd, Nat.reduceLT, Nat.reduceLeDiff, Nat.reduceBEq, Nat.reduceMul, Nat.reduceSub, Nat.reduceDiv, Int.reduceNeg, Int.reduceLT, Int.reduceLE, Int.reduceEq, Int.reduceToNat, lk12]
  refine aops_pure' (m14) rfl rfl (by first | exact wk_refls _ | (repeat constructor)) ?_
  simp (config := { maxSteps := 2000000 }) only [go_sem, reduceIte, Nat.reduceEqDiff, Nat.reduceAdd, Nat.reduceLT, Nat.reduceLeDiff, Nat.reduceBEq, Nat.reduceMul, Nat.reduceSub, Nat.reduceDiv, Int.reduceNeg, Int.reduceLT, Int.reduceLE, Int.reduceEq, Int.reduceToNat, lk12]
  refine stop_mk _ Ent.refl ?_
  simp (config := { maxSteps := 2000000 }) only [go_sem, reduceIte, Nat.reduceEqDiff, Nat.reduceAdd, Nat.reduceLT, Nat.reduceLeDiff, Nat.reduceBEq, Nat.reduceMul, Nat.reduceSub, Nat.reduceDiv, Int.reduceNeg, Int.reduceLT, Int.reduceLE, Int.reduceEq, Int.reduceToNat, lk12]
  refine aops_pure' (h38a) rfl rfl (by first | exact wk_refls _ | (repeat constructor)) ?_
  simp (config := { maxSteps := 2000000 }) only [go_sem, reduceIte, Nat.reduceEqDiff, Nat.reduceAdd, Nat.reduceLT, Nat.reduceLeDiff, Nat.reduceBEq, Nat.reduceMul, Nat.reduceSub, Nat.reduceDiv, Int.reduceNeg, Int.reduceLT, Int.reduceLE, Int.reduceEq, Int.reduceToNat, lk12]
  refine aops_pure' (h3) rfl rfl (by first | exact wk_refls _ | (repeat constructor)) ?_
  simp (config := { maxSteps := 2000000 }) only [go_sem, reduceIte, Nat.reduceEqDiff, Nat.reduceAdd, Nat.reduceLT, Nat.reduceLeDiff, Nat.reduceBEq, Nat.reduceMul, Nat.reduceSub, Nat.reduceDiv, Int.reduceNeg, Int.reduceLT, Int.reduceLE, Int.reduceEq, Int.reduceToNat, lk12]
  refine stop_mk _ Ent.refl ?_
  simp (config := { maxSteps := 2000000 }) only [go_sem, reduceIte, Nat.reduceEqDiff, Nat.reduceAdd, Nat.reduceLT, Nat.reduceLeDiff, Nat.reduceBEq, Nat.reduceMul, Nat.reduceSub, Nat.reduceDiv, Int.reduceNeg, Int.reduceLT, Int.reduceLE, Int.reduceEq, Int.reduceToNat, lk12]
  refine aops_pure' (h5) rfl rfl (by first | exact wk_refls _ | (repeat constructor)) ?_
  simp (config := { maxSteps := 2000000 }) only [go_sem, reduceIte, Nat.reduceEqDiff, Nat.reduceAdd, Nat.reduceLT, Nat.reduceLeDiff, Nat.reduceBEq, Nat.reduceMul, Nat.reduceSub, Nat.reduceDiv, Int.reduceNeg, Int.reduceLT, Int.reduceLE, Int.reduceEq, Int.reduceToNat, lk12]
  refine stop_mk _ Ent.refl ?_
  simp (config := { maxSteps := 2000000 }) only [go_sem, reduceIte, Nat.reduceEqDiff, Nat.reduceAdd, Nat.reduceLT, Nat.reduceLeDiff, Nat.reduceBEq, Nat.reduceMul, Nat.reduceSub, Nat.reduceDiv, Int.reduceNeg, Int.reduceLT, Int.reduceLE, Int.reduceEq, Int.reduceToNat, lk12]
  refine aops_pure' (h38b) rfl rfl (by first | exact wk_refls _ | (repeat constructor)) ?_
  simp (config := { maxSteps := 2000000 }) only [go_sem, reduceIte, Nat.reduceEqDiff, Nat.reduceAdd, Nat.reduceLT, Nat.reduceLeDiff, Nat.reduceBEq, Nat.reduceMul, Nat.reduceSub, Nat.reduceDiv, Int.reduceNeg, Int.reduceLT, Int.reduceLE, Int.reduceEq, Int.reduceToNat, lk12]
  refine aops_pure' (h6) rfl rfl (by first | exact wk_refls _ | (repeat constructor)) ?_
  simp (config := { maxSteps := 2000000 }) only [go_sem, reduceIte, Nat.reduceEqDiff, Nat.reduceAdd, Nat.reduceLT, Nat.reduceLeDiff, Nat.reduceBEq, Nat.reduceMul, Nat.reduceSub, Nat.reduceDiv, Int.reduceNeg, Int.reduceLT, Int.reduceLE, Int.reduceEq, Int.reduceToNat, lk12]
  refine stop_mk _ Ent.refl ?_
  simp (config := { maxSteps := 2000000 }) only [go_sem, reduceIte, Nat.reduceEqDiff, Nat.reduceAdd, Nat.reduceLT, Nat.reduceLeDiff, Nat.reduceBEq, Nat.reduceMul, Nat.reduceSub, Nat.reduceDiv, Int.reduceNeg, Int.reduceLT, Int.reduceLE, Int.reduceEq, Int.reduceToNat, lk12]
  refine aops_pure' (h38a) rfl rfl (by first | exact wk_refls _ | (repeat constructor)) ?_
  simp (config := { maxSteps := 2000000 }) only [go_sem, reduceIte, Nat.reduceEqDiff, Nat.reduceAdd, Nat.reduceLT, Nat.reduceLeDiff, Nat.reduceBEq, Nat.reduceMul, Nat.reduceSub, Nat.reduceDiv, Int.reduceNeg, Int.reduceLT, Int.reduceLE, Int.reduceEq, Int.reduceToNat, lk12]
  refine aops_pure' (h7) rfl rfl (by first | exact wk_refls _ | (repeat constructor)) ?_
  simp only [aW_cons, aW_nil, guardOf, aw_t, aw_f, op1, St.put, St.ev, evS, St.get, getS, setS, reduceIte, Nat.reduceEqDiff, cond_true, true_and]
  simp only [List.getElem?_cons_zero]
  simp only [List.getElem?_cons_succ, List.getElem?_cons_zero, true_and]
  refine stop_mk _ Ent.refl ?_
  simp (config := { maxSteps := 2000000 }) only [go_sem, reduceIte, Nat.reduceEqDiff, Nat.reduceAdd, Nat.reduceLT, Nat.reduceLeDiff, Nat.reduceBEq, Nat.reduceMul, Nat.reduceSub, Nat.reduceDiv, Int.reduceNeg, Int.reduceLT, Int.reduceLE, Int.reduceEq, Int.reduceToNat, lk12, hM2]
  refine aops_pure' (l1) rfl rfl (by first | exact wk_refls _ | (repeat constructor)) ?_
  simp (config := { maxSteps := 2000000 }) only [go_sem, reduceIte, Nat.reduceEqDiff, Nat.reduceAdd, Nat.reduceLT, Nat.reduceLeDiff, Nat.reduceBEq, Nat.reduceMul, Nat.reduceSub, Nat.reduceDiv, Int.reduceNeg, Int.reduceLT, Int.reduceLE, Int.reduceEq, Int.reduceToNat, lk12, hM2]
  refine aops_pure' (hw) rfl rfl (by first | exact wk_refls _ | (repeat constructor)) ?_
  simp (config := { maxSteps := 2000000 }) only [go_sem, reduceIte, Nat.reduceEqDiff, Nat.reduceAdd, Nat.reduceLT, Nat.reduceLeDiff, Nat.reduceBEq, Nat.reduceMul, Nat.reduceSub, Nat.reduceDiv, Int.reduceNeg, Int.reduceLT, Int.reduceLE, Int.reduceEq, Int.reduceToNat, lk12, hM2]
end Go.Proofs.Ytkbnmanfoejoiaa
