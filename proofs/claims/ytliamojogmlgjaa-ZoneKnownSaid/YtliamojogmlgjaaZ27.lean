/- Zones: the statement Known. -/
import Derived.Test.YtliamojogmlgjaaZ25
set_option linter.unusedSimpArgs false
set_option linter.unusedVariables false
set_option maxRecDepth 100000
namespace Go.Proofs.Ytliamojogmlgjaa
open Go Go.Abs Go.Proofs
def kp14 : List (Nat × List Nat) := [(0, []), (1, [1]), (2, [1, 2, 3]), (3, [1, 2, 3, 6]), (4, [1, 2, 3, 6, 8]), (5, [1, 2, 3, 6, 8, 10]), (6, [1, 2, 3, 6, 8, 10, 11]), (7, [0])]
theorem lk14 : lookK kp14 0 = some [] ∧ lookK kp14 1 = some [1] ∧ lookK kp14 2 = some [1, 2, 3] ∧ lookK kp14 3 = some [1, 2, 3, 6] ∧ lookK kp14 4 = some [1, 2, 3, 6, 8] ∧ lookK kp14 5 = some [1, 2, 3, 6, 8, 10] ∧ lookK kp14 6 = some [1, 2, 3, 6, 8, 10, 11] ∧ lookK kp14 7 = some [0] := ⟨rfl, rfl, rfl, rfl, rfl, rfl, rfl, rfl⟩

theorem v_en : enL exL false = [10, 4, 4, 4, 4, 5] ∧ ctE exL [10, 4, 4, 4, 4, 5] = 0 ∧ sumW (gI exL.we) (gI [10, 4, 4, 4, 4, 5]) exL.we.length = 31 := ⟨by kernel_rfl, by kernel_rfl, by kernel_rfl⟩
theorem v_dt : dtE exL = 5 ∧ spE wrL = 21 ∧ atE exL 6 = 3 ∧ ctE exL [11, 9, 10, 5, 5, 6] = 16 := ⟨by kernel_rfl, by kernel_rfl, by kernel_rfl, by kernel_rfl⟩
set_option maxHeartbeats 8000000 in
theorem knownLaw : Pure Try.prog 14 [] (B true) := by
  refine pure_wkE (bad := []) (kp := kp14) (X := tx) (nt := 71) (rs := [.tmp 0]) Try.func14 rfl rfl rfl rfl mo (by kernel_rfl) rfl rfl (fun hf => ?_)
  have h1 := end33 exL false
  rw [v_en.1, w_sp.2] at h1
  have h2 := doubt25 exL
  rw [v_dt.1] at h2
  have h3 := span27 wrL
  rw [v_dt.2.1] at h3
  have h4 := at29 exL 6
  rw [v_dt.2.2.1] at h4
  have h5 := true21 exL [11, 9, 10, 5, 5, 6]
  rw [v_dt.2.2.2] at h5
  have h6 := true22 exL [10, 4, 4, 4, 4, 5]
  rw [v_en.2.1] at h6
  have h7 := sum38 exL.we [10, 4, 4, 4, 4, 5] (by decide) (by decide) (fun k hk => by
    match k, hk with
    | 0, _ | 1, _ | 2, _ | 3, _ | 4, _ | 5, _ => decide) (fun k hk => by
    match k, hk with
    | 0, _ | 1, _ | 2, _ | 3, _ | 4, _ | 5, _ => decide)
  rw [v_en.2.2] at h7
  have hx := lamp44
  have hw := wrong45
  simp (config := { maxSteps := 2000000 }) only [go_sem, reduceIte, Nat.reduceEqDiff, Nat.reduceAdd, Nat.reduceLT, Nat.reduceLeDiff, Nat.reduceBEq, Nat.reduceMul, Nat.reduceSub, Nat.reduceDiv, Int.reduceNeg, Int.reduceLT, Int.reduceLE, Int.reduceEq, Int.reduceToNat, List.replicate_succ, lk14]
  refine aops_pure' (hx) rfl rfl (by first | exact wk_refls _ | (repeat constructor)) ?_
  simp (config := { maxSteps := 2000000 }) only [go_sem, reduceIte, Nat.reduceEqDiff, Nat.reduceAdd, Nat.reduceLT, Nat.reduceLeDiff, Nat.reduceBEq, Nat.reduceMul, Nat.reduceSub, Nat.reduceDiv, Int.reduceNeg, Int.reduceLT, Int.reduceLE, Int.reduceEq, Int.reduceToNat, List.replicate_succ, lk14, laV, laC]
  refine aops_pure' (h1) rfl rfl (by first | exact wk_refls _ | (repeat constructor)) ?_
  simp (config := { maxSteps := 2000000 }) only [go_sem, reduceIte, Nat.reduceEqDiff, Nat.reduceAdd, Nat.reduceLT, Nat.reduceLeDiff, Nat.reduceBEq, Nat.reduceMul, Nat.reduceSub, Nat.reduceDiv, Int.reduceNeg, Int.reduceLT, Int.reduceLE, Int.reduceEq, Int.reduceToNat, List.replicate_succ, lk14]
  refine aops_pure' (h2) rfl rfl (by first | exact wk_refls _ | (repeat constructor)) ?_
  simp (config := { maxSteps := 2000000 }) only [go_sem, reduceIte, Nat.reduceEqDiff, Nat.reduceAdd, Nat.reduceLT, Nat.reduceLeDiff, Nat.reduceBEq, Nat.reduceMul, Nat.reduceSub, Nat.reduceDiv, Int.reduceNeg, Int.reduceLT, Int.reduceLE, Int.reduceEq, Int.reduceToNat, List.replicate_succ, lk14]
  refine aops_pure' (hw) rfl rfl (by first | exact wk_refls _ | (repeat constructor)) ?_
  simp (config := { maxSteps := 2000000 }) only [go_sem, reduceIte, Nat.reduceEqDiff, Nat.reduceAdd, Nat.reduceLT, Nat.reduceLeDiff, Nat.reduceBEq, Nat.reduceMul, Nat.reduceSub, Nat.reduceDiv, Int.reduceNeg, Int.reduceLT, Int.reduceLE, Int.reduceEq, Int.reduceToNat, List.replicate_succ, lk14, laV, laC]
  refine aops_pure' (h3) rfl rfl (by first | exact wk_refls _ | (repeat constructor)) ?_
  simp (config := { maxSteps := 2000000 }) only [go_sem, reduceIte, Nat.reduceEqDiff, Nat.reduceAdd, Nat.reduceLT, Nat.reduceLeDiff, Nat.reduceBEq, Nat.reduceMul, Nat.reduceSub, Nat.reduceDiv, Int.reduceNeg, Int.reduceLT, Int.reduceLE, Int.reduceEq, Int.reduceToNat, List.replicate_succ, lk14, rgV, rgC]
  refine aops_pure' (h4) rfl rfl (by first | exact wk_refls _ | (repeat constructor)) ?_
  simp (config := { maxSteps := 2000000 }) only [go_sem, reduceIte, Nat.reduceEqDiff, Nat.reduceAdd, Nat.reduceLT, Nat.reduceLeDiff, Nat.reduceBEq, Nat.reduceMul, Nat.reduceSub, Nat.reduceDiv, Int.reduceNeg, Int.reduceLT, Int.reduceLE, Int.reduceEq, Int.reduceToNat, List.replicate_succ, lk14, rgV, rgC]
  refine aops_pure' (h5) rfl rfl (by first | exact wk_refls _ | (repeat constructor)) ?_
  simp (config := { maxSteps := 2000000 }) only [go_sem, reduceIte, Nat.reduceEqDiff, Nat.reduceAdd, Nat.reduceLT, Nat.reduceLeDiff, Nat.reduceBEq, Nat.reduceMul, Nat.reduceSub, Nat.reduceDiv, Int.reduceNeg, Int.reduceLT, Int.reduceLE, Int.reduceEq, Int.reduceToNat, List.replicate_succ, lk14]
  refine aops_pure' (h6) rfl rfl (by first | exact wk_refls _ | (repeat constructor)) ?_
  simp (config := { maxSteps := 2000000 }) only [go_sem, reduceIte, Nat.reduceEqDiff, Nat.reduceAdd, Nat.reduceLT, Nat.reduceLeDiff, Nat.reduceBEq, Nat.reduceMul, Nat.reduceSub, Nat.reduceDiv, Int.reduceNeg, Int.reduceLT, Int.reduceLE, Int.reduceEq, Int.reduceToNat, List.replicate_succ, lk14]
  refine aops_pure' (h7) rfl rfl (by first | exact wk_refls _ | (repeat constructor)) ?_
  simp (config := { maxSteps := 2000000 }) only [go_sem, reduceIte, Nat.reduceEqDiff, Nat.reduceAdd, Nat.reduceLT, Nat.reduceLeDiff, Nat.reduceBEq, Nat.reduceMul, Nat.reduceSub, Nat.reduceDiv, Int.reduceNeg, Int.reduceLT, Int.reduceLE, Int.reduceEq, Int.reduceToNat, List.replicate_succ, lk14]
  refine aops_pure' (works16) rfl rfl (by first | exact wk_refls _ | (repeat constructor)) ?_
  simp (config := { maxSteps := 2000000 }) only [go_sem, reduceIte, Nat.reduceEqDiff, Nat.reduceAdd, Nat.reduceLT, Nat.reduceLeDiff, Nat.reduceBEq, Nat.reduceMul, Nat.reduceSub, Nat.reduceDiv, Int.reduceNeg, Int.reduceLT, Int.reduceLE, Int.reduceEq, Int.reduceToNat, List.replicate_succ, lk14]
end Go.Proofs.Ytliamojogmlgjaa
