/- Metamers: the examples hold. -/
import Derived.Test.YtjkpfojkkfopmaaM18
set_option linter.unusedSimpArgs false
set_option linter.unusedVariables false
set_option maxRecDepth 100000
namespace Go.Proofs.Ytjkpfojkkfopmaa
open Go Go.Abs Go.Proofs
def kp15 : List (Nat × List Nat) := [(0, []), (1, [1]), (2, [1, 2, 3]), (3, [1, 2, 3, 4, 5]), (4, [1, 2, 3, 4, 5, 6, 7]), (5, [1, 2, 3, 4, 5, 6, 7, 8]), (6, [1, 2, 4, 5, 6, 7, 8, 9, 10]), (7, [1, 2, 4, 5, 6, 7, 8, 9, 10, 11, 12]), (8, [1, 2, 4, 5, 6, 7, 8, 9, 10, 11, 12, 15]), (9, [1, 2, 4, 5, 6, 7, 8, 9, 10, 11, 12, 15, 16, 17, 18]), (10, [1, 2, 4, 5, 6, 7, 8, 9, 10, 11, 12, 15, 16, 17, 18, 19, 20]), (11, [1, 2, 4, 6, 9, 11, 16, 17, 19, 102]), (12, [0]), (13, [1, 4, 6, 9, 11, 16, 17, 19, 21, 22]), (14, [0])]
theorem lk15 : lookK kp15 0 = some [] ∧ lookK kp15 1 = some [1] ∧ lookK kp15 2 = some [1, 2, 3] ∧ lookK kp15 3 = some [1, 2, 3, 4, 5] ∧ lookK kp15 4 = some [1, 2, 3, 4, 5, 6, 7] ∧ lookK kp15 5 = some [1, 2, 3, 4, 5, 6, 7, 8] ∧ lookK kp15 6 = some [1, 2, 4, 5, 6, 7, 8, 9, 10] ∧ lookK kp15 7 = some [1, 2, 4, 5, 6, 7, 8, 9, 10, 11, 12] ∧ lookK kp15 8 = some [1, 2, 4, 5, 6, 7, 8, 9, 10, 11, 12, 15] ∧ lookK kp15 9 = some [1, 2, 4, 5, 6, 7, 8, 9, 10, 11, 12, 15, 16, 17, 18] ∧ lookK kp15 10 = some [1, 2, 4, 5, 6, 7, 8, 9, 10, 11, 12, 15, 16, 17, 18, 19, 20] ∧ lookK kp15 11 = some [1, 2, 4, 6, 9, 11, 16, 17, 19, 102] ∧ lookK kp15 12 = some [0] ∧ lookK kp15 13 = some [1, 4, 6, 9, 11, 16, 17, 19, 21, 22] ∧ lookK kp15 14 = some [0] := ⟨rfl, rfl, rfl, rfl, rfl, rfl, rfl, rfl, rfl, rfl, rfl, rfl, rfl, rfl, rfl⟩

theorem w_spans : spaV caseC [4, 1, 3, 0] = .tup [rgs [⟨6, 10⟩, ⟨4, 4⟩, ⟨6, 6⟩], I 0] := by kernel_rfl
theorem w_apart : apaV caseC [4, 1, 3, 0] [2, 2, 2, 2] = .tup [rgs [⟨0, 2⟩, ⟨0, 0⟩, ⟨0, 0⟩], I 0] := by kernel_rfl
theorem w_sure : sureP caseC [4, 1, 3, 0] [2, 2, 2, 2] = 19 := by kernel_rfl
def trW : Tr := ⟨[[1, 2, 0, 0], [0, 1, 1, 0], [0, 0, 2, 1]], [2, 1, 1, 1]⟩
theorem w_part : pgV caseC [4, 1, 3, 0] [2, 2, 2, 2] = .tup [trV trW, I 0] := by kernel_rfl
theorem w_fit : fitV' (palX 1) [5] = .tup [ints [4, 5, 6], I 0] := by kernel_rfl
theorem w_cl0 : clV (palX 0) = .tup [I 0, I 0, I 5] := by kernel_rfl
theorem w_cl1 : clV (palX 1) = .tup [I 0, I 1, I 0] := by kernel_rfl
theorem w_mix : mixV (palX 0) 5 = .tup [ints [5], I 0] := by kernel_rfl
theorem w_num : numV caseC trW [4, 1, 3, 0] = .tup [ints [10, 4, 6], I 0] := by kernel_rfl
theorem w_tr : okTr caseC trW = 0 := by kernel_rfl
theorem w_ok : okCase caseC = 0 := by kernel_rfl
theorem okC_case : OkC caseC := (okCase_iff caseC).1 w_ok
set_option maxHeartbeats 8000000 in
theorem works15 : Pure Try.prog 15 [] (B true) := by
  refine pure_wkE (bad := []) (kp := kp15) (X := tx) (nt := 163) (rs := [.tmp 0]) Try.func15 rfl rfl rfl rfl mo (by kernel_rfl) rfl rfl (fun hf => ?_)
  have h1 := spans18 caseC [4, 1, 3, 0]
  rw [w_spans] at h1
  have h2 := apart24 caseC [4, 1, 3, 0] [2, 2, 2, 2]
  rw [w_apart] at h2
  have h3 := surely27 caseC [4, 1, 3, 0] [2, 2, 2, 2]
  rw [w_sure] at h3
  have h4 := parting26 caseC [4, 1, 3, 0] [2, 2, 2, 2]
  rw [w_part] at h4
  have h5 := fit35 (palX 1) [5]
  rw [w_fit] at h5
  have h6 := clash40 (palX 0)
  rw [w_cl0] at h6
  have h7 := clash40 (palX 1)
  rw [w_cl1] at h7
  have h8 := mix33 (palX 0) 5
  rw [w_mix] at h8
  have h9 := numbers16 caseC trW [4, 1, 3, 0]
  rw [w_num] at h9
  have h10 := checkTrue30 caseC trW okC_case
  rw [w_tr] at h10
  simp (maxSteps := 2000000) only [go_sem, reduceIte, Nat.reduceEqDiff, Nat.reduceAdd, Nat.reduceLeDiff, Nat.reduceBEq, Nat.reduceMul, lk15]
  refine aops_pure' (case49) rfl rfl (by first | exact wk_refls _ | (repeat constructor)) ?_
  simp (maxSteps := 2000000) only [go_sem, reduceIte, Nat.reduceEqDiff, Nat.reduceAdd, lk15, csV, csC]
  refine aops_pure' (h1) rfl rfl (by first | exact wk_refls _ | (repeat constructor)) ?_
  simp (maxSteps := 2000000) only [go_sem, reduceIte, Nat.reduceEqDiff, Nat.reduceAdd, lk15, csC]
  refine aops_pure' (h2) rfl rfl (by first | exact wk_refls _ | (repeat constructor)) ?_
  simp (maxSteps := 2000000) only [go_sem, reduceIte, Nat.reduceEqDiff, Nat.reduceAdd, lk15, csC]
  refine aops_pure' (h3) rfl rfl (by first | exact wk_refls _ | (repeat constructor)) ?_
  simp (maxSteps := 2000000) only [go_sem, reduceIte, Nat.reduceEqDiff, Nat.reduceAdd, lk15, csC]
  refine aops_pure' (h4) rfl rfl (by first | exact wk_refls _ | (repeat constructor)) ?_
  simp (maxSteps := 2000000) only [go_sem, reduceIte, Nat.reduceEqDiff, Nat.reduceAdd, lk15, csC, trV, trC]
  refine aops_pure' (palette50 1) rfl rfl (by first | exact wk_refls _ | (repeat constructor)) ?_
  simp (maxSteps := 2000000) only [go_sem, reduceIte, Nat.reduceEqDiff, Nat.reduceLeDiff, Nat.reduceBEq, Nat.reduceMul, lk15, csC]
  refine aops_pure' (h5) rfl rfl (by first | exact wk_refls _ | (repeat constructor)) ?_
  simp (maxSteps := 2000000) only [go_sem, reduceIte, Nat.reduceEqDiff, lk15, csC]
  refine aops_pure' (palette50 0) rfl rfl (by first | exact wk_refls _ | (repeat constructor)) ?_
  simp (maxSteps := 2000000) only [go_sem, reduceIte, Nat.reduceEqDiff, lk15, csC]
  refine aops_pure' (h6) rfl rfl (by first | exact wk_refls _ | (repeat constructor)) ?_
  simp (maxSteps := 2000000) only [go_sem, reduceIte, Nat.reduceEqDiff, lk15, csC]
  refine aops_pure' (palette50 1) rfl rfl (by first | exact wk_refls _ | (repeat constructor)) ?_
  simp (maxSteps := 2000000) only [go_sem, reduceIte, Nat.reduceEqDiff, lk15, csC]
  refine aops_pure' (h7) rfl rfl (by first | exact wk_refls _ | (repeat constructor)) ?_
  simp (maxSteps := 2000000) only [go_sem, reduceIte, Nat.reduceEqDiff, lk15, csC]
  refine aops_pure' (palette50 0) rfl rfl (by first | exact wk_refls _ | (repeat constructor)) ?_
  simp (maxSteps := 2000000) only [go_sem, reduceIte, Nat.reduceEqDiff, lk15, csC]
  refine aops_pure' (h8) rfl rfl (by first | exact wk_refls _ | (repeat constructor)) ?_
  simp (maxSteps := 2000000) only [go_sem, reduceIte, Nat.reduceEqDiff, Nat.reduceAdd, lk15, csC, trC]
  refine aops_pure' (h9) rfl rfl (by first | exact wk_refls _ | (repeat constructor)) ?_
  simp (maxSteps := 2000000) only [go_sem, reduceIte, Nat.reduceEqDiff, Nat.reduceAdd, Nat.reduceLeDiff, Nat.reduceBEq, Nat.reduceMul, lk15, csC, trC]
  refine aops_pure' (ranges23 [⟨6, 10⟩, ⟨4, 4⟩, ⟨6, 6⟩] [⟨6, 10⟩, ⟨4, 4⟩, ⟨6, 6⟩]) rfl rfl (by first | exact wk_refls _ | (repeat constructor)) ?_
  simp (maxSteps := 2000000) only [go_sem, reduceIte, Nat.reduceEqDiff, Nat.reduceAdd, Nat.reduceLeDiff, Nat.reduceBEq, Nat.reduceMul, lk15]
  refine aops_pure' (ranges23 [⟨0, 2⟩, ⟨0, 0⟩, ⟨0, 0⟩] [⟨0, 2⟩, ⟨0, 0⟩, ⟨0, 0⟩]) rfl rfl (by first | exact wk_refls _ | (repeat constructor)) ?_
  simp (maxSteps := 2000000) only [go_sem, reduceIte, Nat.reduceEqDiff, Nat.reduceAdd, lk15, csC, trC]
  refine aops_pure' (h10) rfl rfl (by first | exact wk_refls _ | (repeat constructor)) ?_
  simp (maxSteps := 2000000) only [go_sem, reduceIte, Nat.reduceEqDiff, Nat.reduceAdd, Nat.reduceLeDiff, Nat.reduceBEq, Nat.reduceMul, lk15, csC, trC]
  refine aops_pure' (longs22 [2, 1, 1, 1] [2, 1, 1, 1]) rfl rfl (by first | exact wk_refls _ | (repeat constructor)) ?_
  simp (maxSteps := 2000000) only [go_sem, reduceIte, Nat.reduceEqDiff, Nat.reduceAdd, Nat.reduceLeDiff, Nat.reduceBEq, Nat.reduceMul, lk15, csC, trC]
  refine aops_pure' (longs22 [10, 4, 6] [10, 4, 6]) rfl rfl (by first | exact wk_refls _ | (repeat constructor)) ?_
  simp (maxSteps := 2000000) only [go_sem, reduceIte, Nat.reduceEqDiff, Nat.reduceAdd, Nat.reduceLeDiff, Nat.reduceBEq, Nat.reduceMul, lk15, csC, trC]
  refine aops_pure' (ints39 [4, 5, 6] [4, 5, 6]) rfl rfl (by first | exact wk_refls _ | (repeat constructor)) ?_
  simp (maxSteps := 2000000) only [go_sem, reduceIte, Nat.reduceEqDiff, Nat.reduceLeDiff, Nat.reduceBEq, Nat.reduceMul, lk15, csC, trC]
  refine aops_pure' (longs22 [5] [5]) rfl rfl (by first | exact wk_refls _ | (repeat constructor)) ?_
  simp (maxSteps := 2000000) only [go_sem, reduceIte, Nat.reduceEqDiff, lk15, csC, trC]
end Go.Proofs.Ytjkpfojkkfopmaa
