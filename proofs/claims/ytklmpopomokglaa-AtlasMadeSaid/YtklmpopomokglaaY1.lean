/- atlas.Most, atlas.Fewest, those of the reference; the law AtlasMosts. -/
import Derived.Test.YtklmpopomokglaaMF
import Derived.Test.YtklmpopomokglaaW1
set_option linter.unusedSimpArgs false
set_option linter.unusedVariables false
namespace Go.Proofs.Ytklmpopomokglaa
open Go Go.Abs Go.Proofs

def mostV (r : Int) : Int := if r = 2 then 3 else if r = 3 then 12 else if r = 4 then 39 else 0
def mostE (r : Int) : Int := if r < 0 ∨ 4 < r then 2 else 0
def fewV (c : Int) : Int := if c < 3 ∨ 39 < c then 0 else if c ≤ 3 then 2 else if c ≤ 12 then 3 else 4
def fewE (c : Int) : Int := if c < 1 ∨ 39 < c then 2 else if c < 3 then 5 else 0
def two (a b : Int) : V := .tup [I a, I b]

theorem most_in28 : (List.range 5).all (fun r => isV (two (mostV r) 0) (xRes tx wkL ktT 900 28 [I r])) = true := by kernel_rfl
theorem most_in29 : (List.range 5).all (fun r => isV (two (mostV r) 0) (xRes tx wkL ktT 900 29 [I r])) = true := by kernel_rfl
theorem few_in30 : (List.range 40).all (fun c => decide (c < 3) || isV (two (fewV c) 0) (xRes tx wkL ktT 900 30 [I c])) = true := by kernel_rfl
theorem few_in31 : (List.range 40).all (fun c => decide (c < 3) || isV (two (fewV c) 0) (xRes tx wkL ktT 900 31 [I c])) = true := by kernel_rfl

set_option maxHeartbeats 1000000 in
theorem most28 (r : Int) : Pure Try.prog 28 [I r] (two (mostV r) (mostE r)) := by
  by_cases h : r < 0 ∨ 4 < r
  · have e1 : mostV r = 0 := by simp [mostV]; omega
    have e2 : mostE r = 2 := by simp [mostE, h]
    rw [e1, e2]
    refine pure_wk (X := tx) (nt := 21) (rs := [.tmp 2, .tmp 3]) Try.func28 rfl rfl rfl rfl mo (by kernel_rfl) rfl rfl (fun hf => ?_)
    by_cases h0 : r < 0
    · simp only [go_sem, reduceIte, Nat.reduceEqDiff, Nat.reduceAdd, Nat.reduceLT, Nat.reduceLeDiff, Nat.reduceBEq, Nat.reduceMul, Nat.reduceSub, Nat.reduceDiv, Int.reduceNeg, Int.reduceLT, Int.reduceLE, Int.reduceEq, Int.reduceToNat, tt3, tt4, tt29, tt30, h0, two]
    · have h4 : 4 < r := by omega
      simp only [go_sem, reduceIte, Nat.reduceEqDiff, Nat.reduceAdd, Nat.reduceLT, Nat.reduceLeDiff, Nat.reduceBEq, Nat.reduceMul, Nat.reduceSub, Nat.reduceDiv, Int.reduceNeg, Int.reduceLT, Int.reduceLE, Int.reduceEq, Int.reduceToNat, tt3, tt4, tt29, tt30, h0, h4, two]
  · obtain ⟨k, rfl⟩ : ∃ k : Nat, r = k := ⟨r.toNat, by omega⟩
    have hk := List.all_eq_true.1 most_in28 k (List.mem_range.2 (by omega))
    have e2 : mostE k = 0 := by simp [mostE]; omega
    rw [e2]
    exact pure_res wkL ktT 900 mo wkOk (isV_eq hk) rfl
set_option maxHeartbeats 1000000 in
theorem most29 (r : Int) : Pure Try.prog 29 [I r] (two (mostV r) (mostE r)) := by
  by_cases h : r < 0 ∨ 4 < r
  · have e1 : mostV r = 0 := by simp [mostV]; omega
    have e2 : mostE r = 2 := by simp [mostE, h]
    rw [e1, e2]
    refine pure_wk (X := tx) (nt := 23) (rs := [.tmp 2, .tmp 3]) Try.func29 rfl rfl rfl rfl mo (by kernel_rfl) rfl rfl (fun hf => ?_)
    by_cases h0 : r < 0
    · simp only [go_sem, reduceIte, Nat.reduceEqDiff, Nat.reduceAdd, Nat.reduceLT, Nat.reduceLeDiff, Nat.reduceBEq, Nat.reduceMul, Nat.reduceSub, Nat.reduceDiv, Int.reduceNeg, Int.reduceLT, Int.reduceLE, Int.reduceEq, Int.reduceToNat, tt3, tt4, tt29, tt30, h0, two]
    · have h4 : 4 < r := by omega
      simp only [go_sem, reduceIte, Nat.reduceEqDiff, Nat.reduceAdd, Nat.reduceLT, Nat.reduceLeDiff, Nat.reduceBEq, Nat.reduceMul, Nat.reduceSub, Nat.reduceDiv, Int.reduceNeg, Int.reduceLT, Int.reduceLE, Int.reduceEq, Int.reduceToNat, tt3, tt4, tt29, tt30, h0, h4, two]
  · obtain ⟨k, rfl⟩ : ∃ k : Nat, r = k := ⟨r.toNat, by omega⟩
    have hk := List.all_eq_true.1 most_in29 k (List.mem_range.2 (by omega))
    have e2 : mostE k = 0 := by simp [mostE]; omega
    rw [e2]
    exact pure_res wkL ktT 900 mo wkOk (isV_eq hk) rfl
set_option maxHeartbeats 1000000 in
theorem few30 (c : Int) : Pure Try.prog 30 [I c] (two (fewV c) (fewE c)) := by
  by_cases h : c < 3 ∨ 39 < c
  · have e1 : fewV c = 0 := by simp [fewV, h]
    rw [e1]
    refine pure_wk (X := tx) (nt := 19) (rs := [.tmp 2, .tmp 3]) Try.func30 rfl rfl rfl rfl mo (by kernel_rfl) rfl rfl (fun hf => ?_)
    by_cases h0 : c < 1
    · simp only [go_sem, reduceIte, Nat.reduceEqDiff, Nat.reduceAdd, Nat.reduceLT, Nat.reduceLeDiff, Nat.reduceBEq, Nat.reduceMul, Nat.reduceSub, Nat.reduceDiv, Int.reduceNeg, Int.reduceLT, Int.reduceLE, Int.reduceEq, Int.reduceToNat, tt3, tt4, tt29, tt30, h0, two, fewE]
    · by_cases h1 : 39 < c
      · simp only [go_sem, reduceIte, Nat.reduceEqDiff, Nat.reduceAdd, Nat.reduceLT, Nat.reduceLeDiff, Nat.reduceBEq, Nat.reduceMul, Nat.reduceSub, Nat.reduceDiv, Int.reduceNeg, Int.reduceLT, Int.reduceLE, Int.reduceEq, Int.reduceToNat, tt3, tt4, tt29, tt30, h0, h1, two, fewE]
      · have h3 : c < 3 := by omega
        simp only [go_sem, reduceIte, Nat.reduceEqDiff, Nat.reduceAdd, Nat.reduceLT, Nat.reduceLeDiff, Nat.reduceBEq, Nat.reduceMul, Nat.reduceSub, Nat.reduceDiv, Int.reduceNeg, Int.reduceLT, Int.reduceLE, Int.reduceEq, Int.reduceToNat, tt3, tt4, tt29, tt30, h0, h1, h3, two, fewE]
  · obtain ⟨k, rfl⟩ : ∃ k : Nat, c = k := ⟨c.toNat, by omega⟩
    have hk := List.all_eq_true.1 few_in30 k (List.mem_range.2 (by omega))
    have hk3 : ¬ k < 3 := by omega
    simp only [hk3, decide_false, Bool.false_or] at hk
    have e2 : fewE k = 0 := by simp [fewE]; omega
    rw [e2]
    exact pure_res wkL ktT 900 mo wkOk (isV_eq hk) rfl
set_option maxHeartbeats 1000000 in
theorem few31 (c : Int) : Pure Try.prog 31 [I c] (two (fewV c) (fewE c)) := by
  by_cases h : c < 3 ∨ 39 < c
  · have e1 : fewV c = 0 := by simp [fewV, h]
    rw [e1]
    refine pure_wk (X := tx) (nt := 26) (rs := [.tmp 2, .tmp 3]) Try.func31 rfl rfl rfl rfl mo (by kernel_rfl) rfl rfl (fun hf => ?_)
    by_cases h0 : c < 1
    · simp only [go_sem, reduceIte, Nat.reduceEqDiff, Nat.reduceAdd, Nat.reduceLT, Nat.reduceLeDiff, Nat.reduceBEq, Nat.reduceMul, Nat.reduceSub, Nat.reduceDiv, Int.reduceNeg, Int.reduceLT, Int.reduceLE, Int.reduceEq, Int.reduceToNat, tt3, tt4, tt29, tt30, h0, two, fewE]
    · by_cases h1 : 39 < c
      · simp only [go_sem, reduceIte, Nat.reduceEqDiff, Nat.reduceAdd, Nat.reduceLT, Nat.reduceLeDiff, Nat.reduceBEq, Nat.reduceMul, Nat.reduceSub, Nat.reduceDiv, Int.reduceNeg, Int.reduceLT, Int.reduceLE, Int.reduceEq, Int.reduceToNat, tt3, tt4, tt29, tt30, h0, h1, two, fewE]
      · have h3 : c < 3 := by omega
        simp only [go_sem, reduceIte, Nat.reduceEqDiff, Nat.reduceAdd, Nat.reduceLT, Nat.reduceLeDiff, Nat.reduceBEq, Nat.reduceMul, Nat.reduceSub, Nat.reduceDiv, Int.reduceNeg, Int.reduceLT, Int.reduceLE, Int.reduceEq, Int.reduceToNat, tt3, tt4, tt29, tt30, h0, h1, h3, two, fewE]
  · obtain ⟨k, rfl⟩ : ∃ k : Nat, c = k := ⟨c.toNat, by omega⟩
    have hk := List.all_eq_true.1 few_in31 k (List.mem_range.2 (by omega))
    have hk3 : ¬ k < 3 := by omega
    simp only [hk3, decide_false, Bool.false_or] at hk
    have e2 : fewE k = 0 := by simp [fewE]; omega
    rw [e2]
    exact pure_res wkL ktT 900 mo wkOk (isV_eq hk) rfl

set_option maxRecDepth 100000 in
set_option maxHeartbeats 4000000 in
theorem mosts_pure (r c : Int) : Pure Try.prog 6 [I r, I c] (B true) := by
  refine pure_wk (X := tx) (nt := 54) (rs := [.tmp 4]) Try.func6 rfl rfl rfl rfl mo (by kernel_rfl) rfl rfl (fun hf => ?_)
  simp only [go_sem, reduceIte, Nat.reduceEqDiff, Nat.reduceAdd, Nat.reduceLT, Nat.reduceLeDiff, Nat.reduceBEq, Nat.reduceMul, Nat.reduceSub, Nat.reduceDiv, Int.reduceNeg, Int.reduceLT, Int.reduceLE, Int.reduceEq, Int.reduceToNat, tt3, tt4, tt29, tt30]
  refine aops_pure' (most28 r) rfl rfl (by first | exact wk_refls _ | (repeat constructor)) ?_
  simp only [go_sem, reduceIte, Nat.reduceEqDiff, Nat.reduceAdd, Nat.reduceLT, Nat.reduceLeDiff, Nat.reduceBEq, Nat.reduceMul, Nat.reduceSub, Nat.reduceDiv, Int.reduceNeg, Int.reduceLT, Int.reduceLE, Int.reduceEq, Int.reduceToNat, tt3, tt4, tt29, tt30, two]
  refine aops_pure' (most29 r) rfl rfl (by first | exact wk_refls _ | (repeat constructor)) ?_
  simp only [go_sem, reduceIte, Nat.reduceEqDiff, Nat.reduceAdd, Nat.reduceLT, Nat.reduceLeDiff, Nat.reduceBEq, Nat.reduceMul, Nat.reduceSub, Nat.reduceDiv, Int.reduceNeg, Int.reduceLT, Int.reduceLE, Int.reduceEq, Int.reduceToNat, tt3, tt4, tt29, tt30, two]
  refine aops_pure' (few30 c) rfl rfl (by first | exact wk_refls _ | (repeat constructor)) ?_
  simp only [go_sem, reduceIte, Nat.reduceEqDiff, Nat.reduceAdd, Nat.reduceLT, Nat.reduceLeDiff, Nat.reduceBEq, Nat.reduceMul, Nat.reduceSub, Nat.reduceDiv, Int.reduceNeg, Int.reduceLT, Int.reduceLE, Int.reduceEq, Int.reduceToNat, tt3, tt4, tt29, tt30, two]
  refine aops_pure' (few31 c) rfl rfl (by first | exact wk_refls _ | (repeat constructor)) ?_
  simp only [go_sem, reduceIte, Nat.reduceEqDiff, Nat.reduceAdd, Nat.reduceLT, Nat.reduceLeDiff, Nat.reduceBEq, Nat.reduceMul, Nat.reduceSub, Nat.reduceDiv, Int.reduceNeg, Int.reduceLT, Int.reduceLE, Int.reduceEq, Int.reduceToNat, tt3, tt4, tt29, tt30, two]
  refine aops_pure' (works_pure) rfl rfl (by first | exact wk_refls _ | (repeat constructor)) ?_
  simp only [go_sem, reduceIte, Nat.reduceEqDiff, Nat.reduceAdd, Nat.reduceLT, Nat.reduceLeDiff, Nat.reduceBEq, Nat.reduceMul, Nat.reduceSub, Nat.reduceDiv, Int.reduceNeg, Int.reduceLT, Int.reduceLE, Int.reduceEq, Int.reduceToNat, tt3, tt4, tt29, tt30]
end Go.Proofs.Ytklmpopomokglaa
