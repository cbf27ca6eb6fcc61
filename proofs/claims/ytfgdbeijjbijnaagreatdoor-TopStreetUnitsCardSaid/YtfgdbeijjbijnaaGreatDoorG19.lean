/- The least and the greatest number; sums; open, Lit, Check. -/
import Derived.Test.YtfgdbeijjbijnaaGreatDoorG17
import Derived.Test.YtfgdbeijjbijnaaGreatDoorG12
import Derived.Test.YtfgdbeijjbijnaaGreatDoorG18
set_option linter.unusedSimpArgs false
set_option linter.unusedVariables false
set_option linter.unusedSimpArgs false
set_option linter.unusedVariables false
set_option maxRecDepth 100000
namespace Go.Proofs.YtfgdbeijjbijnaaGreatDoor
open Go Go.Abs Go.Proofs
def kp73 : List (Nat × List Nat) := [(0, [0]), (1, [0, 7]), (2, [0]), (3, [0, 3]), (4, [0, 3, 4]), (5, [0, 3, 4, 15]), (6, [0, 3, 4]), (7, [0, 3, 4]), (8, [2])]
theorem lk73 : lookK kp73 0 = some [0] ∧ lookK kp73 1 = some [0, 7] ∧ lookK kp73 2 = some [0] ∧ lookK kp73 3 = some [0, 3] ∧ lookK kp73 4 = some [0, 3, 4] ∧ lookK kp73 5 = some [0, 3, 4, 15] ∧ lookK kp73 6 = some [0, 3, 4] ∧ lookK kp73 7 = some [0, 3, 4] ∧ lookK kp73 8 = some [2] := ⟨rfl, rfl, rfl, rfl, rfl, rfl, rfl, rfl, rfl⟩
def kp85 : List (Nat × List Nat) := [(0, [0]), (1, [0, 7]), (2, [0]), (3, [0, 3]), (4, [0, 3, 4]), (5, [0, 3, 4, 15]), (6, [0, 3, 4]), (7, [0, 3, 4]), (8, [2])]
theorem lk85 : lookK kp85 0 = some [0] ∧ lookK kp85 1 = some [0, 7] ∧ lookK kp85 2 = some [0] ∧ lookK kp85 3 = some [0, 3] ∧ lookK kp85 4 = some [0, 3, 4] ∧ lookK kp85 5 = some [0, 3, 4, 15] ∧ lookK kp85 6 = some [0, 3, 4] ∧ lookK kp85 7 = some [0, 3, 4] ∧ lookK kp85 8 = some [2] := ⟨rfl, rfl, rfl, rfl, rfl, rfl, rfl, rfl, rfl⟩
def kp86 : List (Nat × List Nat) := [(0, [0]), (1, [0, 7]), (2, [0]), (3, [0, 3]), (4, [0, 3, 4]), (5, [0, 3, 4, 15]), (6, [0, 3, 4]), (7, [0, 3, 4]), (8, [2])]
theorem lk86 : lookK kp86 0 = some [0] ∧ lookK kp86 1 = some [0, 7] ∧ lookK kp86 2 = some [0] ∧ lookK kp86 3 = some [0, 3] ∧ lookK kp86 4 = some [0, 3, 4] ∧ lookK kp86 5 = some [0, 3, 4, 15] ∧ lookK kp86 6 = some [0, 3, 4] ∧ lookK kp86 7 = some [0, 3, 4] ∧ lookK kp86 8 = some [2] := ⟨rfl, rfl, rfl, rfl, rfl, rfl, rfl, rfl, rfl⟩
def kp87 : List (Nat × List Nat) := [(0, [0]), (1, [0, 3]), (2, [3, 6, 7, 8]), (3, [3, 6, 7, 8, 9]), (4, [3, 5, 6, 7, 8]), (5, [3, 6, 7, 8]), (6, [3, 6, 7, 8]), (7, [2])]
theorem lk87 : lookK kp87 0 = some [0] ∧ lookK kp87 1 = some [0, 3] ∧ lookK kp87 2 = some [3, 6, 7, 8] ∧ lookK kp87 3 = some [3, 6, 7, 8, 9] ∧ lookK kp87 4 = some [3, 5, 6, 7, 8] ∧ lookK kp87 5 = some [3, 6, 7, 8] ∧ lookK kp87 6 = some [3, 6, 7, 8] ∧ lookK kp87 7 = some [2] := ⟨rfl, rfl, rfl, rfl, rfl, rfl, rfl, rfl⟩
def kp71 : List (Nat × List Nat) := [(0, [1, 2]), (1, [1, 2, 6]), (2, [1, 2, 6, 13]), (3, [4, 5]), (4, [1, 2, 20]), (5, [4, 5]), (6, [1, 7]), (7, [7, 23, 24, 25]), (8, [7, 23, 24, 25, 26]), (9, [7, 9, 23, 24, 25]), (10, [7, 23, 24, 25]), (11, [7, 23, 24, 25]), (12, [4, 5])]
theorem lk71 : lookK kp71 0 = some [1, 2] ∧ lookK kp71 1 = some [1, 2, 6] ∧ lookK kp71 2 = some [1, 2, 6, 13] ∧ lookK kp71 3 = some [4, 5] ∧ lookK kp71 4 = some [1, 2, 20] ∧ lookK kp71 5 = some [4, 5] ∧ lookK kp71 6 = some [1, 7] ∧ lookK kp71 7 = some [7, 23, 24, 25] ∧ lookK kp71 8 = some [7, 23, 24, 25, 26] ∧ lookK kp71 9 = some [7, 9, 23, 24, 25] ∧ lookK kp71 10 = some [7, 23, 24, 25] ∧ lookK kp71 11 = some [7, 23, 24, 25] ∧ lookK kp71 12 = some [4, 5] := ⟨rfl, rfl, rfl, rfl, rfl, rfl, rfl, rfl, rfl, rfl, rfl, rfl, rfl⟩
def kp28 : List (Nat × List Nat) := [(0, [1, 2]), (1, [6, 7]), (2, [6, 7, 15]), (3, [4, 5]), (4, [4, 5])]
theorem lk28 : lookK kp28 0 = some [1, 2] ∧ lookK kp28 1 = some [6, 7] ∧ lookK kp28 2 = some [6, 7, 15] ∧ lookK kp28 3 = some [4, 5] ∧ lookK kp28 4 = some [4, 5] := ⟨rfl, rfl, rfl, rfl, rfl⟩
def kp29 : List (Nat × List Nat) := [(0, [1, 2]), (1, [2, 6, 7]), (2, [2, 6, 7, 15]), (3, [4, 5]), (4, [6, 22]), (5, [4, 5]), (6, [4, 5])]
theorem lk29 : lookK kp29 0 = some [1, 2] ∧ lookK kp29 1 = some [2, 6, 7] ∧ lookK kp29 2 = some [2, 6, 7, 15] ∧ lookK kp29 3 = some [4, 5] ∧ lookK kp29 4 = some [6, 22] ∧ lookK kp29 5 = some [4, 5] ∧ lookK kp29 6 = some [4, 5] := ⟨rfl, rfl, rfl, rfl, rfl, rfl, rfl⟩

theorem minL_snoc : ∀ (l : List Int) (m y : Int), minL m (l ++ [y]) = min (minL m l) y
  | [], m, y => rfl
  | x :: l, m, y => minL_snoc l (min m x) y
theorem maxL_snoc : ∀ (l : List Int) (m y : Int), maxL m (l ++ [y]) = max (maxL m l) y
  | [], m, y => rfl
  | x :: l, m, y => maxL_snoc l (max m x) y
theorem wr_succ2 {i n : Nat} (h : i < n) (hn : n ≤ 140737488355328) : wr .i64 (((i + 1 : Nat) : Int) + 1) = ((i + 2 : Nat) : Int) := by rw [wr_i64] <;> omega

set_option maxHeartbeats 1000000 in
theorem min56 (x : Int) (l : List Int) : Pure Tryz.prog 85 [ints (x :: l)] (I (minL x l)) := by
  refine pure_wkE (bad := []) (kp := kp85) (X := tx) (nt := 25) (rs := [.tmp 2]) Tryz.func85 rfl rfl rfl rfl mo (by kernel_rfl) rfl rfl (fun hf => ?_)
  have hfit := fit_ints (hf (ints (x :: l)) (by simp))
  have hfit : l.length + 1 ≤ 140737488355328 := by simpa using hfit
  have h0 : ¬ ((l.length + 1 : Nat) : Int) < 1 := by omega
  have h0' : ¬ ((l.length : Int) + 1) < 1 := by omega
  have cx : (0 : Int) < ((l.length + 1 : Nat) : Int) := by omega
  simp (config := { maxSteps := 2000000 }) only [go_sem, reduceIte, Nat.reduceEqDiff, Nat.reduceAdd, Nat.reduceLT, Nat.reduceLeDiff, Nat.reduceBEq, Nat.reduceMul, Nat.reduceSub, Nat.reduceDiv, Int.reduceNeg, Int.reduceLT, Int.reduceLE, Int.reduceEq, Int.reduceToNat, lk73, lk85, lk86, lk87, lk71, lk28, lk29, ints, h0, h0', iD, cx]
  refine goE_loop (bad := []) (kp := kp85) (fun i : Nat => { slots := [(0, ints (x :: l)), (3, I (minL x (l.take i))), (4, I ((i + 1 : Nat) : Int))], heap := [], marks := [] }) (fun i => i ≤ l.length) (fun i => l.length - i) 0 mo (by kernel_rfl) ?_ (Nat.zero_le _) ?_
  · refine ent_weaken [] rfl rfl (Nat.zero_le _) rfl rfl ?_
    simp (config := { maxSteps := 2000000 }) only [go_sem, reduceIte, Nat.reduceEqDiff, Nat.reduceAdd, Nat.reduceLT, Nat.reduceLeDiff, Nat.reduceBEq, Nat.reduceMul, Nat.reduceSub, Nat.reduceDiv, Int.reduceNeg, Int.reduceLT, Int.reduceLE, Int.reduceEq, Int.reduceToNat, lk73, lk85, lk86, lk87, lk71, lk28, lk29, ints, iD, minL]
    all_goals first | exact .refl _ | exact ⟨.refl _, .refl _⟩ | exact ⟨.refl _, .refl _, .refl _⟩ | exact ⟨.refl _, _, rfl⟩ | exact ⟨_, rfl⟩ | exact ⟨.refl _, [], by simp⟩ | exact ⟨[], by simp⟩
  rintro i hi
  simp (config := { maxSteps := 2000000 }) only [go_sem, reduceIte, Nat.reduceEqDiff, Nat.reduceAdd, Nat.reduceLT, Nat.reduceLeDiff, Nat.reduceBEq, Nat.reduceMul, Nat.reduceSub, Nat.reduceDiv, Int.reduceNeg, Int.reduceLT, Int.reduceLE, Int.reduceEq, Int.reduceToNat, lk73, lk85, lk86, lk87, lk71, lk28, lk29, ints]
  refine goE_if (fun h => ?_) (fun h => ?_)
  · have hlt : i < l.length := by simp at h; omega
    obtain ⟨y, hy⟩ := get_of_lt hlt
    have c1 : (decide ((0 : Int) ≤ ((i + 1 : Nat) : Int)) && decide (((i + 1 : Nat) : Int) < ((l.length + 1 : Nat) : Int))) = true := by simp; omega
    simp (config := { maxSteps := 2000000 }) only [go_sem, reduceIte, Nat.reduceEqDiff, Nat.reduceAdd, Nat.reduceLT, Nat.reduceLeDiff, Nat.reduceBEq, Nat.reduceMul, Nat.reduceSub, Nat.reduceDiv, Int.reduceNeg, Int.reduceLT, Int.reduceLE, Int.reduceEq, Int.reduceToNat, lk73, lk85, lk86, lk87, lk71, lk28, lk29, hy, iD, c1, intsOf, minL, wr_succ2 hlt (show l.length ≤ 140737488355328 by omega)]
    refine ⟨i + 1, hlt, by omega, ?_⟩
    refine ent_weaken [] rfl rfl (Nat.zero_le _) rfl rfl ?_
    simp (config := { maxSteps := 2000000 }) only [go_sem, reduceIte, Nat.reduceEqDiff, Nat.reduceAdd, Nat.reduceLT, Nat.reduceLeDiff, Nat.reduceBEq, Nat.reduceMul, Nat.reduceSub, Nat.reduceDiv, Int.reduceNeg, Int.reduceLT, Int.reduceLE, Int.reduceEq, Int.reduceToNat, lk73, lk85, lk86, lk87, lk71, lk28, lk29, take_succ_eq hy, minL_snoc]
    all_goals first | exact .refl _ | exact ⟨.refl _, .refl _⟩ | exact ⟨.refl _, .refl _, .refl _⟩ | exact ⟨.refl _, _, rfl⟩ | exact ⟨_, rfl⟩ | exact ⟨.refl _, [], by simp⟩ | exact ⟨[], by simp⟩
  · have hi' : i = l.length := by simp at h; omega
    subst hi'
    simp (config := { maxSteps := 2000000 }) only [go_sem, reduceIte, Nat.reduceEqDiff, Nat.reduceAdd, Nat.reduceLT, Nat.reduceLeDiff, Nat.reduceBEq, Nat.reduceMul, Nat.reduceSub, Nat.reduceDiv, Int.reduceNeg, Int.reduceLT, Int.reduceLE, Int.reduceEq, Int.reduceToNat, lk73, lk85, lk86, lk87, lk71, lk28, lk29, List.take_length]

set_option maxHeartbeats 1000000 in
theorem max57 (x : Int) (l : List Int) : Pure Tryz.prog 86 [ints (x :: l)] (I (maxL x l)) := by
  refine pure_wkE (bad := []) (kp := kp86) (X := tx) (nt := 25) (rs := [.tmp 2]) Tryz.func86 rfl rfl rfl rfl mo (by kernel_rfl) rfl rfl (fun hf => ?_)
  have hfit := fit_ints (hf (ints (x :: l)) (by simp))
  have hfit : l.length + 1 ≤ 140737488355328 := by simpa using hfit
  have h0 : ¬ ((l.length + 1 : Nat) : Int) < 1 := by omega
  have h0' : ¬ ((l.length : Int) + 1) < 1 := by omega
  have cx : (0 : Int) < ((l.length + 1 : Nat) : Int) := by omega
  simp (config := { maxSteps := 2000000 }) only [go_sem, reduceIte, Nat.reduceEqDiff, Nat.reduceAdd, Nat.reduceLT, Nat.reduceLeDiff, Nat.reduceBEq, Nat.reduceMul, Nat.reduceSub, Nat.reduceDiv, Int.reduceNeg, Int.reduceLT, Int.reduceLE, Int.reduceEq, Int.reduceToNat, lk73, lk85, lk86, lk87, lk71, lk28, lk29, ints, h0, h0', iD, cx]
  refine goE_loop (bad := []) (kp := kp86) (fun i : Nat => { slots := [(0, ints (x :: l)), (3, I (maxL x (l.take i))), (4, I ((i + 1 : Nat) : Int))], heap := [], marks := [] }) (fun i => i ≤ l.length) (fun i => l.length - i) 0 mo (by kernel_rfl) ?_ (Nat.zero_le _) ?_
  · refine ent_weaken [] rfl rfl (Nat.zero_le _) rfl rfl ?_
    simp (config := { maxSteps := 2000000 }) only [go_sem, reduceIte, Nat.reduceEqDiff, Nat.reduceAdd, Nat.reduceLT, Nat.reduceLeDiff, Nat.reduceBEq, Nat.reduceMul, Nat.reduceSub, Nat.reduceDiv, Int.reduceNeg, Int.reduceLT, Int.reduceLE, Int.reduceEq, Int.reduceToNat, lk73, lk85, lk86, lk87, lk71, lk28, lk29, ints, iD, maxL]
    all_goals first | exact .refl _ | exact ⟨.refl _, .refl _⟩ | exact ⟨.refl _, .refl _, .refl _⟩ | exact ⟨.refl _, _, rfl⟩ | exact ⟨_, rfl⟩ | exact ⟨.refl _, [], by simp⟩ | exact ⟨[], by simp⟩
  rintro i hi
  simp (config := { maxSteps := 2000000 }) only [go_sem, reduceIte, Nat.reduceEqDiff, Nat.reduceAdd, Nat.reduceLT, Nat.reduceLeDiff, Nat.reduceBEq, Nat.reduceMul, Nat.reduceSub, Nat.reduceDiv, Int.reduceNeg, Int.reduceLT, Int.reduceLE, Int.reduceEq, Int.reduceToNat, lk73, lk85, lk86, lk87, lk71, lk28, lk29, ints]
  refine goE_if (fun h => ?_) (fun h => ?_)
  · have hlt : i < l.length := by simp at h; omega
    obtain ⟨y, hy⟩ := get_of_lt hlt
    have c1 : (decide ((0 : Int) ≤ ((i + 1 : Nat) : Int)) && decide (((i + 1 : Nat) : Int) < ((l.length + 1 : Nat) : Int))) = true := by simp; omega
    simp (config := { maxSteps := 2000000 }) only [go_sem, reduceIte, Nat.reduceEqDiff, Nat.reduceAdd, Nat.reduceLT, Nat.reduceLeDiff, Nat.reduceBEq, Nat.reduceMul, Nat.reduceSub, Nat.reduceDiv, Int.reduceNeg, Int.reduceLT, Int.reduceLE, Int.reduceEq, Int.reduceToNat, lk73, lk85, lk86, lk87, lk71, lk28, lk29, hy, iD, c1, intsOf, maxL, wr_succ2 hlt (show l.length ≤ 140737488355328 by omega)]
    refine ⟨i + 1, hlt, by omega, ?_⟩
    refine ent_weaken [] rfl rfl (Nat.zero_le _) rfl rfl ?_
    simp (config := { maxSteps := 2000000 }) only [go_sem, reduceIte, Nat.reduceEqDiff, Nat.reduceAdd, Nat.reduceLT, Nat.reduceLeDiff, Nat.reduceBEq, Nat.reduceMul, Nat.reduceSub, Nat.reduceDiv, Int.reduceNeg, Int.reduceLT, Int.reduceLE, Int.reduceEq, Int.reduceToNat, lk73, lk85, lk86, lk87, lk71, lk28, lk29, take_succ_eq hy, maxL_snoc]
    all_goals first | exact .refl _ | exact ⟨.refl _, .refl _⟩ | exact ⟨.refl _, .refl _, .refl _⟩ | exact ⟨.refl _, _, rfl⟩ | exact ⟨_, rfl⟩ | exact ⟨.refl _, [], by simp⟩ | exact ⟨[], by simp⟩
  · have hi' : i = l.length := by simp at h; omega
    subst hi'
    simp (config := { maxSteps := 2000000 }) only [go_sem, reduceIte, Nat.reduceEqDiff, Nat.reduceAdd, Nat.reduceLT, Nat.reduceLeDiff, Nat.reduceBEq, Nat.reduceMul, Nat.reduceSub, Nat.reduceDiv, Int.reduceNeg, Int.reduceLT, Int.reduceLE, Int.reduceEq, Int.reduceToNat, lk73, lk85, lk86, lk87, lk71, lk28, lk29, List.take_length]

theorem sum_take_succ {l : List Int} {i : Nat} {x : Int} (h : l[i]? = some x) : (l.take (i + 1)).sum = (l.take i).sum + x := by
  rw [take_succ_eq h, List.sum_append]; simp
theorem sum_bnd : ∀ (l : List Int) (k : Nat), (∀ x ∈ l, 0 ≤ x ∧ x ≤ 1099511627776) → 0 ≤ (l.take k).sum ∧ (l.take k).sum ≤ 1099511627776 * k
  | [], k, _ => by simp; omega
  | x :: l, 0, _ => by simp
  | x :: l, k + 1, h => by
    have h1 := h x (by simp)
    have h2 := sum_bnd l k (fun y hy => h y (List.mem_cons_of_mem _ hy))
    simp only [List.take_succ_cons, List.sum_cons]
    omega
set_option maxHeartbeats 1000000 in
theorem sum58 (l : List Int) (hb : ∀ x ∈ l, 0 ≤ x ∧ x ≤ 1099511627776) (hl : l.length ≤ 100) : Pure Tryz.prog 87 [ints l] (I l.sum) := by
  refine pure_wkE (bad := []) (kp := kp87) (X := tx) (nt := 17) (rs := [.tmp 2]) Tryz.func87 rfl rfl rfl rfl mo (by kernel_rfl) rfl rfl (fun hf => ?_)
  simp (config := { maxSteps := 2000000 }) only [go_sem, reduceIte, Nat.reduceEqDiff, Nat.reduceAdd, Nat.reduceLT, Nat.reduceLeDiff, Nat.reduceBEq, Nat.reduceMul, Nat.reduceSub, Nat.reduceDiv, Int.reduceNeg, Int.reduceLT, Int.reduceLE, Int.reduceEq, Int.reduceToNat, lk73, lk85, lk86, lk87, lk71, lk28, lk29, ints]
  refine goE_loop (bad := []) (kp := kp87) (fun i : Nat => { slots := [(3, I (l.take i).sum), (6, ints l), (7, I l.length), (8, I i)], heap := [], marks := [] }) (fun i => i ≤ l.length) (fun i => l.length - i) 0 mo (by kernel_rfl) ?_ (Nat.zero_le _) ?_
  · refine ent_weaken [] rfl rfl (Nat.zero_le _) rfl rfl ?_
    simp (config := { maxSteps := 2000000 }) only [go_sem, reduceIte, Nat.reduceEqDiff, Nat.reduceAdd, Nat.reduceLT, Nat.reduceLeDiff, Nat.reduceBEq, Nat.reduceMul, Nat.reduceSub, Nat.reduceDiv, Int.reduceNeg, Int.reduceLT, Int.reduceLE, Int.reduceEq, Int.reduceToNat, lk73, lk85, lk86, lk87, lk71, lk28, lk29, ints, List.sum_nil]
    all_goals first | exact .refl _ | exact ⟨.refl _, .refl _⟩ | exact ⟨.refl _, .refl _, .refl _⟩ | exact ⟨.refl _, _, rfl⟩ | exact ⟨_, rfl⟩ | exact ⟨.refl _, [], by simp⟩ | exact ⟨[], by simp⟩
  rintro i hi
  simp (config := { maxSteps := 2000000 }) only [go_sem, reduceIte, Nat.reduceEqDiff, Nat.reduceAdd, Nat.reduceLT, Nat.reduceLeDiff, Nat.reduceBEq, Nat.reduceMul, Nat.reduceSub, Nat.reduceDiv, Int.reduceNeg, Int.reduceLT, Int.reduceLE, Int.reduceEq, Int.reduceToNat, lk73, lk85, lk86, lk87, lk71, lk28, lk29, ints]
  refine goE_if (fun h => ?_) (fun h => ?_)
  · have hlt : i < l.length := by simpa using h
    obtain ⟨x, hx⟩ := get_of_lt hlt
    have b1 := sum_bnd l i hb
    have b2 := hb x (List.mem_of_getElem? hx)
    have w1 : wr .i64 ((l.take i).sum + x) = (l.take (i + 1)).sum := by rw [sum_take_succ hx]; exact wr_id (by omega) (by omega)
    have c1 : (decide ((0 : Int) ≤ (i : Int)) && decide ((i : Int) < (l.length : Int))) = true := by simp; omega
    simp (config := { maxSteps := 2000000 }) only [go_sem, reduceIte, Nat.reduceEqDiff, Nat.reduceAdd, Nat.reduceLT, Nat.reduceLeDiff, Nat.reduceBEq, Nat.reduceMul, Nat.reduceSub, Nat.reduceDiv, Int.reduceNeg, Int.reduceLT, Int.reduceLE, Int.reduceEq, Int.reduceToNat, lk73, lk85, lk86, lk87, lk71, lk28, lk29, hx, iD, w1, c1, wr_succ hlt (show l.length ≤ 140737488355328 by omega)]
    refine ⟨i + 1, hlt, by omega, ?_⟩
    refine ent_weaken [] rfl rfl (Nat.zero_le _) rfl rfl ?_
    simp (config := { maxSteps := 2000000 }) only [go_sem, reduceIte, Nat.reduceEqDiff, Nat.reduceAdd, Nat.reduceLT, Nat.reduceLeDiff, Nat.reduceBEq, Nat.reduceMul, Nat.reduceSub, Nat.reduceDiv, Int.reduceNeg, Int.reduceLT, Int.reduceLE, Int.reduceEq, Int.reduceToNat, lk73, lk85, lk86, lk87, lk71, lk28, lk29]
  · have hi' : i = l.length := by simp at h; omega
    subst hi'
    simp (config := { maxSteps := 2000000 }) only [go_sem, reduceIte, Nat.reduceEqDiff, Nat.reduceAdd, Nat.reduceLT, Nat.reduceLeDiff, Nat.reduceBEq, Nat.reduceMul, Nat.reduceSub, Nat.reduceDiv, Int.reduceNeg, Int.reduceLT, Int.reduceLE, Int.reduceEq, Int.reduceToNat, lk73, lk85, lk86, lk87, lk71, lk28, lk29, List.take_length]

/-- The posts of a choice, standing. -/
def ind (l : List Int) : Nat → Int := fun i => if (i : Int) ∈ l then 1 else 0
theorem ind_bnd (l : List Int) : ∀ i, 0 ≤ ind l i ∧ ind l i ≤ 1 := fun i => by unfold ind; split <;> omega
set_option maxHeartbeats 1000000 in
theorem net53p (r : Rd) (H : List AB) : ACall Tryz.prog 76 [roadV r] H (one (.c (.ptr (H.length + 1) 0)) (H ++ [.cells (roadC r), .cells (netC r zf zf)])) := by
  refine acall_fit (X := tx) (nt := 6) (rs := [.tmp 2]) Tryz.func76 rfl rfl rfl rfl mo (by kernel_rfl) (fun hf => ?_)
  have hz : List.replicate 64 (C.d (D.int .i64 0)) = (numsD 24 zf ++ numsD 40 zf).map .d := by rfl
  have lc : ∀ x : AB, (H ++ [x])[H.length]? = some x := fun x => List.getElem?_concat_length
  simp (config := { maxSteps := 2000000 }) only [go_sem, reduceIte, Nat.reduceEqDiff, Nat.reduceAdd, Nat.reduceLT, Nat.reduceLeDiff, Nat.reduceBEq, Nat.reduceMul, Nat.reduceSub, Nat.reduceDiv, Int.reduceNeg, Int.reduceLT, Int.reduceLE, Int.reduceEq, Int.reduceToNat, lk73, lk85, lk86, lk87, lk71, lk28, lk29, roadV, roadC, fillC, placeS, hz, lc, List.length_append, List.append_assoc]
  exact ⟨rfl, rfl⟩

/-- What a choice is. -/
def okCh (r : Rd) (l : List Int) : Int := if okRoad r ≠ 0 then okRoad r else if rises l r.ps.length = false then 3 else 0
/-- A choice holds. -/
def holdsB (r : Rd) (l : List Int) : Bool := (litL r (ind l)).all fun k => decide (r.de < k)
def costL (r : Rd) (l : List Int) : Int := costP r (ind l) r.ps.length
end Go.Proofs.YtfgdbeijjbijnaaGreatDoor

/- The reference of chapter 7: lit, Holds, Cost, IsChoice, Lit, Check. -/
set_option linter.unusedSimpArgs false
set_option linter.unusedVariables false
set_option maxRecDepth 100000
namespace Go.Proofs.YtfgdbeijjbijnaaGreatDoor
open Go Go.Abs Go.Proofs
theorem litP_ext {r : Rd} {f g : Nat → Int} (k : Int) : ∀ m, (∀ i, i < m → f i = g i) → litP r f m k = litP r g m k
  | 0, _ => rfl
  | m + 1, h => by simp only [litP, litP_ext k m (fun i hi => h i (by omega)), h m (by omega)]
theorem litP_zero (r : Rd) (k : Int) : ∀ m, litP r zf m k = 0
  | 0 => rfl
  | m + 1 => by simp [litP, litP_zero r k m, zf]
/-- What the posts of a list cost. -/
def cost (r : Rd) (l : List Int) : Int := (l.map fun i => (po r i).co).sum
theorem costP_ext {r : Rd} {f g : Nat → Int} : ∀ m, (∀ i, i < m → f i = g i) → costP r f m = costP r g m
  | 0, _ => rfl
  | m + 1, h => by simp only [costP, costP_ext m (fun i hi => h i (by omega)), h m (by omega)]
end Go.Proofs.YtfgdbeijjbijnaaGreatDoor

/- The plain law: a step is gone. -/
set_option linter.unusedSimpArgs false
set_option linter.unusedVariables false
set_option maxRecDepth 100000
namespace Go.Proofs.YtfgdbeijjbijnaaGreatDoor
open Go Go.Abs Go.Proofs

/-- A street with posts that stand, as it is between steps. -/
structure OkW (r : Rd) (w : W) (N : Int) : Prop where
  st : ∀ i, w.1 i = 0 ∨ w.1 i = 1
  lit : ∀ i : Nat, w.1 i = 1 → i < r.ps.length ∧ rFrom r i < rTo r i
  b0 : ∀ k, 0 ≤ w.2 k
  bN : ∀ k, w.2 k ≤ N
/-- By how much a step goes over a place. -/
def cr (s : Stp) (p : Nat) : Int := (if (p : Int) < s.to then 1 else 0) - (if (p : Int) < s.fr then 1 else 0)
/-- How often a place is lit, less how often one goes back over it. -/
def netw (r : Rd) (w : W) (p : Nat) : Int := litP r w.1 r.ps.length p - w.2 p
theorem mem_steps {r : Rd} {w : W} {s : Stp} : s ∈ stepsL r w.1 w.2 ↔ (∃ k, k < r.pl.toNat ∧ s = ⟨(k : Int) + 1, k, 0, -1⟩) ∨ (∃ k, k < r.pl.toNat ∧ 0 < w.2 k ∧ s = ⟨k, (k : Int) + 1, 0, -1⟩) ∨ (∃ i, i < r.ps.length ∧ rFrom r i < rTo r i ∧ s = postS r w.1 i) := by
  simp only [stepsL, List.mem_append, List.mem_flatMap, List.mem_range, backL, List.mem_cons, postL]
  constructor
  · rintro (⟨k, hk, h | h⟩ | ⟨i, hi, h⟩)
    · exact .inl ⟨k, hk, h⟩
    · split at h
      · rename_i hb; exact .inr (.inl ⟨k, hk, hb, by simpa using h⟩)
      · simp at h
    · split at h
      · rename_i hb; exact .inr (.inr ⟨i, hi, hb, by simpa using h⟩)
      · simp at h
  · rintro (⟨k, hk, h⟩ | ⟨k, hk, hb, h⟩ | ⟨i, hi, hb, h⟩)
    · exact .inl ⟨k, hk, .inl h⟩
    · exact .inl ⟨k, hk, .inr (by rw [if_pos hb]; simp [h])⟩
    · exact .inr ⟨i, hi, by rw [if_pos hb]; simp [h]⟩
theorem litP_upd {r : Rd} {f : Nat → Int} {x : Nat} {v : Int} (p : Int) : ∀ m, x < m → litP r (upd f x v) m p = litP r f m p + if litB r (po r x) p then v - f x else 0
  | 0, h => by omega
  | m + 1, h => by
    simp only [litP]
    by_cases e : x = m
    · subst e
      rw [litP_ext (f := upd f x v) (g := f) p x (fun i hi => upd_ne _ _ (by omega)), upd_same]
      split <;> omega
    · rw [litP_upd p m (by omega), upd_ne _ _ (Ne.symm e)]
      omega
theorem litB_iff (r : Rd) (i : Nat) (p : Nat) : litB r (po r i) p = true ↔ rFrom r i ≤ p ∧ (p : Int) < rTo r i := by
  simp only [litB, decide_eq_true_eq, rFrom, rTo]; omega
theorem okL_steps {r : Rd} {w : W} (hr : OkR r) : OkL (stepsL r w.1 w.2) := by
  refine ⟨steps_ok hr, fun s hs => ?_⟩
  rcases mem_steps.1 hs with ⟨k, _, rfl⟩ | ⟨k, _, _, rfl⟩ | ⟨i, _, hft, rfl⟩
  · simp; omega
  · simp; omega
  · simp only [postS]; split <;> simp only [] <;> omega

theorem step_take {r : Rd} {w : W} {N : Int} {pi : Nat → Int} {s : Stp} (hr : OkR r) (hw : OkW r w N) (hN : N ≤ 1000000) (hs : s ∈ stepsL r w.1 w.2) (hrc : RC (stepsL r w.1 w.2) pi) (ht : pi s.to.toNat = pi s.fr.toNat + s.co) :
    OkW r (takeS s w) (N + 1) ∧ RC (stepsL r (takeS s w).1 (takeS s w).2) pi ∧ (∀ p, p < r.pl.toNat → netw r (takeS s w) p = netw r w p + cr s p) ∧ (∀ t ∈ stepsL r w.1 w.2, t.to ≠ s.to → t ∈ stepsL r (takeS s w).1 (takeS s w).2) := by
  have p40 := hr.p40
  rcases mem_steps.1 hs with ⟨k, hk, rfl⟩ | ⟨k, hk, hb, rfl⟩ | ⟨i, hi, hft, rfl⟩
  · -- back over a place
    have hbk := hw.b0 k
    have hbN := hw.bN k
    have e : takeS ⟨(k : Int) + 1, k, 0, -1⟩ w = (w.1, upd w.2 k (w.2 k + 1)) := by
      simp only [takeS, ne_eq, not_true, if_false]
      rw [if_pos (by omega)]
      simp only [Int.toNat_natCast]
      rw [wr_id (by omega) (by omega)]
    rw [e]
    have hk1 : ((k : Int) + 1).toNat = k + 1 := by omega
    simp only [Int.toNat_natCast, hk1, Int.add_zero] at ht
    refine ⟨⟨hw.st, hw.lit, fun j => ?_, fun j => ?_⟩, fun t ht' => ?_, fun p hp => ?_, fun t ht' hne => ?_⟩
    · simp only [upd]; split
      · omega
      · exact hw.b0 j
    · simp only [upd]; split
      · omega
      · have := hw.bN j; omega
    · rcases mem_steps.1 ht' with ⟨k', h1, rfl⟩ | ⟨k', h1, h2, rfl⟩ | ⟨i, h1, h2, rfl⟩
      · exact hrc _ (mem_steps.2 (.inl ⟨k', h1, rfl⟩))
      · by_cases e : k' = k
        · subst e
          simp only [Int.toNat_natCast, hk1, Int.add_zero]
          omega
        · simp only [upd, e, if_false] at h2
          exact hrc _ (mem_steps.2 (.inr (.inl ⟨k', h1, h2, rfl⟩)))
      · exact hrc _ (mem_steps.2 (.inr (.inr ⟨i, h1, h2, rfl⟩)))
    · simp only [netw, cr, upd]
      by_cases e : p = k
      · subst e; simp; omega
      · have h1 : ((p : Int) < (k : Int)) ↔ ((p : Int) < (k : Int) + 1) := by omega
        simp only [e, if_false, h1]; omega
    · rcases mem_steps.1 ht' with ⟨k', h1, rfl⟩ | ⟨k', h1, h2, rfl⟩ | ⟨i, h1, h2, rfl⟩
      · exact mem_steps.2 (.inl ⟨k', h1, rfl⟩)
      · refine mem_steps.2 (.inr (.inl ⟨k', h1, ?_, rfl⟩))
        simp only [upd]; split <;> omega
      · exact mem_steps.2 (.inr (.inr ⟨i, h1, h2, rfl⟩))
  · -- on again
    have hbN := hw.bN k
    have e : takeS ⟨k, (k : Int) + 1, 0, -1⟩ w = (w.1, upd w.2 k (w.2 k - 1)) := by
      simp only [takeS, ne_eq, not_true, if_false]
      rw [if_neg (by omega)]
      simp only [Int.toNat_natCast]
      rw [wr_id (by omega) (by omega)]
    rw [e]
    have hk1 : ((k : Int) + 1).toNat = k + 1 := by omega
    simp only [Int.toNat_natCast, hk1, Int.add_zero] at ht
    refine ⟨⟨hw.st, hw.lit, fun j => ?_, fun j => ?_⟩, fun t ht' => ?_, fun p hp => ?_, fun t ht' hne => ?_⟩
    · simp only [upd]; split
      · omega
      · exact hw.b0 j
    · simp only [upd]; split
      · omega
      · have := hw.bN j; omega
    · rcases mem_steps.1 ht' with ⟨k', h1, rfl⟩ | ⟨k', h1, h2, rfl⟩ | ⟨i, h1, h2, rfl⟩
      · exact hrc _ (mem_steps.2 (.inl ⟨k', h1, rfl⟩))
      · refine hrc _ (mem_steps.2 (.inr (.inl ⟨k', h1, ?_, rfl⟩)))
        simp only [upd] at h2
        split at h2
        · rename_i e; subst e; exact hb
        · exact h2
      · exact hrc _ (mem_steps.2 (.inr (.inr ⟨i, h1, h2, rfl⟩)))
    · simp only [netw, cr, upd]
      by_cases e : p = k
      · subst e; simp; omega
      · have h1 : ((p : Int) < (k : Int)) ↔ ((p : Int) < (k : Int) + 1) := by omega
        simp only [e, if_false, h1]; omega
    · rcases mem_steps.1 ht' with ⟨k', h1, rfl⟩ | ⟨k', h1, h2, rfl⟩ | ⟨i, h1, h2, rfl⟩
      · exact mem_steps.2 (.inl ⟨k', h1, rfl⟩)
      · refine mem_steps.2 (.inr (.inl ⟨k', h1, ?_, rfl⟩))
        simp only at hne
        simp only [upd]; split <;> omega
      · exact mem_steps.2 (.inr (.inr ⟨i, h1, h2, rfl⟩))
  · -- a post
    have hlen := hr.len
    have hpo : (postS r w.1 i).po = (i : Int) := by simp only [postS]; split <;> rfl
    have hst := hw.st i
    have e : takeS (postS r w.1 i) w = (upd w.1 i (1 - w.1 i), w.2) := by
      simp only [takeS, hpo]
      rw [if_pos (by omega), Int.toNat_natCast, wr_id (by omega) (by omega)]
    rw [e]
    have hf0 : 0 ≤ rFrom r i := by
      have := hr.post (i := (i : Int)) (by omega) (by omega)
      have := hr.i0
      simp only [rFrom]; omega
    refine ⟨⟨fun j => ?_, fun j hj => ?_, hw.b0, fun j => by have := hw.bN j; show w.2 j ≤ N + 1; omega⟩, fun t ht' => ?_, fun p hp => ?_, fun t ht' hne => ?_⟩
    · simp only [upd]; split
      · omega
      · exact hw.st j
    · simp only [upd] at hj
      split at hj
      · rename_i e; subst e; exact ⟨hi, hft⟩
      · exact hw.lit j hj
    · rcases mem_steps.1 ht' with ⟨k', h1, rfl⟩ | ⟨k', h1, h2, rfl⟩ | ⟨i', h1, h2, rfl⟩
      · exact hrc _ (mem_steps.2 (.inl ⟨k', h1, rfl⟩))
      · exact hrc _ (mem_steps.2 (.inr (.inl ⟨k', h1, h2, rfl⟩)))
      · by_cases e : i' = i
        · subst e
          rcases hst with h | h
          · have e1 : postS r w.1 i' = ⟨rFrom r i', rTo r i', (po r i').co, i'⟩ := by simp [postS, h]
            have e2 : postS r (upd w.1 i' (1 - w.1 i')) i' = ⟨rTo r i', rFrom r i', -(po r i').co, i'⟩ := by simp [postS, h, upd_same]
            rw [e1] at ht
            rw [e2]
            simp only at ht ⊢
            omega
          · have e1 : postS r w.1 i' = ⟨rTo r i', rFrom r i', -(po r i').co, i'⟩ := by simp [postS, h]
            have e2 : postS r (upd w.1 i' (1 - w.1 i')) i' = ⟨rFrom r i', rTo r i', (po r i').co, i'⟩ := by simp [postS, h, upd_same]
            rw [e1] at ht
            rw [e2]
            simp only at ht ⊢
            omega
        · have e2 : postS r (upd w.1 i (1 - w.1 i)) i' = postS r w.1 i' := by simp [postS, upd_ne _ _ e]
          rw [e2]
          exact hrc _ (mem_steps.2 (.inr (.inr ⟨i', h1, h2, rfl⟩)))
    · simp only [netw]
      rw [litP_upd (p : Int) r.ps.length hi]
      have hb := litB_iff r i p
      rcases hst with h | h
      · have e1 : postS r w.1 i = ⟨rFrom r i, rTo r i, (po r i).co, i⟩ := by simp [postS, h]
        rw [e1]
        simp only [cr, h]
        by_cases hl : litB r (po r i) (p : Int) = true
        · have := hb.1 hl
          rw [if_pos hl, if_pos this.2, if_neg (by omega)]; omega
        · have : ¬ (rFrom r i ≤ p ∧ (p : Int) < rTo r i) := fun h => hl (hb.2 h)
          rw [if_neg hl]
          by_cases h3 : (p : Int) < rFrom r i
          · rw [if_pos h3, if_pos (by omega)]; omega
          · rw [if_neg h3, if_neg (by omega)]; omega
      · have e1 : postS r w.1 i = ⟨rTo r i, rFrom r i, -(po r i).co, i⟩ := by simp [postS, h]
        rw [e1]
        simp only [cr, h]
        by_cases hl : litB r (po r i) (p : Int) = true
        · have := hb.1 hl
          rw [if_pos hl, if_pos this.2, if_neg (by omega)]; omega
        · have : ¬ (rFrom r i ≤ p ∧ (p : Int) < rTo r i) := fun h => hl (hb.2 h)
          rw [if_neg hl]
          by_cases h3 : (p : Int) < rFrom r i
          · rw [if_pos h3, if_pos (by omega)]; omega
          · rw [if_neg h3, if_neg (by omega)]; omega
    · rcases mem_steps.1 ht' with ⟨k', h1, rfl⟩ | ⟨k', h1, h2, rfl⟩ | ⟨i', h1, h2, rfl⟩
      · exact mem_steps.2 (.inl ⟨k', h1, rfl⟩)
      · exact mem_steps.2 (.inr (.inl ⟨k', h1, h2, rfl⟩))
      · by_cases e : i' = i
        · subst e; exact absurd rfl hne
        · exact mem_steps.2 (.inr (.inr ⟨i', h1, h2, by simp [postS, upd_ne _ _ e]⟩))
end Go.Proofs.YtfgdbeijjbijnaaGreatDoor

/- The plain law: way after way. -/
set_option linter.unusedSimpArgs false
set_option linter.unusedVariables false
set_option maxRecDepth 100000
namespace Go.Proofs.YtfgdbeijjbijnaaGreatDoor
open Go Go.Abs Go.Proofs

def crS (c : List Stp) (p : Nat) : Int := (c.map (fun s => cr s p)).sum
theorem augment {r : Rd} {pi : Nat → Int} (hr : OkR r) : ∀ {c : List Stp} {w : W} {N : Int}, OkW r w N → N + c.length ≤ 1000000 → (∀ s ∈ c, s ∈ stepsL r w.1 w.2 ∧ pi s.to.toNat = pi s.fr.toNat + s.co) → c.Pairwise (fun s t => t.to ≠ s.to) → RC (stepsL r w.1 w.2) pi →
    OkW r (takes c w) (N + c.length) ∧ RC (stepsL r (takes c w).1 (takes c w).2) pi ∧ ∀ p, p < r.pl.toNat → netw r (takes c w) p = netw r w p + crS c p
  | [], w, N, hw, _, _, _, hrc => ⟨by simpa [takes] using hw, hrc, fun p _ => by simp [takes, crS]⟩
  | s :: c, w, N, hw, hN, hs, hd, hrc => by
    rw [List.pairwise_cons] at hd
    rw [List.length_cons] at hN
    obtain ⟨h1, h2, h3, h4⟩ := step_take hr hw (by omega) (hs s (by simp)).1 hrc (hs s (by simp)).2
    obtain ⟨g1, g2, g3⟩ := augment hr (c := c) h1 (by omega) (fun t ht => ⟨h4 t (hs t (by simp [ht])).1 (hd.1 t ht), (hs t (by simp [ht])).2⟩) hd.2 h2
    refine ⟨?_, g2, fun p hp => ?_⟩
    · have : N + ((s :: c).length : Int) = N + 1 + c.length := by simp; omega
      rw [this]; exact g1
    · have := g3 p hp
      have h5 := h3 p hp
      show netw r (takes c (takeS s w)) p = _
      rw [this, h5]
      simp only [crS, List.map_cons, List.sum_cons]; omega
theorem crS_chain {l : List Stp} {pi : Nat → Int} {q : FS} (hl : OkL l) (hi : Inv l pi q) (hfx : Fix l q.far) (p : Nat) : ∀ {c : List Stp} {v : Nat}, Ch q.by' v c → v ≤ 40 → q.far v ≠ never → crS c p = if p < v then 1 else 0
  | [], v, h, _, _ => by cases h; simp [crS]
  | s :: c, v, h, hv, hvn => by
    obtain ⟨h1, h2, h3⟩ := ch_to hi h hv hvn
    have hs := (ch_ok hl hi hfx h hv hvn s (by simp)).1
    have ho := hl.ok s hs
    have b0 := ho.f0
    have b1 := ho.f40
    have ih := crS_chain hl hi hfx p h2 (by omega) h3
    simp only [crS, List.map_cons, List.sum_cons] at ih ⊢
    rw [ih]
    simp only [cr, h1]
    have e1 : ((p : Int) < (v : Int)) ↔ p < v := by omega
    have e2 : ((p : Int) < s.fr) ↔ p < s.fr.toNat := by omega
    simp only [e1, e2]
    omega
theorem ch_len {l : List Stp} {pi : Nat → Int} {q : FS} (hl : OkL l) (hi : Inv l pi q) (hfx : Fix l q.far) {c : List Stp} {v : Nat} (h : Ch q.by' v c) (hv : v ≤ 40) (hvn : q.far v ≠ never) : c.length ≤ 41 := by
  have hd := ch_distinct hl hi h hv hvn
  have hok := ch_ok hl hi hfx h hv hvn
  have hnd : (c.map (fun s => s.to.toNat)).Nodup := by
    rw [List.nodup_iff_pairwise_ne, List.pairwise_map]
    refine hd.imp_of_mem (fun {a b} ha hb hne e => hne ?_)
    have h1 := (hl.ok a (hok a ha).1).t0
    have h2 := (hl.ok b (hok b hb).1).t0
    omega
  have := hnd.length_le_of_subset (l₂ := List.range 41) (fun x hx => by
    obtain ⟨s, hs, rfl⟩ := List.mem_map.1 hx
    have h1 := (hl.ok s (hok s hs).1).t0
    have h2 := (hl.ok s (hok s hs).1).t40
    simp; omega)
  simpa using this
theorem steps_pl {r : Rd} {w : W} (hr : OkR r) {s : Stp} (hs : s ∈ stepsL r w.1 w.2) : s.fr.toNat ≤ r.pl.toNat ∧ s.to.toNat ≤ r.pl.toNat := by
  have p1 := hr.p1
  rcases mem_steps.1 hs with ⟨k, hk, rfl⟩ | ⟨k, hk, _, rfl⟩ | ⟨i, hi, hft, rfl⟩
  · refine ⟨?_, ?_⟩ <;> simp only [] <;> omega
  · refine ⟨?_, ?_⟩ <;> simp only [] <;> omega
  · have := hr.post (i := (i : Int)) (by omega) (by omega)
    have := hr.i0
    simp only [postS]
    split
    · simp only [rFrom, rTo] at hft ⊢; omega
    · simp only [rFrom, rTo] at hft ⊢; omega
/-- What the ends are worth, out of what they cost. -/
def worth (r : Rd) (f : Nat → Int) : Nat → Int := fun v => if v ≤ r.pl.toNat then f v else 0
theorem reach_down {r : Rd} {w : W} {pi : Nat → Int} {q : FS} (hr : OkR r) (hi : Inv (stepsL r w.1 w.2) pi q) (hfx : Fix (stepsL r w.1 w.2) q.far) {v : Nat} (hv : v < r.pl.toNat) (h : q.far (v + 1) ≠ never) : q.far v ≠ never := by
  have p40 := hr.p40
  have hs : (⟨(v : Int) + 1, v, 0, -1⟩ : Stp) ∈ stepsL r w.1 w.2 := mem_steps.2 (.inl ⟨v, hv, rfl⟩)
  have e : ((v : Int) + 1).toNat = v + 1 := by omega
  have := hfx _ hs (by simpa only [e] using h)
  simp only [e, Int.toNat_natCast] at this
  have hh := hi.high (v + 1) (by omega) h
  have := rcn_le q.far 41
  have hlt : q.far v < never := by unfold never; omega
  intro hn
  omega
theorem reach_le {r : Rd} {w : W} {pi : Nat → Int} {q : FS} (hr : OkR r) (hi : Inv (stepsL r w.1 w.2) pi q) (hfx : Fix (stepsL r w.1 w.2) q.far) {v : Nat} (hv : v ≤ r.pl.toNat) (h : q.far v ≠ never) : ∀ u, u ≤ v → q.far u ≠ never := by
  intro u hu
  induction v with
  | zero => have : u = 0 := by omega
            subst this; exact h
  | succ v ih =>
    by_cases e : u = v + 1
    · subst e; exact h
    · exact ih (by omega) (reach_down hr hi hfx (by omega) h) (by omega)
theorem worth_ok {r : Rd} {w : W} {pi : Nat → Int} {q : FS} (hr : OkR r) (hpb : PB pi) (hi : Inv (stepsL r w.1 w.2) pi q) (hfx : Fix (stepsL r w.1 w.2) q.far) (h : q.far r.pl.toNat ≠ never) : PB (worth r q.far) ∧ RC (stepsL r w.1 w.2) (worth r q.far) := by
  have p40 := hr.p40
  have hall := reach_le hr hi hfx (Nat.le_refl _) h
  have hrl := rcn_le q.far 41
  refine ⟨⟨by simp [worth, hi.zero], fun v hv => ?_, fun v hv => ?_⟩, fun s hs => ?_⟩
  · simp only [worth]; split
    · exact hi.nonneg hpb hv
    · omega
  · simp only [worth]; split
    · rename_i h2
      have := hi.high v hv (hall v h2)
      omega
    · omega
  · obtain ⟨h1, h2⟩ := steps_pl hr hs
    simp only [worth, h1, h2, if_true]
    exact hfx s hs (hall _ h1)
/-- Both places of all posts. -/
def one' : Nat → Int := fun _ => 1
theorem litP_eq {r : Rd} {f g : Nat → Int} (p : Int) : ∀ m : Nat, (∀ i : Nat, i < m → litB r (po r i) p = true → f i = g i) → litP r f m p = litP r g m p
  | 0, _ => rfl
  | m + 1, h => by
    simp only [litP, litP_eq p m (fun i hi => h i (by omega))]
    by_cases hb : litB r (po r m) p = true
    · rw [if_pos hb, if_pos hb, h m (by omega) hb]
    · rw [if_neg hb, if_neg hb]
/-- A place that cannot be lit once more. -/
theorem cut_ok {r : Rd} {w : W} {pi : Nat → Int} {q : FS} {N : Int} (hr : OkR r) (hw : OkW r w N) (hi : Inv (stepsL r w.1 w.2) pi q) (hfx : Fix (stepsL r w.1 w.2) q.far) (h : q.far r.pl.toNat = never) : ∃ p, p < r.pl.toNat ∧ litP r one' r.ps.length (p : Nat) = netw r w p := by
  have p40 := hr.p40
  have p1 := hr.p1
  obtain ⟨c, hc, hc1, hc2⟩ : ∃ c, c < r.pl.toNat ∧ q.far c ≠ never ∧ q.far (c + 1) = never := by
    have key : ∀ n, q.far n = never → ∃ c, c < n ∧ q.far c ≠ never ∧ q.far (c + 1) = never := by
      intro n
      induction n with
      | zero => intro hn; rw [hi.zero] at hn; exact absurd hn (by decide)
      | succ n ih =>
        intro hn
        by_cases e : q.far n = never
        · obtain ⟨c, h1, h2⟩ := ih e; exact ⟨c, by omega, h2⟩
        · exact ⟨n, by omega, e, hn⟩
    exact key _ h
  have hfin : ∀ s ∈ stepsL r w.1 w.2, q.far s.fr.toNat ≠ never → q.far s.to.toNat ≠ never := fun s hs hn => by
    have h1 := hfx s hs hn
    have ho := steps_ok hr s hs
    have f0 := ho.f0; have f40 := ho.f40; have c1 := ho.c1
    have := hi.high _ (by omega) hn
    have := rcn_le q.far 41
    intro e; rw [e] at h1; unfold never at h1; omega
  have hb : w.2 c = 0 := by
    have := hw.b0 c
    by_cases h0 : 0 < w.2 c
    · have hs : (⟨c, (c : Int) + 1, 0, -1⟩ : Stp) ∈ stepsL r w.1 w.2 := mem_steps.2 (.inr (.inl ⟨c, hc, h0, rfl⟩))
      have e : ((c : Int) + 1).toNat = c + 1 := by omega
      have := hfin _ hs (by simpa using hc1)
      rw [show ((⟨c, (c : Int) + 1, 0, -1⟩ : Stp)).to.toNat = c + 1 from e] at this
      exact absurd hc2 this
    · omega
  refine ⟨c, hc, ?_⟩
  rw [netw, hb, Int.sub_zero]
  refine litP_eq _ _ (fun i hi' hl => ?_)
  rcases hw.st i with h0 | h1
  · exfalso
    have hlb := (litB_iff r i c).1 hl
    have hft : rFrom r i < rTo r i := by omega
    have hs : postS r w.1 i ∈ stepsL r w.1 w.2 := mem_steps.2 (.inr (.inr ⟨i, hi', hft, rfl⟩))
    have e : postS r w.1 i = ⟨rFrom r i, rTo r i, (po r i).co, i⟩ := by simp [postS, h0]
    have hpl := steps_pl hr hs
    rw [e] at hs hpl
    have ho := steps_ok hr _ hs
    have f0 := ho.f0
    simp only at hpl f0
    have hfr := reach_le hr hi hfx (Nat.le_of_lt hc) hc1 (rFrom r i).toNat (by omega)
    have hto := hfin _ hs hfr
    exact absurd hc2 (reach_le hr hi hfx hpl.2 hto (c + 1) (by omega))
  · rw [h1]; rfl
end Go.Proofs.YtfgdbeijjbijnaaGreatDoor

/- The bound of prices. -/
set_option linter.unusedSimpArgs false
set_option linter.unusedVariables false
set_option maxRecDepth 100000
namespace Go.Proofs.YtfgdbeijjbijnaaGreatDoor
open Go Go.Abs Go.Proofs
def kp36 : List (Nat × List Nat) := [(0, [1, 2]), (1, [1, 2, 6]), (2, [1, 2, 6, 15]), (3, [4, 5]), (4, [1, 2, 19]), (5, [4, 5]), (6, [1, 2, 25]), (7, [4, 5]), (8, [1, 2, 7]), (9, [1, 2, 7, 8]), (10, [1, 7, 8, 43, 44, 45]), (11, [1, 7, 8, 43, 44, 45, 46]), (12, [1, 7, 8, 9, 10, 43, 44, 45]), (13, [1, 7, 8, 10, 11, 12, 43, 44, 45]), (14, [1, 7, 8, 10, 11, 12, 43, 44, 45, 58]), (15, [1, 7, 8, 43, 44, 45]), (16, [1, 7, 8, 43, 44, 45]), (17, [4, 5])]
theorem lk36 : lookK kp36 0 = some [1, 2] ∧ lookK kp36 1 = some [1, 2, 6] ∧ lookK kp36 2 = some [1, 2, 6, 15] ∧ lookK kp36 3 = some [4, 5] ∧ lookK kp36 4 = some [1, 2, 19] ∧ lookK kp36 5 = some [4, 5] ∧ lookK kp36 6 = some [1, 2, 25] ∧ lookK kp36 7 = some [4, 5] ∧ lookK kp36 8 = some [1, 2, 7] ∧ lookK kp36 9 = some [1, 2, 7, 8] ∧ lookK kp36 10 = some [1, 7, 8, 43, 44, 45] ∧ lookK kp36 11 = some [1, 7, 8, 43, 44, 45, 46] ∧ lookK kp36 12 = some [1, 7, 8, 9, 10, 43, 44, 45] ∧ lookK kp36 13 = some [1, 7, 8, 10, 11, 12, 43, 44, 45] ∧ lookK kp36 14 = some [1, 7, 8, 10, 11, 12, 43, 44, 45, 58] ∧ lookK kp36 15 = some [1, 7, 8, 43, 44, 45] ∧ lookK kp36 16 = some [1, 7, 8, 43, 44, 45] ∧ lookK kp36 17 = some [4, 5] := ⟨rfl, rfl, rfl, rfl, rfl, rfl, rfl, rfl, rfl, rfl, rfl, rfl, rfl, rfl, rfl, rfl, rfl, rfl⟩
def kp149 : List (Nat × List Nat) := [(0, [1, 2]), (1, [1, 2, 13]), (2, [4, 5]), (3, [1, 2, 20]), (4, [4, 5]), (5, [1, 2, 6]), (6, [1, 2, 6, 7]), (7, [1, 2, 6, 7, 24]), (8, [1, 2, 6, 7]), (9, [1, 2, 6, 7, 38]), (10, [4, 5]), (11, [1, 2, 6, 7]), (12, [1, 2, 6, 8]), (13, [1, 2, 6, 8, 53]), (14, [1, 2, 6, 8]), (15, [1, 2, 6, 8, 9]), (16, [1, 2, 6, 8, 9, 10]), (17, [1, 2, 6, 8, 9, 10, 59]), (18, [1, 2, 6, 8, 9, 10]), (19, [1, 2, 6, 8, 9, 10, 65]), (20, [1, 2, 6, 8, 9, 10]), (21, [1, 2, 6, 8]), (22, [4, 5])]
theorem lk149 : lookK kp149 0 = some [1, 2] ∧ lookK kp149 1 = some [1, 2, 13] ∧ lookK kp149 2 = some [4, 5] ∧ lookK kp149 3 = some [1, 2, 20] ∧ lookK kp149 4 = some [4, 5] ∧ lookK kp149 5 = some [1, 2, 6] ∧ lookK kp149 6 = some [1, 2, 6, 7] ∧ lookK kp149 7 = some [1, 2, 6, 7, 24] ∧ lookK kp149 8 = some [1, 2, 6, 7] ∧ lookK kp149 9 = some [1, 2, 6, 7, 38] ∧ lookK kp149 10 = some [4, 5] ∧ lookK kp149 11 = some [1, 2, 6, 7] ∧ lookK kp149 12 = some [1, 2, 6, 8] ∧ lookK kp149 13 = some [1, 2, 6, 8, 53] ∧ lookK kp149 14 = some [1, 2, 6, 8] ∧ lookK kp149 15 = some [1, 2, 6, 8, 9] ∧ lookK kp149 16 = some [1, 2, 6, 8, 9, 10] ∧ lookK kp149 17 = some [1, 2, 6, 8, 9, 10, 59] ∧ lookK kp149 18 = some [1, 2, 6, 8, 9, 10] ∧ lookK kp149 19 = some [1, 2, 6, 8, 9, 10, 65] ∧ lookK kp149 20 = some [1, 2, 6, 8, 9, 10] ∧ lookK kp149 21 = some [1, 2, 6, 8] ∧ lookK kp149 22 = some [4, 5] := ⟨rfl, rfl, rfl, rfl, rfl, rfl, rfl, rfl, rfl, rfl, rfl, rfl, rfl, rfl, rfl, rfl, rfl, rfl, rfl, rfl, rfl, rfl, rfl⟩

def badX (x : Int) : Bool := decide (x < 0 ∨ 1099511627776 < x)
def okPr (r : Rd) (l : List Int) : Int := if okRoad r ≠ 0 then okRoad r else if (l.length : Int) ≠ r.pl then 15 else if l.any badX then 3 else 0
/-- The prices of the first places that a post lights. -/
def litS (r : Rd) (l : List Int) (i : Int) : Nat → Int
  | 0 => 0
  | m + 1 => litS r l i m + if litB r (po r i) m then (l[m]?).getD 0 else 0
def bndP (r : Rd) (l : List Int) : Nat → Int
  | 0 => (r.de + 1) * l.sum
  | i + 1 => bndP r l i - max 0 (litS r l i l.length - (po r i).co)
def OkX (l : List Int) : Prop := ∀ x ∈ l, 0 ≤ x ∧ x ≤ 1099511627776
theorem okX_of {l : List Int} (h : l.any badX = false) : OkX l := fun x hx => by
  have := List.any_eq_false.1 h x hx
  simp [badX] at this; omega
theorem litS_bnd {r : Rd} {l : List Int} (h : OkX l) (i : Int) : ∀ m, 0 ≤ litS r l i m ∧ litS r l i m ≤ 1099511627776 * m
  | 0 => by simp [litS]
  | m + 1 => by
    have ih := litS_bnd (r := r) h i m
    have hg : 0 ≤ (l[m]?).getD 0 ∧ (l[m]?).getD 0 ≤ 1099511627776 := by
      cases hm : l[m]? with
      | none => simp
      | some x => exact h x (List.mem_of_getElem? hm)
    simp only [litS]
    split <;> omega
theorem bndP_bnd {r : Rd} {l : List Int} (hr : OkR r) (h : OkX l) (hl : (l.length : Int) = r.pl) : ∀ i, i ≤ r.ps.length → -(50000000000000 * (i : Int)) ≤ bndP r l i ∧ bndP r l i ≤ 150000000000000
  | 0, _ => by
    have h1 := sum_bnd l l.length h
    rw [List.take_length] at h1
    have := hr.p40
    have := hr.d0
    have := hr.d2
    have hc : r.de = 0 ∨ r.de = 1 ∨ r.de = 2 := by omega
    simp only [bndP]
    rcases hc with e | e | e <;> rw [e] <;> simp <;> omega
  | i + 1, hi => by
    have ih := bndP_bnd hr h hl i (by omega)
    have h1 := litS_bnd (r := r) h (i : Int) l.length
    obtain ⟨_, _, _, _, q3, q4⟩ := hr.post (i := (i : Int)) (by omega) (by omega)
    have := hr.p40
    simp only [bndP]
    have hm : 0 ≤ max 0 (litS r l i l.length - (po r i).co) ∧ max 0 (litS r l i l.length - (po r i).co) ≤ 50000000000000 := by
      rw [Int.max_def]; split <;> omega
    push_cast
    omega
theorem min_any : ∀ (l : List Int) (m : Int), decide (minL m l < 0) = (m :: l).any (fun x => decide (x < 0))
  | [], m => by
    simp only [minL, List.any_cons, List.any_nil, Bool.or_false]
    try exact decide_eq_decide.2 Iff.rfl
  | x :: l, m => by
    rw [minL, min_any l (min m x)]
    simp only [List.any_cons, ← Bool.or_assoc]
    congr 1
    rw [Bool.eq_iff_iff]; simp [Int.min_def]; split <;> omega
theorem max_any : ∀ (l : List Int) (m d : Int), decide (d < maxL m l) = (m :: l).any (fun x => decide (d < x))
  | [], m, d => by
    simp only [maxL, List.any_cons, List.any_nil, Bool.or_false]
    try exact decide_eq_decide.2 Iff.rfl
  | x :: l, m, d => by
    rw [maxL, max_any l (max m x) d]
    simp only [List.any_cons, ← Bool.or_assoc]
    congr 1
    rw [Bool.eq_iff_iff]; simp [Int.max_def]; split <;> omega
theorem any_or {α : Type} (p q : α → Bool) : ∀ l : List α, l.any (fun x => p x || q x) = (l.any p || l.any q)
  | [] => rfl
  | x :: l => by simp only [List.any_cons, any_or p q l]; cases p x <;> cases q x <;> simp
theorem badX_any (l : List Int) : l.any badX = (l.any (fun x => decide (x < 0)) || l.any (fun x => decide (1099511627776 < x))) := by
  rw [← any_or]; congr 1; funext x; simp [badX, Bool.decide_or]
/-- The prices from one place to another one. -/
theorem slice_sum {r : Rd} {l : List Int} {i : Int} (h0 : 0 ≤ rFrom r i) (hft : rFrom r i < rTo r i) : ∀ m : Nat, litS r l i m = ((l.take (min m (rTo r i).toNat)).drop (rFrom r i).toNat).sum
  | 0 => by simp [litS]
  | m + 1 => by
    have ih := slice_sum (l := l) h0 hft m
    simp only [litS, ih]
    by_cases hb : litB r (po r i) (m : Int) = true
    · have hb' : rFrom r i ≤ m ∧ (m : Int) < rTo r i := by simp [litB] at hb; simp only [rFrom, rTo]; omega
      rw [hb, if_pos rfl, Nat.min_eq_left (by omega), Nat.min_eq_left (by omega)]
      cases hm : l[m]? with
      | none =>
        have : l.length ≤ m := List.getElem?_eq_none_iff.1 hm
        rw [List.take_of_length_le (by omega), List.take_of_length_le (by omega)]; simp
      | some x =>
        have hlt := (List.getElem?_eq_some_iff.1 hm).1
        rw [take_succ_eq hm, List.drop_append_of_le_length (by simp; omega), List.sum_append]
        simp
    · have hb' : ¬ (rFrom r i ≤ m ∧ (m : Int) < rTo r i) := by
        intro h2; apply hb; simp only [litB, decide_eq_true_eq]; simp only [rFrom, rTo] at h2; omega
      simp only [hb, Bool.false_eq_true, if_false, Int.add_zero]
      by_cases h3 : (rTo r i).toNat ≤ m
      · rw [Nat.min_eq_right h3, Nat.min_eq_right (by omega)]
      · have h4 : m < (rFrom r i).toNat := by omega
        rw [List.drop_eq_nil_of_le (by simp; omega), List.drop_eq_nil_of_le (by simp; omega)]
theorem lit_none {r : Rd} {l : List Int} {i : Int} (hft : ¬ rFrom r i < rTo r i) : ∀ m, litS r l i m = 0
  | 0 => rfl
  | m + 1 => by
    have hb : litB r (po r i) (m : Int) = false := by
      simp only [litB, decide_eq_false_iff_not]; simp only [rFrom, rTo] at hft; omega
    simp [litS, lit_none hft m, hb]

set_option maxHeartbeats 8000000 in
theorem checkPrices29 (r : Rd) (l : List Int) : Pure Tryz.prog 36 [roadV r, ints l] (.tup [I (if okPr r l = 0 then bndP r l r.ps.length else 0), I (okPr r l)]) := by
  refine pure_wkE (bad := []) (kp := kp36) (X := tx) (nt := 72) (rs := [.tmp 4, .tmp 5]) Tryz.func36 rfl rfl rfl rfl mo (by kernel_rfl) rfl rfl (fun hf => ?_)
  simp (config := { maxSteps := 2000000 }) only [go_sem, reduceIte, Nat.reduceEqDiff, Nat.reduceAdd, Nat.reduceLT, Nat.reduceLeDiff, Nat.reduceBEq, Nat.reduceMul, Nat.reduceSub, Nat.reduceDiv, Int.reduceNeg, Int.reduceLT, Int.reduceLE, Int.reduceEq, Int.reduceToNat, lk36, lk149, roadV, roadC]
  refine aops_pure' (checkRoad19 r) rfl rfl (by first | exact wk_refls _ | (repeat constructor)) ?_
  by_cases hokr : okRoad r = 0
  case neg =>
    have e : okPr r l = okRoad r := by simp [okPr, hokr]
    simp (config := { maxSteps := 2000000 }) only [go_sem, reduceIte, Nat.reduceEqDiff, Nat.reduceAdd, Nat.reduceLT, Nat.reduceLeDiff, Nat.reduceBEq, Nat.reduceMul, Nat.reduceSub, Nat.reduceDiv, Int.reduceNeg, Int.reduceLT, Int.reduceLE, Int.reduceEq, Int.reduceToNat, lk36, lk149, hokr, e]
  have hr := okRoad_ok hokr
  have p1 := hr.p1
  have p40 := hr.p40
  have hlen := hr.len
  by_cases hl : (l.length : Int) = r.pl
  case neg =>
    have e : okPr r l = 15 := by simp [okPr, hokr, hl]
    simp (config := { maxSteps := 2000000 }) only [go_sem, reduceIte, Nat.reduceEqDiff, Nat.reduceAdd, Nat.reduceLT, Nat.reduceLeDiff, Nat.reduceBEq, Nat.reduceMul, Nat.reduceSub, Nat.reduceDiv, Int.reduceNeg, Int.reduceLT, Int.reduceLE, Int.reduceEq, Int.reduceToNat, lk36, lk149, hokr, hl, e, ints]
  obtain ⟨x, xs, hxs⟩ : ∃ x xs, l = x :: xs := by
    cases l with
    | nil => simp at hl; omega
    | cons x xs => exact ⟨x, xs, rfl⟩
  simp (config := { maxSteps := 2000000 }) only [go_sem, reduceIte, Nat.reduceEqDiff, Nat.reduceAdd, Nat.reduceLT, Nat.reduceLeDiff, Nat.reduceBEq, Nat.reduceMul, Nat.reduceSub, Nat.reduceDiv, Int.reduceNeg, Int.reduceLT, Int.reduceLE, Int.reduceEq, Int.reduceToNat, lk36, lk149, hokr, hl, ints]
  have hmin := min56 x xs
  have hmax := max57 x xs
  rw [← hxs] at hmin hmax
  simp only [ints] at hmin hmax
  refine aops_pure' (hmin) rfl rfl (by first | exact wk_refls _ | (repeat constructor)) ?_
  have e1 : decide (minL x xs < 0) = l.any (fun x => decide (x < 0)) := by rw [min_any, hxs]
  have e2 : decide (1099511627776 < maxL x xs) = l.any (fun x => decide (1099511627776 < x)) := by rw [max_any, hxs]
  simp (config := { maxSteps := 2000000 }) only [go_sem, reduceIte, Nat.reduceEqDiff, Nat.reduceAdd, Nat.reduceLT, Nat.reduceLeDiff, Nat.reduceBEq, Nat.reduceMul, Nat.reduceSub, Nat.reduceDiv, Int.reduceNeg, Int.reduceLT, Int.reduceLE, Int.reduceEq, Int.reduceToNat, lk36, lk149, e1]
  cases h3 : l.any (fun x => decide (x < 0)) with
  | true =>
    have e : okPr r l = 3 := by simp [okPr, hokr, hl, badX_any, h3]
    simp (config := { maxSteps := 2000000 }) only [go_sem, reduceIte, Nat.reduceEqDiff, Nat.reduceAdd, Nat.reduceLT, Nat.reduceLeDiff, Nat.reduceBEq, Nat.reduceMul, Nat.reduceSub, Nat.reduceDiv, Int.reduceNeg, Int.reduceLT, Int.reduceLE, Int.reduceEq, Int.reduceToNat, lk36, lk149, e]
  | false =>
  simp (config := { maxSteps := 2000000 }) only [go_sem, reduceIte, Nat.reduceEqDiff, Nat.reduceAdd, Nat.reduceLT, Nat.reduceLeDiff, Nat.reduceBEq, Nat.reduceMul, Nat.reduceSub, Nat.reduceDiv, Int.reduceNeg, Int.reduceLT, Int.reduceLE, Int.reduceEq, Int.reduceToNat, lk36, lk149]
  refine aops_pure' (hmax) rfl rfl (by first | exact wk_refls _ | (repeat constructor)) ?_
  simp (config := { maxSteps := 2000000 }) only [go_sem, reduceIte, Nat.reduceEqDiff, Nat.reduceAdd, Nat.reduceLT, Nat.reduceLeDiff, Nat.reduceBEq, Nat.reduceMul, Nat.reduceSub, Nat.reduceDiv, Int.reduceNeg, Int.reduceLT, Int.reduceLE, Int.reduceEq, Int.reduceToNat, lk36, lk149, e2]
  cases h4 : l.any (fun x => decide (1099511627776 < x)) with
  | true =>
    have e : okPr r l = 3 := by simp [okPr, hokr, hl, badX_any, h3, h4]
    simp (config := { maxSteps := 2000000 }) only [go_sem, reduceIte, Nat.reduceEqDiff, Nat.reduceAdd, Nat.reduceLT, Nat.reduceLeDiff, Nat.reduceBEq, Nat.reduceMul, Nat.reduceSub, Nat.reduceDiv, Int.reduceNeg, Int.reduceLT, Int.reduceLE, Int.reduceEq, Int.reduceToNat, lk36, lk149, e]
  | false =>
  have hb : l.any badX = false := by rw [badX_any, h3, h4]; rfl
  have e : okPr r l = 0 := by simp [okPr, hokr, hl, hb]
  have hx := okX_of hb
  have hs := sum58 l hx (by omega)
  simp only [ints] at hs
  have hsb := sum_bnd l l.length hx
  rw [List.take_length] at hsb
  have b0 := bndP_bnd hr hx hl 0 (by omega)
  simp only [bndP] at b0
  have wd : wr .i64 (r.de + 1) = r.de + 1 := wr_id (by have := hr.d0; omega) (by have := hr.d2; omega)
  have wm : wr .i64 ((r.de + 1) * l.sum) = (r.de + 1) * l.sum := wr_id (by omega) (by omega)
  have hnet := net53 r
  simp only [roadV, roadC] at hnet
  rw [e]
  simp (config := { maxSteps := 2000000 }) only [go_sem, reduceIte, Nat.reduceEqDiff, Nat.reduceAdd, Nat.reduceLT, Nat.reduceLeDiff, Nat.reduceBEq, Nat.reduceMul, Nat.reduceSub, Nat.reduceDiv, Int.reduceNeg, Int.reduceLT, Int.reduceLE, Int.reduceEq, Int.reduceToNat, lk36, lk149]
  refine aops_pure' (hnet) rfl rfl (by first | exact wk_refls _ | (repeat constructor)) ?_
  simp (config := { maxSteps := 2000000 }) only [go_sem, reduceIte, Nat.reduceEqDiff, Nat.reduceAdd, Nat.reduceLT, Nat.reduceLeDiff, Nat.reduceBEq, Nat.reduceMul, Nat.reduceSub, Nat.reduceDiv, Int.reduceNeg, Int.reduceLT, Int.reduceLE, Int.reduceEq, Int.reduceToNat, lk36, lk149, wd]
  refine dops_pure' (hs) rfl rfl (by first | exact wk_refls _ | (repeat constructor)) (by kernel_rfl) ?_
  simp (config := { maxSteps := 2000000 }) only [go_sem, reduceIte, Nat.reduceEqDiff, Nat.reduceAdd, Nat.reduceLT, Nat.reduceLeDiff, Nat.reduceBEq, Nat.reduceMul, Nat.reduceSub, Nat.reduceDiv, Int.reduceNeg, Int.reduceLT, Int.reduceLE, Int.reduceEq, Int.reduceToNat, lk36, lk149, wm]
  refine goE_loop (bad := []) (kp := kp36) (fun i : Nat => { slots := [(1, ints l), (7, .c (.dp (netD r zf zf))), (8, I (bndP r l i)), (43, postsV r.ps), (44, I r.ps.length), (45, I i)], heap := [.cells (roadC r)], marks := [] }) (fun i => i ≤ r.ps.length) (fun i => r.ps.length - i) 0 mo (by kernel_rfl) ?_ (Nat.zero_le _) ?_
  · refine ent_weaken [] rfl rfl (Nat.zero_le _) rfl rfl ?_
    simp (config := { maxSteps := 2000000 }) only [go_sem, reduceIte, Nat.reduceEqDiff, Nat.reduceAdd, Nat.reduceLT, Nat.reduceLeDiff, Nat.reduceBEq, Nat.reduceMul, Nat.reduceSub, Nat.reduceDiv, Int.reduceNeg, Int.reduceLT, Int.reduceLE, Int.reduceEq, Int.reduceToNat, lk36, lk149, ints, roadC, postsV, bndP]
    all_goals first | exact .refl _ | exact ⟨.refl _, .refl _⟩ | exact ⟨.refl _, .refl _, .refl _⟩ | exact ⟨.refl _, _, rfl⟩ | exact ⟨_, rfl⟩ | exact ⟨.refl _, [], by simp⟩ | exact ⟨[], by simp⟩
  rintro i hi
  simp (config := { maxSteps := 2000000 }) only [go_sem, reduceIte, Nat.reduceEqDiff, Nat.reduceAdd, Nat.reduceLT, Nat.reduceLeDiff, Nat.reduceBEq, Nat.reduceMul, Nat.reduceSub, Nat.reduceDiv, Int.reduceNeg, Int.reduceLT, Int.reduceLE, Int.reduceEq, Int.reduceToNat, lk36, lk149, ints, roadC, postsV]
  refine goE_if (fun h => ?_) (fun h => ?_)
  · have hlt : i < r.ps.length := by simpa using h
    obtain ⟨hp, q0, q1, q2, q3, q4⟩ := hr.post (i := (i : Int)) (by omega) (by omega)
    have hp : r.ps[i]? = some (po r i) := hp
    have c6 : (decide ((0 : Int) ≤ (i : Int)) && decide ((i : Int) < (r.ps.length : Int))) = true := by simp; omega
    have b1 := bndP_bnd hr hx hl i hi
    have b2 := bndP_bnd hr hx hl (i + 1) hlt
    have b3 := litS_bnd (r := r) hx (i : Int) l.length
    have hf0 : 0 ≤ rFrom r i := by have := hr.i0; simp only [rFrom]; omega
    have hto : rTo r i ≤ l.length := by have := hr.i0; simp only [rTo]; omega
    simp (config := { maxSteps := 2000000 }) only [go_sem, reduceIte, Nat.reduceEqDiff, Nat.reduceAdd, Nat.reduceLT, Nat.reduceLeDiff, Nat.reduceBEq, Nat.reduceMul, Nat.reduceSub, Nat.reduceDiv, Int.reduceNeg, Int.reduceLT, Int.reduceLE, Int.reduceEq, Int.reduceToNat, lk36, lk149, hp, pD, c6]
    refine aops_pure' (reach59 r zf zf i hr (by omega) (by omega)) rfl rfl (by first | exact wk_refls _ | (repeat constructor)) ?_
    by_cases hft : rFrom r i < rTo r i
    · have hsl := slice_sum (l := l) hf0 hft l.length
      rw [Nat.min_eq_right (by omega)] at hsl
      have hs2 := sum58 ((l.take (rTo r i).toNat).drop (rFrom r i).toNat) (fun y hy => hx y (List.mem_of_mem_take (List.mem_of_mem_drop hy))) (by simp; omega)
      rw [← hsl] at hs2
      simp only [ints, List.map_drop, List.map_take] at hs2
      have c1 : decide (0 ≤ rFrom r i) = true := decide_eq_true hf0
      have c2 : decide (rFrom r i ≤ rTo r i) = true := decide_eq_true (by omega)
      have c3 : decide (rTo r i ≤ (l.length : Int)) = true := decide_eq_true hto
      simp (config := { maxSteps := 2000000 }) only [go_sem, reduceIte, Nat.reduceEqDiff, Nat.reduceAdd, Nat.reduceLT, Nat.reduceLeDiff, Nat.reduceBEq, Nat.reduceMul, Nat.reduceSub, Nat.reduceDiv, Int.reduceNeg, Int.reduceLT, Int.reduceLE, Int.reduceEq, Int.reduceToNat, lk36, lk149, hft, bound, c1, c2, c3]
      refine ⟨by simp [iD], ?_⟩
      refine dops_pure' (hs2) rfl rfl (by first | exact wk_refls _ | (repeat constructor)) (by kernel_rfl) ?_
      have w3 : wr .i64 (litS r l i l.length - (po r i).co) = litS r l i l.length - (po r i).co := wr_id (by omega) (by omega)
      have w4 : wr .i64 (bndP r l i - max 0 (litS r l i l.length - (po r i).co)) = bndP r l (i + 1) := by
        simp only [bndP] at b2 ⊢
        exact wr_id (by omega) (by omega)
      simp (config := { maxSteps := 2000000 }) only [go_sem, reduceIte, Nat.reduceEqDiff, Nat.reduceAdd, Nat.reduceLT, Nat.reduceLeDiff, Nat.reduceBEq, Nat.reduceMul, Nat.reduceSub, Nat.reduceDiv, Int.reduceNeg, Int.reduceLT, Int.reduceLE, Int.reduceEq, Int.reduceToNat, lk36, lk149, intsOf, maxL, w3, w4, wr_succ hlt (show r.ps.length ≤ 140737488355328 by omega)]
      refine ⟨i + 1, hlt, by omega, ?_⟩
      refine ent_weaken [.cells (pC (po r i))] rfl rfl (Nat.zero_le _) rfl rfl ?_
      simp (config := { maxSteps := 2000000 }) only [go_sem, reduceIte, Nat.reduceEqDiff, Nat.reduceAdd, Nat.reduceLT, Nat.reduceLeDiff, Nat.reduceBEq, Nat.reduceMul, Nat.reduceSub, Nat.reduceDiv, Int.reduceNeg, Int.reduceLT, Int.reduceLE, Int.reduceEq, Int.reduceToNat, lk36, lk149]
    · have hb2 : bndP r l (i + 1) = bndP r l i := by
        simp only [bndP]
        rw [lit_none hft, Int.max_def]; split <;> omega
      simp (config := { maxSteps := 2000000 }) only [go_sem, reduceIte, Nat.reduceEqDiff, Nat.reduceAdd, Nat.reduceLT, Nat.reduceLeDiff, Nat.reduceBEq, Nat.reduceMul, Nat.reduceSub, Nat.reduceDiv, Int.reduceNeg, Int.reduceLT, Int.reduceLE, Int.reduceEq, Int.reduceToNat, lk36, lk149, hft, wr_succ hlt (show r.ps.length ≤ 140737488355328 by omega)]
      refine ⟨i + 1, hlt, by omega, ?_⟩
      refine ent_weaken [.cells (pC (po r i))] rfl rfl (Nat.zero_le _) rfl rfl ?_
      simp (config := { maxSteps := 2000000 }) only [go_sem, reduceIte, Nat.reduceEqDiff, Nat.reduceAdd, Nat.reduceLT, Nat.reduceLeDiff, Nat.reduceBEq, Nat.reduceMul, Nat.reduceSub, Nat.reduceDiv, Int.reduceNeg, Int.reduceLT, Int.reduceLE, Int.reduceEq, Int.reduceToNat, lk36, lk149, hb2]
  · have hi' : i = r.ps.length := by simp at h; omega
    subst hi'
    simp (config := { maxSteps := 2000000 }) only [go_sem, reduceIte, Nat.reduceEqDiff, Nat.reduceAdd, Nat.reduceLT, Nat.reduceLeDiff, Nat.reduceBEq, Nat.reduceMul, Nat.reduceSub, Nat.reduceDiv, Int.reduceNeg, Int.reduceLT, Int.reduceLE, Int.reduceEq, Int.reduceToNat, lk36, lk149]

end Go.Proofs.YtfgdbeijjbijnaaGreatDoor

/- The cheapest ways through a street: solve. -/
set_option linter.unusedSimpArgs false
set_option linter.unusedVariables false
set_option maxRecDepth 100000
namespace Go.Proofs.YtfgdbeijjbijnaaGreatDoor
open Go Go.Abs Go.Proofs
def kp77 : List (Nat × List Nat) := [(0, [0, 2]), (1, [0, 2, 4]), (2, [0, 2, 4, 14, 15]), (3, [0, 2, 4, 14, 15, 16]), (4, [0, 2, 4, 14, 15]), (5, [0, 2, 4, 5, 14, 15]), (6, [0, 2, 4, 5, 14, 15, 29]), (7, [2, 3]), (8, [0, 2, 4, 5, 6, 14, 15]), (9, [0, 2, 4, 5, 6, 14, 15, 37]), (10, [0, 2, 4, 5, 6, 7, 8, 14, 15]), (11, [0, 2, 4, 5, 6, 7, 14, 15, 45]), (12, [0, 2, 4, 5, 6, 7, 14, 15]), (13, [0, 2, 4, 5, 6, 7, 14, 15, 49]), (14, [2, 3]), (15, [0, 2, 4, 5, 7, 14, 15]), (16, [0, 2, 4, 5, 7, 14, 15]), (17, [0, 2, 4, 5, 6, 14, 15]), (18, [0, 2, 4, 14, 15]), (19, [2, 3])]
theorem lk77 : lookK kp77 0 = some [0, 2] ∧ lookK kp77 1 = some [0, 2, 4] ∧ lookK kp77 2 = some [0, 2, 4, 14, 15] ∧ lookK kp77 3 = some [0, 2, 4, 14, 15, 16] ∧ lookK kp77 4 = some [0, 2, 4, 14, 15] ∧ lookK kp77 5 = some [0, 2, 4, 5, 14, 15] ∧ lookK kp77 6 = some [0, 2, 4, 5, 14, 15, 29] ∧ lookK kp77 7 = some [2, 3] ∧ lookK kp77 8 = some [0, 2, 4, 5, 6, 14, 15] ∧ lookK kp77 9 = some [0, 2, 4, 5, 6, 14, 15, 37] ∧ lookK kp77 10 = some [0, 2, 4, 5, 6, 7, 8, 14, 15] ∧ lookK kp77 11 = some [0, 2, 4, 5, 6, 7, 14, 15, 45] ∧ lookK kp77 12 = some [0, 2, 4, 5, 6, 7, 14, 15] ∧ lookK kp77 13 = some [0, 2, 4, 5, 6, 7, 14, 15, 49] ∧ lookK kp77 14 = some [2, 3] ∧ lookK kp77 15 = some [0, 2, 4, 5, 7, 14, 15] ∧ lookK kp77 16 = some [0, 2, 4, 5, 7, 14, 15] ∧ lookK kp77 17 = some [0, 2, 4, 5, 6, 14, 15] ∧ lookK kp77 18 = some [0, 2, 4, 14, 15] ∧ lookK kp77 19 = some [2, 3] := ⟨rfl, rfl, rfl, rfl, rfl, rfl, rfl, rfl, rfl, rfl, rfl, rfl, rfl, rfl, rfl, rfl, rfl, rfl, rfl, rfl⟩

def FPw (r : Rd) (w : W) (f5 : Nat → Int) : FP := ⟨r, w.1, w.2, zf, f5, zf, .skip, .skip⟩
def HS (r : Rd) (w : W) : List AB := [.gl 0 noneD, .cells (roadC r), .cells (roadC r), .cells (netC r w.1 w.2)]
theorem HS_low (r : Rd) (w : W) (n : Nat) : (HS r w).all (AB.low n) = true := by
  simp only [HS, List.all_cons, List.all_nil, AB.low, netC_low, roadC_low, Bool.and_self]
/-- In the midst of a way. -/
def HP (r : Rd) (w : W) (far : Nat → Int) (es : List (Int × Stp)) : List AB :=
  [.gl 0 noneD, .cells (roadC r), .cells (roadC r), .cells (netC r w.1 w.2), .cells (numsC 41 zf), .cells (numsC 41 far), .cells (numsC 41 far), .cells (numsC 41 far), .mp (byE es)]
theorem HP_low (r : Rd) (w : W) (far : Nat → Int) (es : List (Int × Stp)) (n : Nat) : (HP r w far es).all (AB.low n) = true := by
  simp only [HP, List.all_cons, List.all_nil, AB.low, netC_low, roadC_low, numsC_low, byE_low, Bool.and_self]
theorem take64' (r : Rd) (w : W) (far : Nat → Int) (es : List (Int × Stp)) (s t : Stp) (hs : OkT s) :
    ACall Tryz.prog 162 [.c (.ptr 3 0), sV s] (HP r w far es ++ [.cells (sC t)]) (one (.tup []) (HP r (takeS s w) far es ++ [.cells (sC t)])) :=
  take64 (FPw r w far) [.cells (numsC 41 zf), .cells (numsC 41 far), .cells (numsC 41 far), .cells (numsC 41 far), .mp (byE es), .cells (sC t)] s hs (fun st bk => by
    simp only [HN, List.all_append, List.all_cons, List.all_nil, AB.low, netC_low, roadC_low, numsC_low, byE_low, Bool.and_self]; rfl)
theorem find63' (r : Rd) (w : W) (f5 : Nat → Int) (qf : FS) (n : Nat) (hr : OkR r) (hst : ∀ i, 0 ≤ w.1 i ∧ w.1 i ≤ 1) (hf : findR (stepsL r w.1 w.2) n q0 = some qf) :
    ACall Tryz.prog 161 [.c (.ptr 3 0)] (HS r w ++ [.cells (numsC 41 zf), .cells (numsC 41 f5)]) (one (.tup [.agg (numsC 41 qf.far), .c (.mp 8)]) (HS r w ++ [.cells (numsC 41 zf), .cells (numsC 41 f5), .cells (numsC 41 qf.far), .cells (numsC 41 qf.far), .mp (byE qf.by')])) :=
  find63 (FPw r w f5) qf n hr hst hf
theorem OkT.ne {s : Stp} (h : OkT s) : s.po ≠ -2 := fun e => by
  have := h.post (by omega); omega

set_option maxHeartbeats 8000000 in
theorem solve54 (r : Rd) (w : W) (m : Nat) (b : Bool) (w' : W) (far : Nat → Int) (hr : OkR r) (hst : ∀ i, 0 ≤ w.1 i ∧ w.1 i ≤ 1) (hw : waysR r m (r.de.toNat + 1) w zf = some (b, w', far)) :
    ACall Tryz.prog 77 [.c (.ptr 3 0)] (HS r w) (one (.tup [.agg (numsC 41 far), B b]) (HS r w')) := by
  refine ACall.drop2 (by simp [HS]) rfl (HS_low _ _ _) ?_
  refine acall_fitE (bad := []) (kp := kp77) (X := tx) (nt := 60) (rs := [.cell 2 162, .tmp 3]) Tryz.func77 rfl rfl rfl rfl mo (by kernel_rfl) (fun hf' => ?_)
  have hz : List.replicate 41 (C.d (D.int .i64 0)) = numsC 41 zf := by rfl
  have nl := netC_len r w.1 w.2
  have n1 := nC1 r w.1 w.2
  have d0 := hr.d0
  have d2 := hr.d2
  have p1 := hr.p1
  have p40 := hr.p40
  have wd : wr .i64 (r.de + 1) = r.de + 1 := wr_id (by omega) (by omega)
  simp (config := { maxSteps := 2000000 }) only [go_sem, reduceIte, Nat.reduceEqDiff, Nat.reduceAdd, Nat.reduceLT, Nat.reduceLeDiff, Nat.reduceBEq, Nat.reduceMul, Nat.reduceSub, Nat.reduceDiv, Int.reduceNeg, Int.reduceLT, Int.reduceLE, Int.reduceEq, Int.reduceToNat, lk77, HS, hz, nl, n1, wd]
  refine goE_loop (bad := []) (kp := kp77) (fun a : Nat × W × (Nat → Int) => { slots := [(0, .c (.ptr 3 0)), (2, .c (.ptr 4 0)), (4, .c (.ptr 5 0)), (14, I (r.de + 1)), (15, I (a.1 : Int))], heap := HS r a.2.1 ++ [.cells (numsC 41 zf), .cells (numsC 41 a.2.2)], marks := [] })
    (fun a => a.1 ≤ r.de.toNat + 1 ∧ (∀ i, 0 ≤ a.2.1.1 i ∧ a.2.1.1 i ≤ 1) ∧ waysR r m (r.de.toNat + 1 - a.1) a.2.1 a.2.2 = some (b, w', far)) (fun a => r.de.toNat + 1 - a.1) (0, w, zf) mo (by kernel_rfl) ?_ ⟨Nat.zero_le _, hst, hw⟩ ?_
  · refine ent_weaken [] (by simp only [HS, List.append_nil]; rfl) rfl (show 4 ≤ 6 by decide) (by rw [List.all_append, HS_low]; simp only [List.all_cons, List.all_nil, AB.low, numsC_low, Bool.and_self]) rfl ?_
    simp (config := { maxSteps := 2000000 }) only [go_sem, reduceIte, Nat.reduceEqDiff, Nat.reduceAdd, Nat.reduceLT, Nat.reduceLeDiff, Nat.reduceBEq, Nat.reduceMul, Nat.reduceSub, Nat.reduceDiv, Int.reduceNeg, Int.reduceLT, Int.reduceLE, Int.reduceEq, Int.reduceToNat, lk77, HS]
    all_goals first | exact .refl _ | exact ⟨.refl _, .refl _⟩ | exact ⟨.refl _, .refl _, .refl _⟩ | exact ⟨.refl _, _, rfl⟩ | exact ⟨_, rfl⟩ | exact ⟨.refl _, [], by simp⟩ | exact ⟨[], by simp⟩
  clear hst hw nl n1
  rintro ⟨k, w, f5⟩ ⟨hk, hst, hw⟩
  simp only at hk hst hw
  simp (config := { maxSteps := 2000000 }) only [go_sem, reduceIte, Nat.reduceEqDiff, Nat.reduceAdd, Nat.reduceLT, Nat.reduceLeDiff, Nat.reduceBEq, Nat.reduceMul, Nat.reduceSub, Nat.reduceDiv, Int.reduceNeg, Int.reduceLT, Int.reduceLE, Int.reduceEq, Int.reduceToNat, lk77, HS]
  refine goE_if (fun h => ?_) (fun h => ?_)
  · have hlt : k < r.de.toNat + 1 := by simp at h; omega
    have hsub : r.de.toNat + 1 - k = (r.de.toNat - k) + 1 := by omega
    rw [hsub, waysR] at hw
    cases hfd : findR (stepsL r w.1 w.2) m q0 with
    | none => rw [hfd] at hw; cases hw
    | some q =>
    rw [hfd] at hw
    simp only at hw
    have hl := find63' r w f5 q m hr hst hfd
    simp only [HS, List.cons_append, List.nil_append] at hl
    simp (config := { maxSteps := 2000000 }) only [go_sem, reduceIte, Nat.reduceEqDiff, Nat.reduceAdd, Nat.reduceLT, Nat.reduceLeDiff, Nat.reduceBEq, Nat.reduceMul, Nat.reduceSub, Nat.reduceDiv, Int.reduceNeg, Int.reduceLT, Int.reduceLE, Int.reduceEq, Int.reduceToNat, lk77]
    refine aops_at (hl) rfl rfl (by first | exact wk_refls _ | (repeat constructor)) ?_
    have nl := netC_len r w.1 w.2
    have n0 := nC0 r w.1 w.2
    have gl := numsC_len 41 q.far
    have g1 := numsC_get q.far (j := r.pl.toNat) (n := 41) (by omega)
    have c1 : (decide ((0 : Int) ≤ r.pl) && decide (r.pl < ((41 : Nat) : Int))) = true := by simp; omega
    have c2 : decide (r.pl.toNat + 1 ≤ 41) = true := by simp; omega
    have c2' : decide (r.pl.toNat ≤ 40) = true := by simp; omega
    have gl5 := numsC_len 41 f5
    simp (config := { maxSteps := 2000000 }) only [go_sem, reduceIte, Nat.reduceEqDiff, Nat.reduceAdd, Nat.reduceLT, Nat.reduceLeDiff, Nat.reduceBEq, Nat.reduceMul, Nat.reduceSub, Nat.reduceDiv, Int.reduceNeg, Int.reduceLT, Int.reduceLE, Int.reduceEq, Int.reduceToNat, lk77, set_all, nl, n0, gl, gl5, g1, c1, c2, c2', Nat.mul_one]
    by_cases hnev : q.far r.pl.toNat = never
    · rw [if_pos hnev] at hw
      simp only [Option.some.injEq, Prod.mk.injEq] at hw
      obtain ⟨rfl, rfl, rfl⟩ := hw
      have hnev' : q.far r.pl.toNat = 1125899906842624 := hnev
      have glz := numsC_len 41 zf
      simp (config := { maxSteps := 2000000 }) only [go_sem, reduceIte, Nat.reduceEqDiff, Nat.reduceAdd, Nat.reduceLT, Nat.reduceLeDiff, Nat.reduceBEq, Nat.reduceMul, Nat.reduceSub, Nat.reduceDiv, Int.reduceNeg, Int.reduceLT, Int.reduceLE, Int.reduceEq, Int.reduceToNat, lk77, hnev', hz, set_all, glz, take_all, fillC]
      exact ⟨_, rfl⟩
    have hnev' : ¬ q.far r.pl.toNat = 1125899906842624 := hnev
    rw [if_neg hnev] at hw
    have hby : ∀ e ∈ q.by', OkT e.2 := findR_by (P := OkT) (steps_okT hr) hfd (fun e he => by cases he)
    cases hpt : pathR m r.pl q.by' w with
    | none => rw [hpt] at hw; cases hw
    | some res =>
    rw [hpt] at hw
    simp (config := { maxSteps := 2000000 }) only [go_sem, reduceIte, Nat.reduceEqDiff, Nat.reduceAdd, Nat.reduceLT, Nat.reduceLeDiff, Nat.reduceBEq, Nat.reduceMul, Nat.reduceSub, Nat.reduceDiv, Int.reduceNeg, Int.reduceLT, Int.reduceLE, Int.reduceEq, Int.reduceToNat, lk77, hnev', nl, n0]
    refine goE_loop (bad := []) (kp := kp77) (fun a : Nat × Int × List (Int × Stp) × W => { slots := [(0, .c (.ptr 3 0)), (2, .c (.ptr 4 0)), (4, .c (.ptr 5 0)), (5, .c (.mp 8)), (6, I a.2.1), (14, I (r.de + 1)), (15, I (k : Int))], heap := HP r a.2.2.2 q.far a.2.2.1, marks := [] })
      (fun a => (∀ i, 0 ≤ a.2.2.2.1 i ∧ a.2.2.2.1 i ≤ 1) ∧ (∀ e ∈ a.2.2.1, OkT e.2) ∧ pathR a.1 a.2.1 a.2.2.1 a.2.2.2 = some res) (fun a => a.1) (m, r.pl, q.by', w) mo (by kernel_rfl) ?_ ⟨hst, hby, hpt⟩ ?_
    · refine ent_weaken [] (by simp only [HP, List.append_nil]) rfl (show 4 ≤ 9 by decide) (HP_low _ _ _ _ _) rfl ?_
      simp (config := { maxSteps := 2000000 }) only [go_sem, reduceIte, Nat.reduceEqDiff, Nat.reduceAdd, Nat.reduceLT, Nat.reduceLeDiff, Nat.reduceBEq, Nat.reduceMul, Nat.reduceSub, Nat.reduceDiv, Int.reduceNeg, Int.reduceLT, Int.reduceLE, Int.reduceEq, Int.reduceToNat, lk77, HP]
    clear hpt hby hst hfd hl h
    rintro ⟨n, at', es, w⟩ ⟨hst, hby, hpt⟩
    simp only at hst hby hpt
    cases n with
    | zero => cases hpt
    | succ n =>
    simp (config := { maxSteps := 2000000 }) only [go_sem, reduceIte, Nat.reduceEqDiff, Nat.reduceAdd, Nat.reduceLT, Nat.reduceLeDiff, Nat.reduceBEq, Nat.reduceMul, Nat.reduceSub, Nat.reduceDiv, Int.reduceNeg, Int.reduceLT, Int.reduceLE, Int.reduceEq, Int.reduceToNat, lk77, HP]
    refine goE_if (fun h => ?_) (fun h => ?_)
    · have hat : at' ≠ 0 := by simpa using h
      rw [pathR, if_neg hat] at hpt
      cases hfn : fnd at' es 0 with
      | none =>
        rw [hfn] at hpt
        cases hpt
        have hw : some (false, w, zf) = some (b, w', far) := hw
        cases hw
        have glz := numsC_len 41 zf
        simp (config := { maxSteps := 2000000 }) only [go_sem, reduceIte, Nat.reduceEqDiff, Nat.reduceAdd, Nat.reduceLT, Nat.reduceLeDiff, Nat.reduceBEq, Nat.reduceMul, Nat.reduceSub, Nat.reduceDiv, Int.reduceNeg, Int.reduceLT, Int.reduceLE, Int.reduceEq, Int.reduceToNat, lk77, findE_byI, hfn, keyOk, lookV, glOf, noneD, eqCs, eqC, hz, set_all, glz, take_all, fillC, Option.isSome_none, decide_eq_true_eq]
        exact ⟨_, rfl⟩
      | some is =>
        obtain ⟨i, s⟩ := is
        rw [hfn] at hpt
        have hpt : pathR n s.fr (delB at' es) (takeS s w) = some res := hpt
        have hdel : ∀ x, delE (byE es) (some (i, x)) = byE (delB at' es) := fun x => by
          simp only [delE, delB, hfn, byE]; exact erase_map _ _ _
        have hs : OkT s := hby (at', s) (fnd_mem hfn)
        have hne := hs.ne
        simp (config := { maxSteps := 2000000 }) only [go_sem, reduceIte, Nat.reduceEqDiff, Nat.reduceAdd, Nat.reduceLT, Nat.reduceLeDiff, Nat.reduceBEq, Nat.reduceMul, Nat.reduceSub, Nat.reduceDiv, Int.reduceNeg, Int.reduceLT, Int.reduceLE, Int.reduceEq, Int.reduceToNat, lk77, findE_byI, hfn, keyOk, lookV, glOf, noneD, eqCs, eqC, sV, sC, hne, hdel]
        have hl2 := take64' r w q.far (delB at' es) s s hs
        simp only [HP, sV, sC, List.cons_append, List.nil_append, noneD] at hl2
        refine aops_at (hl2) rfl rfl (by first | exact wk_refls _ | (repeat constructor)) ?_
        simp (config := { maxSteps := 2000000 }) only [go_sem, reduceIte, Nat.reduceEqDiff, Nat.reduceAdd, Nat.reduceLT, Nat.reduceLeDiff, Nat.reduceBEq, Nat.reduceMul, Nat.reduceSub, Nat.reduceDiv, Int.reduceNeg, Int.reduceLT, Int.reduceLE, Int.reduceEq, Int.reduceToNat, lk77]
        refine ⟨(n, s.fr, delB at' es, takeS s w), ⟨takeS_st hst, fun e he => hby e (delB_mem he), hpt⟩, Nat.lt_succ_self n, ?_⟩
        refine ent_weaken [AB.cells (sC s)] (by simp only [HP, sC]; rfl) rfl (show 4 ≤ 9 by decide) (HP_low _ _ _ _ _) rfl ?_
        simp (config := { maxSteps := 2000000 }) only [go_sem, reduceIte, Nat.reduceEqDiff, Nat.reduceAdd, Nat.reduceLT, Nat.reduceLeDiff, Nat.reduceBEq, Nat.reduceMul, Nat.reduceSub, Nat.reduceDiv, Int.reduceNeg, Int.reduceLT, Int.reduceLE, Int.reduceEq, Int.reduceToNat, lk77, HP]
    · have hat : at' = 0 := by simpa using h
      rw [pathR, if_pos hat] at hpt
      cases hpt
      have hw : waysR r m (r.de.toNat - k) w q.far = some (b, w', far) := hw
      simp (config := { maxSteps := 2000000 }) only [go_sem, reduceIte, Nat.reduceEqDiff, Nat.reduceAdd, Nat.reduceLT, Nat.reduceLeDiff, Nat.reduceBEq, Nat.reduceMul, Nat.reduceSub, Nat.reduceDiv, Int.reduceNeg, Int.reduceLT, Int.reduceLE, Int.reduceEq, Int.reduceToNat, lk77, wr_succ hlt (show r.de.toNat + 1 ≤ 140737488355328 by omega)]
      refine ⟨(k + 1, w, q.far), ⟨by omega, hst, by rw [show r.de.toNat + 1 - (k + 1) = r.de.toNat - k by omega]; exact hw⟩, by omega, ?_⟩
      refine ent_weaken [AB.cells (numsC 41 q.far), AB.cells (numsC 41 q.far), AB.mp (byE es)] (by simp only [HS]; rfl) rfl (show 4 ≤ 6 by decide) (by simp only [List.all_cons, List.all_nil, AB.low, numsC_low, netC_low, roadC_low, Bool.and_self]) rfl ?_
      simp (config := { maxSteps := 2000000 }) only [go_sem, reduceIte, Nat.reduceEqDiff, Nat.reduceAdd, Nat.reduceLT, Nat.reduceLeDiff, Nat.reduceBEq, Nat.reduceMul, Nat.reduceSub, Nat.reduceDiv, Int.reduceNeg, Int.reduceLT, Int.reduceLE, Int.reduceEq, Int.reduceToNat, lk77, HS]
  · have hk' : k = r.de.toNat + 1 := by simp at h; omega
    subst hk'
    rw [Nat.sub_self, waysR] at hw
    simp only [Option.some.injEq, Prod.mk.injEq] at hw
    obtain ⟨rfl, rfl, rfl⟩ := hw
    have gl5 := numsC_len 41 f5
    simp (config := { maxSteps := 2000000 }) only [go_sem, reduceIte, Nat.reduceEqDiff, Nat.reduceAdd, Nat.reduceLT, Nat.reduceLeDiff, Nat.reduceBEq, Nat.reduceMul, Nat.reduceSub, Nat.reduceDiv, Int.reduceNeg, Int.reduceLT, Int.reduceLE, Int.reduceEq, Int.reduceToNat, lk77, set_all, gl5, take_all, numsC_len]
    exact ⟨_, rfl⟩
end Go.Proofs.YtfgdbeijjbijnaaGreatDoor

