/- The least and the greatest number; sums; open, Lit, Check. -/
import Derived.Test.YteamgbndnfjoaaaDoorS4
import Derived.Test.YteamgbndnfjoaaaDoorMK
set_option linter.unusedSimpArgs false
set_option linter.unusedVariables false
set_option maxRecDepth 100000
namespace Go.Proofs.YteamgbndnfjoaaaDoor
open Go Go.Abs Go.Proofs
def kp43 : List (Nat × List Nat) := [(0, [0]), (1, [0, 7]), (2, [0]), (3, [0, 3]), (4, [0, 3, 4]), (5, [0, 3, 4, 15]), (6, [0, 3, 4]), (7, [0, 3, 4]), (8, [2])]
theorem lk43 : lookK kp43 0 = some [0] ∧ lookK kp43 1 = some [0, 7] ∧ lookK kp43 2 = some [0] ∧ lookK kp43 3 = some [0, 3] ∧ lookK kp43 4 = some [0, 3, 4] ∧ lookK kp43 5 = some [0, 3, 4, 15] ∧ lookK kp43 6 = some [0, 3, 4] ∧ lookK kp43 7 = some [0, 3, 4] ∧ lookK kp43 8 = some [2] := ⟨rfl, rfl, rfl, rfl, rfl, rfl, rfl, rfl, rfl⟩
def kp56 : List (Nat × List Nat) := [(0, [0]), (1, [0, 7]), (2, [0]), (3, [0, 3]), (4, [0, 3, 4]), (5, [0, 3, 4, 15]), (6, [0, 3, 4]), (7, [0, 3, 4]), (8, [2])]
theorem lk56 : lookK kp56 0 = some [0] ∧ lookK kp56 1 = some [0, 7] ∧ lookK kp56 2 = some [0] ∧ lookK kp56 3 = some [0, 3] ∧ lookK kp56 4 = some [0, 3, 4] ∧ lookK kp56 5 = some [0, 3, 4, 15] ∧ lookK kp56 6 = some [0, 3, 4] ∧ lookK kp56 7 = some [0, 3, 4] ∧ lookK kp56 8 = some [2] := ⟨rfl, rfl, rfl, rfl, rfl, rfl, rfl, rfl, rfl⟩
def kp57 : List (Nat × List Nat) := [(0, [0]), (1, [0, 7]), (2, [0]), (3, [0, 3]), (4, [0, 3, 4]), (5, [0, 3, 4, 15]), (6, [0, 3, 4]), (7, [0, 3, 4]), (8, [2])]
theorem lk57 : lookK kp57 0 = some [0] ∧ lookK kp57 1 = some [0, 7] ∧ lookK kp57 2 = some [0] ∧ lookK kp57 3 = some [0, 3] ∧ lookK kp57 4 = some [0, 3, 4] ∧ lookK kp57 5 = some [0, 3, 4, 15] ∧ lookK kp57 6 = some [0, 3, 4] ∧ lookK kp57 7 = some [0, 3, 4] ∧ lookK kp57 8 = some [2] := ⟨rfl, rfl, rfl, rfl, rfl, rfl, rfl, rfl, rfl⟩
def kp58 : List (Nat × List Nat) := [(0, [0]), (1, [0, 3]), (2, [3, 6, 7, 8]), (3, [3, 6, 7, 8, 9]), (4, [3, 5, 6, 7, 8]), (5, [3, 6, 7, 8]), (6, [3, 6, 7, 8]), (7, [2])]
theorem lk58 : lookK kp58 0 = some [0] ∧ lookK kp58 1 = some [0, 3] ∧ lookK kp58 2 = some [3, 6, 7, 8] ∧ lookK kp58 3 = some [3, 6, 7, 8, 9] ∧ lookK kp58 4 = some [3, 5, 6, 7, 8] ∧ lookK kp58 5 = some [3, 6, 7, 8] ∧ lookK kp58 6 = some [3, 6, 7, 8] ∧ lookK kp58 7 = some [2] := ⟨rfl, rfl, rfl, rfl, rfl, rfl, rfl, rfl⟩
def kp40 : List (Nat × List Nat) := [(0, [1, 2]), (1, [1, 2, 6]), (2, [1, 2, 6, 13]), (3, [4, 5]), (4, [1, 2, 20]), (5, [4, 5]), (6, [1, 7]), (7, [7, 23, 24, 25]), (8, [7, 23, 24, 25, 26]), (9, [7, 9, 23, 24, 25]), (10, [7, 23, 24, 25]), (11, [7, 23, 24, 25]), (12, [4, 5])]
theorem lk40 : lookK kp40 0 = some [1, 2] ∧ lookK kp40 1 = some [1, 2, 6] ∧ lookK kp40 2 = some [1, 2, 6, 13] ∧ lookK kp40 3 = some [4, 5] ∧ lookK kp40 4 = some [1, 2, 20] ∧ lookK kp40 5 = some [4, 5] ∧ lookK kp40 6 = some [1, 7] ∧ lookK kp40 7 = some [7, 23, 24, 25] ∧ lookK kp40 8 = some [7, 23, 24, 25, 26] ∧ lookK kp40 9 = some [7, 9, 23, 24, 25] ∧ lookK kp40 10 = some [7, 23, 24, 25] ∧ lookK kp40 11 = some [7, 23, 24, 25] ∧ lookK kp40 12 = some [4, 5] := ⟨rfl, rfl, rfl, rfl, rfl, rfl, rfl, rfl, rfl, rfl, rfl, rfl, rfl⟩
def kp15 : List (Nat × List Nat) := [(0, [1, 2]), (1, [6, 7]), (2, [6, 7, 15]), (3, [4, 5]), (4, [4, 5])]
theorem lk15 : lookK kp15 0 = some [1, 2] ∧ lookK kp15 1 = some [6, 7] ∧ lookK kp15 2 = some [6, 7, 15] ∧ lookK kp15 3 = some [4, 5] ∧ lookK kp15 4 = some [4, 5] := ⟨rfl, rfl, rfl, rfl, rfl⟩
def kp17 : List (Nat × List Nat) := [(0, [1, 2]), (1, [2, 6, 7]), (2, [2, 6, 7, 15]), (3, [4, 5]), (4, [6, 22]), (5, [4, 5]), (6, [4, 5])]
theorem lk17 : lookK kp17 0 = some [1, 2] ∧ lookK kp17 1 = some [2, 6, 7] ∧ lookK kp17 2 = some [2, 6, 7, 15] ∧ lookK kp17 3 = some [4, 5] ∧ lookK kp17 4 = some [6, 22] ∧ lookK kp17 5 = some [4, 5] ∧ lookK kp17 6 = some [4, 5] := ⟨rfl, rfl, rfl, rfl, rfl, rfl, rfl⟩

theorem minL_snoc : ∀ (l : List Int) (m y : Int), minL m (l ++ [y]) = min (minL m l) y
  | [], m, y => rfl
  | x :: l, m, y => minL_snoc l (min m x) y
theorem maxL_snoc : ∀ (l : List Int) (m y : Int), maxL m (l ++ [y]) = max (maxL m l) y
  | [], m, y => rfl
  | x :: l, m, y => maxL_snoc l (max m x) y
theorem wr_succ2 {i n : Nat} (h : i < n) (hn : n ≤ 140737488355328) : wr .i64 (((i + 1 : Nat) : Int) + 1) = ((i + 2 : Nat) : Int) := by rw [wr_i64] <;> omega

set_option maxHeartbeats 1000000 in
theorem min43 (x : Int) (l : List Int) : Pure Tryd.prog 43 [ints (x :: l)] (I (minL x l)) := by
  refine pure_wkE (bad := []) (kp := kp43) (X := tx) (nt := 25) (rs := [.tmp 2]) Tryd.func43 rfl rfl rfl rfl mo (by kernel_rfl) rfl rfl (fun hf => ?_)
  have hfit := fit_ints (hf (ints (x :: l)) (by simp))
  have hfit : l.length + 1 ≤ 140737488355328 := by simpa using hfit
  have h0 : ¬ ((l.length + 1 : Nat) : Int) < 1 := by omega
  have h0' : ¬ ((l.length : Int) + 1) < 1 := by omega
  have cx : (0 : Int) < ((l.length + 1 : Nat) : Int) := by omega
  simp (config := { maxSteps := 2000000 }) only [go_sem, reduceIte, Nat.reduceEqDiff, Nat.reduceAdd, Nat.reduceLT, Nat.reduceLeDiff, Nat.reduceBEq, Nat.reduceMul, Nat.reduceSub, Nat.reduceDiv, Int.reduceNeg, Int.reduceLT, Int.reduceLE, Int.reduceEq, Int.reduceToNat, fillC, zc, List.replicate_succ, List.replicate_zero, List.flatten_cons, List.flatten_nil, toDs, toD, chunk, placeS, srcRows, List.all_cons, List.all_nil, List.all_map, Function.comp_def, List.take_nil, List.drop_nil, List.toList_toArray, C.eqbL, eqCs, eqC, List.drop_one, List.tail_cons, lim, lk43, lk56, lk57, lk58, lk40, lk15, lk17, ints, h0, h0', iD, cx]
  refine goE_loop (bad := []) (kp := kp43) (fun i : Nat => { slots := [(0, ints (x :: l)), (3, I (minL x (l.take i))), (4, I ((i + 1 : Nat) : Int))], heap := [], marks := [] }) (fun i => i ≤ l.length) (fun i => l.length - i) 0 mo (by kernel_rfl) ?_ (Nat.zero_le _) ?_
  · refine ent_weaken [] rfl rfl (Nat.zero_le _) rfl rfl ?_
    simp (config := { maxSteps := 2000000 }) only [go_sem, reduceIte, Nat.reduceEqDiff, Nat.reduceAdd, Nat.reduceLT, Nat.reduceLeDiff, Nat.reduceBEq, Nat.reduceMul, Nat.reduceSub, Nat.reduceDiv, Int.reduceNeg, Int.reduceLT, Int.reduceLE, Int.reduceEq, Int.reduceToNat, fillC, zc, List.replicate_succ, List.replicate_zero, List.flatten_cons, List.flatten_nil, toDs, toD, chunk, placeS, srcRows, List.all_cons, List.all_nil, List.all_map, Function.comp_def, List.take_nil, List.drop_nil, List.toList_toArray, C.eqbL, eqCs, eqC, List.drop_one, List.tail_cons, lim, lk43, lk56, lk57, lk58, lk40, lk15, lk17, ints, iD, minL]
    try exact .refl _
  rintro i hi
  simp (config := { maxSteps := 2000000 }) only [go_sem, reduceIte, Nat.reduceEqDiff, Nat.reduceAdd, Nat.reduceLT, Nat.reduceLeDiff, Nat.reduceBEq, Nat.reduceMul, Nat.reduceSub, Nat.reduceDiv, Int.reduceNeg, Int.reduceLT, Int.reduceLE, Int.reduceEq, Int.reduceToNat, fillC, zc, List.replicate_succ, List.replicate_zero, List.flatten_cons, List.flatten_nil, toDs, toD, chunk, placeS, srcRows, List.all_cons, List.all_nil, List.all_map, Function.comp_def, List.take_nil, List.drop_nil, List.toList_toArray, C.eqbL, eqCs, eqC, List.drop_one, List.tail_cons, lim, lk43, lk56, lk57, lk58, lk40, lk15, lk17, ints]
  refine goE_if (fun h => ?_) (fun h => ?_)
  · have hlt : i < l.length := by simp at h; omega
    obtain ⟨y, hy⟩ := get_of_lt hlt
    have c1 : (decide ((0 : Int) ≤ ((i + 1 : Nat) : Int)) && decide (((i + 1 : Nat) : Int) < ((l.length + 1 : Nat) : Int))) = true := by simp; omega
    simp (config := { maxSteps := 2000000 }) only [go_sem, reduceIte, Nat.reduceEqDiff, Nat.reduceAdd, Nat.reduceLT, Nat.reduceLeDiff, Nat.reduceBEq, Nat.reduceMul, Nat.reduceSub, Nat.reduceDiv, Int.reduceNeg, Int.reduceLT, Int.reduceLE, Int.reduceEq, Int.reduceToNat, fillC, zc, List.replicate_succ, List.replicate_zero, List.flatten_cons, List.flatten_nil, toDs, toD, chunk, placeS, srcRows, List.all_cons, List.all_nil, List.all_map, Function.comp_def, List.take_nil, List.drop_nil, List.toList_toArray, C.eqbL, eqCs, eqC, List.drop_one, List.tail_cons, lim, lk43, lk56, lk57, lk58, lk40, lk15, lk17, hy, iD, c1, intsOf, minL, wr_succ2 hlt (show l.length ≤ 140737488355328 by omega)]
    refine ⟨i + 1, hlt, by omega, ?_⟩
    refine ent_weaken [] rfl rfl (Nat.zero_le _) rfl rfl ?_
    simp (config := { maxSteps := 2000000 }) only [go_sem, reduceIte, Nat.reduceEqDiff, Nat.reduceAdd, Nat.reduceLT, Nat.reduceLeDiff, Nat.reduceBEq, Nat.reduceMul, Nat.reduceSub, Nat.reduceDiv, Int.reduceNeg, Int.reduceLT, Int.reduceLE, Int.reduceEq, Int.reduceToNat, fillC, zc, List.replicate_succ, List.replicate_zero, List.flatten_cons, List.flatten_nil, toDs, toD, chunk, placeS, srcRows, List.all_cons, List.all_nil, List.all_map, Function.comp_def, List.take_nil, List.drop_nil, List.toList_toArray, C.eqbL, eqCs, eqC, List.drop_one, List.tail_cons, lim, lk43, lk56, lk57, lk58, lk40, lk15, lk17, take_succ_eq hy, minL_snoc]
    try exact .refl _
  · have hi' : i = l.length := by simp at h; omega
    subst hi'
    simp (config := { maxSteps := 2000000 }) only [go_sem, reduceIte, Nat.reduceEqDiff, Nat.reduceAdd, Nat.reduceLT, Nat.reduceLeDiff, Nat.reduceBEq, Nat.reduceMul, Nat.reduceSub, Nat.reduceDiv, Int.reduceNeg, Int.reduceLT, Int.reduceLE, Int.reduceEq, Int.reduceToNat, fillC, zc, List.replicate_succ, List.replicate_zero, List.flatten_cons, List.flatten_nil, toDs, toD, chunk, placeS, srcRows, List.all_cons, List.all_nil, List.all_map, Function.comp_def, List.take_nil, List.drop_nil, List.toList_toArray, C.eqbL, eqCs, eqC, List.drop_one, List.tail_cons, lim, lk43, lk56, lk57, lk58, lk40, lk15, lk17, List.take_length]

set_option maxHeartbeats 1000000 in
theorem min56 (x : Int) (l : List Int) : Pure Tryd.prog 56 [ints (x :: l)] (I (minL x l)) := by
  refine pure_wkE (bad := []) (kp := kp56) (X := tx) (nt := 25) (rs := [.tmp 2]) Tryd.func56 rfl rfl rfl rfl mo (by kernel_rfl) rfl rfl (fun hf => ?_)
  have hfit := fit_ints (hf (ints (x :: l)) (by simp))
  have hfit : l.length + 1 ≤ 140737488355328 := by simpa using hfit
  have h0 : ¬ ((l.length + 1 : Nat) : Int) < 1 := by omega
  have h0' : ¬ ((l.length : Int) + 1) < 1 := by omega
  have cx : (0 : Int) < ((l.length + 1 : Nat) : Int) := by omega
  simp (config := { maxSteps := 2000000 }) only [go_sem, reduceIte, Nat.reduceEqDiff, Nat.reduceAdd, Nat.reduceLT, Nat.reduceLeDiff, Nat.reduceBEq, Nat.reduceMul, Nat.reduceSub, Nat.reduceDiv, Int.reduceNeg, Int.reduceLT, Int.reduceLE, Int.reduceEq, Int.reduceToNat, fillC, zc, List.replicate_succ, List.replicate_zero, List.flatten_cons, List.flatten_nil, toDs, toD, chunk, placeS, srcRows, List.all_cons, List.all_nil, List.all_map, Function.comp_def, List.take_nil, List.drop_nil, List.toList_toArray, C.eqbL, eqCs, eqC, List.drop_one, List.tail_cons, lim, lk43, lk56, lk57, lk58, lk40, lk15, lk17, ints, h0, h0', iD, cx]
  refine goE_loop (bad := []) (kp := kp56) (fun i : Nat => { slots := [(0, ints (x :: l)), (3, I (minL x (l.take i))), (4, I ((i + 1 : Nat) : Int))], heap := [], marks := [] }) (fun i => i ≤ l.length) (fun i => l.length - i) 0 mo (by kernel_rfl) ?_ (Nat.zero_le _) ?_
  · refine ent_weaken [] rfl rfl (Nat.zero_le _) rfl rfl ?_
    simp (config := { maxSteps := 2000000 }) only [go_sem, reduceIte, Nat.reduceEqDiff, Nat.reduceAdd, Nat.reduceLT, Nat.reduceLeDiff, Nat.reduceBEq, Nat.reduceMul, Nat.reduceSub, Nat.reduceDiv, Int.reduceNeg, Int.reduceLT, Int.reduceLE, Int.reduceEq, Int.reduceToNat, fillC, zc, List.replicate_succ, List.replicate_zero, List.flatten_cons, List.flatten_nil, toDs, toD, chunk, placeS, srcRows, List.all_cons, List.all_nil, List.all_map, Function.comp_def, List.take_nil, List.drop_nil, List.toList_toArray, C.eqbL, eqCs, eqC, List.drop_one, List.tail_cons, lim, lk43, lk56, lk57, lk58, lk40, lk15, lk17, ints, iD, minL]
    try exact .refl _
  rintro i hi
  simp (config := { maxSteps := 2000000 }) only [go_sem, reduceIte, Nat.reduceEqDiff, Nat.reduceAdd, Nat.reduceLT, Nat.reduceLeDiff, Nat.reduceBEq, Nat.reduceMul, Nat.reduceSub, Nat.reduceDiv, Int.reduceNeg, Int.reduceLT, Int.reduceLE, Int.reduceEq, Int.reduceToNat, fillC, zc, List.replicate_succ, List.replicate_zero, List.flatten_cons, List.flatten_nil, toDs, toD, chunk, placeS, srcRows, List.all_cons, List.all_nil, List.all_map, Function.comp_def, List.take_nil, List.drop_nil, List.toList_toArray, C.eqbL, eqCs, eqC, List.drop_one, List.tail_cons, lim, lk43, lk56, lk57, lk58, lk40, lk15, lk17, ints]
  refine goE_if (fun h => ?_) (fun h => ?_)
  · have hlt : i < l.length := by simp at h; omega
    obtain ⟨y, hy⟩ := get_of_lt hlt
    have c1 : (decide ((0 : Int) ≤ ((i + 1 : Nat) : Int)) && decide (((i + 1 : Nat) : Int) < ((l.length + 1 : Nat) : Int))) = true := by simp; omega
    simp (config := { maxSteps := 2000000 }) only [go_sem, reduceIte, Nat.reduceEqDiff, Nat.reduceAdd, Nat.reduceLT, Nat.reduceLeDiff, Nat.reduceBEq, Nat.reduceMul, Nat.reduceSub, Nat.reduceDiv, Int.reduceNeg, Int.reduceLT, Int.reduceLE, Int.reduceEq, Int.reduceToNat, fillC, zc, List.replicate_succ, List.replicate_zero, List.flatten_cons, List.flatten_nil, toDs, toD, chunk, placeS, srcRows, List.all_cons, List.all_nil, List.all_map, Function.comp_def, List.take_nil, List.drop_nil, List.toList_toArray, C.eqbL, eqCs, eqC, List.drop_one, List.tail_cons, lim, lk43, lk56, lk57, lk58, lk40, lk15, lk17, hy, iD, c1, intsOf, minL, wr_succ2 hlt (show l.length ≤ 140737488355328 by omega)]
    refine ⟨i + 1, hlt, by omega, ?_⟩
    refine ent_weaken [] rfl rfl (Nat.zero_le _) rfl rfl ?_
    simp (config := { maxSteps := 2000000 }) only [go_sem, reduceIte, Nat.reduceEqDiff, Nat.reduceAdd, Nat.reduceLT, Nat.reduceLeDiff, Nat.reduceBEq, Nat.reduceMul, Nat.reduceSub, Nat.reduceDiv, Int.reduceNeg, Int.reduceLT, Int.reduceLE, Int.reduceEq, Int.reduceToNat, fillC, zc, List.replicate_succ, List.replicate_zero, List.flatten_cons, List.flatten_nil, toDs, toD, chunk, placeS, srcRows, List.all_cons, List.all_nil, List.all_map, Function.comp_def, List.take_nil, List.drop_nil, List.toList_toArray, C.eqbL, eqCs, eqC, List.drop_one, List.tail_cons, lim, lk43, lk56, lk57, lk58, lk40, lk15, lk17, take_succ_eq hy, minL_snoc]
    try exact .refl _
  · have hi' : i = l.length := by simp at h; omega
    subst hi'
    simp (config := { maxSteps := 2000000 }) only [go_sem, reduceIte, Nat.reduceEqDiff, Nat.reduceAdd, Nat.reduceLT, Nat.reduceLeDiff, Nat.reduceBEq, Nat.reduceMul, Nat.reduceSub, Nat.reduceDiv, Int.reduceNeg, Int.reduceLT, Int.reduceLE, Int.reduceEq, Int.reduceToNat, fillC, zc, List.replicate_succ, List.replicate_zero, List.flatten_cons, List.flatten_nil, toDs, toD, chunk, placeS, srcRows, List.all_cons, List.all_nil, List.all_map, Function.comp_def, List.take_nil, List.drop_nil, List.toList_toArray, C.eqbL, eqCs, eqC, List.drop_one, List.tail_cons, lim, lk43, lk56, lk57, lk58, lk40, lk15, lk17, List.take_length]

set_option maxHeartbeats 1000000 in
theorem max57 (x : Int) (l : List Int) : Pure Tryd.prog 57 [ints (x :: l)] (I (maxL x l)) := by
  refine pure_wkE (bad := []) (kp := kp57) (X := tx) (nt := 25) (rs := [.tmp 2]) Tryd.func57 rfl rfl rfl rfl mo (by kernel_rfl) rfl rfl (fun hf => ?_)
  have hfit := fit_ints (hf (ints (x :: l)) (by simp))
  have hfit : l.length + 1 ≤ 140737488355328 := by simpa using hfit
  have h0 : ¬ ((l.length + 1 : Nat) : Int) < 1 := by omega
  have h0' : ¬ ((l.length : Int) + 1) < 1 := by omega
  have cx : (0 : Int) < ((l.length + 1 : Nat) : Int) := by omega
  simp (config := { maxSteps := 2000000 }) only [go_sem, reduceIte, Nat.reduceEqDiff, Nat.reduceAdd, Nat.reduceLT, Nat.reduceLeDiff, Nat.reduceBEq, Nat.reduceMul, Nat.reduceSub, Nat.reduceDiv, Int.reduceNeg, Int.reduceLT, Int.reduceLE, Int.reduceEq, Int.reduceToNat, fillC, zc, List.replicate_succ, List.replicate_zero, List.flatten_cons, List.flatten_nil, toDs, toD, chunk, placeS, srcRows, List.all_cons, List.all_nil, List.all_map, Function.comp_def, List.take_nil, List.drop_nil, List.toList_toArray, C.eqbL, eqCs, eqC, List.drop_one, List.tail_cons, lim, lk43, lk56, lk57, lk58, lk40, lk15, lk17, ints, h0, h0', iD, cx]
  refine goE_loop (bad := []) (kp := kp57) (fun i : Nat => { slots := [(0, ints (x :: l)), (3, I (maxL x (l.take i))), (4, I ((i + 1 : Nat) : Int))], heap := [], marks := [] }) (fun i => i ≤ l.length) (fun i => l.length - i) 0 mo (by kernel_rfl) ?_ (Nat.zero_le _) ?_
  · refine ent_weaken [] rfl rfl (Nat.zero_le _) rfl rfl ?_
    simp (config := { maxSteps := 2000000 }) only [go_sem, reduceIte, Nat.reduceEqDiff, Nat.reduceAdd, Nat.reduceLT, Nat.reduceLeDiff, Nat.reduceBEq, Nat.reduceMul, Nat.reduceSub, Nat.reduceDiv, Int.reduceNeg, Int.reduceLT, Int.reduceLE, Int.reduceEq, Int.reduceToNat, fillC, zc, List.replicate_succ, List.replicate_zero, List.flatten_cons, List.flatten_nil, toDs, toD, chunk, placeS, srcRows, List.all_cons, List.all_nil, List.all_map, Function.comp_def, List.take_nil, List.drop_nil, List.toList_toArray, C.eqbL, eqCs, eqC, List.drop_one, List.tail_cons, lim, lk43, lk56, lk57, lk58, lk40, lk15, lk17, ints, iD, maxL]
    try exact .refl _
  rintro i hi
  simp (config := { maxSteps := 2000000 }) only [go_sem, reduceIte, Nat.reduceEqDiff, Nat.reduceAdd, Nat.reduceLT, Nat.reduceLeDiff, Nat.reduceBEq, Nat.reduceMul, Nat.reduceSub, Nat.reduceDiv, Int.reduceNeg, Int.reduceLT, Int.reduceLE, Int.reduceEq, Int.reduceToNat, fillC, zc, List.replicate_succ, List.replicate_zero, List.flatten_cons, List.flatten_nil, toDs, toD, chunk, placeS, srcRows, List.all_cons, List.all_nil, List.all_map, Function.comp_def, List.take_nil, List.drop_nil, List.toList_toArray, C.eqbL, eqCs, eqC, List.drop_one, List.tail_cons, lim, lk43, lk56, lk57, lk58, lk40, lk15, lk17, ints]
  refine goE_if (fun h => ?_) (fun h => ?_)
  · have hlt : i < l.length := by simp at h; omega
    obtain ⟨y, hy⟩ := get_of_lt hlt
    have c1 : (decide ((0 : Int) ≤ ((i + 1 : Nat) : Int)) && decide (((i + 1 : Nat) : Int) < ((l.length + 1 : Nat) : Int))) = true := by simp; omega
    simp (config := { maxSteps := 2000000 }) only [go_sem, reduceIte, Nat.reduceEqDiff, Nat.reduceAdd, Nat.reduceLT, Nat.reduceLeDiff, Nat.reduceBEq, Nat.reduceMul, Nat.reduceSub, Nat.reduceDiv, Int.reduceNeg, Int.reduceLT, Int.reduceLE, Int.reduceEq, Int.reduceToNat, fillC, zc, List.replicate_succ, List.replicate_zero, List.flatten_cons, List.flatten_nil, toDs, toD, chunk, placeS, srcRows, List.all_cons, List.all_nil, List.all_map, Function.comp_def, List.take_nil, List.drop_nil, List.toList_toArray, C.eqbL, eqCs, eqC, List.drop_one, List.tail_cons, lim, lk43, lk56, lk57, lk58, lk40, lk15, lk17, hy, iD, c1, intsOf, maxL, wr_succ2 hlt (show l.length ≤ 140737488355328 by omega)]
    refine ⟨i + 1, hlt, by omega, ?_⟩
    refine ent_weaken [] rfl rfl (Nat.zero_le _) rfl rfl ?_
    simp (config := { maxSteps := 2000000 }) only [go_sem, reduceIte, Nat.reduceEqDiff, Nat.reduceAdd, Nat.reduceLT, Nat.reduceLeDiff, Nat.reduceBEq, Nat.reduceMul, Nat.reduceSub, Nat.reduceDiv, Int.reduceNeg, Int.reduceLT, Int.reduceLE, Int.reduceEq, Int.reduceToNat, fillC, zc, List.replicate_succ, List.replicate_zero, List.flatten_cons, List.flatten_nil, toDs, toD, chunk, placeS, srcRows, List.all_cons, List.all_nil, List.all_map, Function.comp_def, List.take_nil, List.drop_nil, List.toList_toArray, C.eqbL, eqCs, eqC, List.drop_one, List.tail_cons, lim, lk43, lk56, lk57, lk58, lk40, lk15, lk17, take_succ_eq hy, maxL_snoc]
    try exact .refl _
  · have hi' : i = l.length := by simp at h; omega
    subst hi'
    simp (config := { maxSteps := 2000000 }) only [go_sem, reduceIte, Nat.reduceEqDiff, Nat.reduceAdd, Nat.reduceLT, Nat.reduceLeDiff, Nat.reduceBEq, Nat.reduceMul, Nat.reduceSub, Nat.reduceDiv, Int.reduceNeg, Int.reduceLT, Int.reduceLE, Int.reduceEq, Int.reduceToNat, fillC, zc, List.replicate_succ, List.replicate_zero, List.flatten_cons, List.flatten_nil, toDs, toD, chunk, placeS, srcRows, List.all_cons, List.all_nil, List.all_map, Function.comp_def, List.take_nil, List.drop_nil, List.toList_toArray, C.eqbL, eqCs, eqC, List.drop_one, List.tail_cons, lim, lk43, lk56, lk57, lk58, lk40, lk15, lk17, List.take_length]

theorem sum_take_succ {l : List Int} {i : Nat} {x : Int} (h : l[i]? = some x) : (l.take (i + 1)).sum = (l.take i).sum + x := by
  rw [take_succ_eq h, List.sum_append]; simp
theorem sum_bnd : ∀ (l : List Int) (k : Nat), (∀ x ∈ l, 0 ≤ x ∧ x ≤ 1099511627776) → 0 ≤ (l.take k).sum ∧ (l.take k).sum ≤ 1099511627776 * k
  | [], k, _ => by simp; omega
  | x :: l, 0, _ => by simp
  | x :: l, k + 1, h => by
    have h1 := h x (by simp)
    have h2 := sum_bnd l k (fun y hy => h y (List.mem_cons_of_mem _ hy))
    simp only [List.take_succ_cons, List.sum_cons]
    omega
set_option maxHeartbeats 1000000 in
theorem sum58 (l : List Int) (hb : ∀ x ∈ l, 0 ≤ x ∧ x ≤ 1099511627776) (hl : l.length ≤ 100) : Pure Tryd.prog 58 [ints l] (I l.sum) := by
  refine pure_wkE (bad := []) (kp := kp58) (X := tx) (nt := 17) (rs := [.tmp 2]) Tryd.func58 rfl rfl rfl rfl mo (by kernel_rfl) rfl rfl (fun hf => ?_)
  simp (config := { maxSteps := 2000000 }) only [go_sem, reduceIte, Nat.reduceEqDiff, Nat.reduceAdd, Nat.reduceLT, Nat.reduceLeDiff, Nat.reduceBEq, Nat.reduceMul, Nat.reduceSub, Nat.reduceDiv, Int.reduceNeg, Int.reduceLT, Int.reduceLE, Int.reduceEq, Int.reduceToNat, fillC, zc, List.replicate_succ, List.replicate_zero, List.flatten_cons, List.flatten_nil, toDs, toD, chunk, placeS, srcRows, List.all_cons, List.all_nil, List.all_map, Function.comp_def, List.take_nil, List.drop_nil, List.toList_toArray, C.eqbL, eqCs, eqC, List.drop_one, List.tail_cons, lim, lk43, lk56, lk57, lk58, lk40, lk15, lk17, ints]
  refine goE_loop (bad := []) (kp := kp58) (fun i : Nat => { slots := [(3, I (l.take i).sum), (6, ints l), (7, I l.length), (8, I i)], heap := [], marks := [] }) (fun i => i ≤ l.length) (fun i => l.length - i) 0 mo (by kernel_rfl) ?_ (Nat.zero_le _) ?_
  · refine ent_weaken [] rfl rfl (Nat.zero_le _) rfl rfl ?_
    simp (config := { maxSteps := 2000000 }) only [go_sem, reduceIte, Nat.reduceEqDiff, Nat.reduceAdd, Nat.reduceLT, Nat.reduceLeDiff, Nat.reduceBEq, Nat.reduceMul, Nat.reduceSub, Nat.reduceDiv, Int.reduceNeg, Int.reduceLT, Int.reduceLE, Int.reduceEq, Int.reduceToNat, fillC, zc, List.replicate_succ, List.replicate_zero, List.flatten_cons, List.flatten_nil, toDs, toD, chunk, placeS, srcRows, List.all_cons, List.all_nil, List.all_map, Function.comp_def, List.take_nil, List.drop_nil, List.toList_toArray, C.eqbL, eqCs, eqC, List.drop_one, List.tail_cons, lim, lk43, lk56, lk57, lk58, lk40, lk15, lk17, ints, List.sum_nil]
    try exact .refl _
  rintro i hi
  simp (config := { maxSteps := 2000000 }) only [go_sem, reduceIte, Nat.reduceEqDiff, Nat.reduceAdd, Nat.reduceLT, Nat.reduceLeDiff, Nat.reduceBEq, Nat.reduceMul, Nat.reduceSub, Nat.reduceDiv, Int.reduceNeg, Int.reduceLT, Int.reduceLE, Int.reduceEq, Int.reduceToNat, fillC, zc, List.replicate_succ, List.replicate_zero, List.flatten_cons, List.flatten_nil, toDs, toD, chunk, placeS, srcRows, List.all_cons, List.all_nil, List.all_map, Function.comp_def, List.take_nil, List.drop_nil, List.toList_toArray, C.eqbL, eqCs, eqC, List.drop_one, List.tail_cons, lim, lk43, lk56, lk57, lk58, lk40, lk15, lk17, ints]
  refine goE_if (fun h => ?_) (fun h => ?_)
  · have hlt : i < l.length := by simpa using h
    obtain ⟨x, hx⟩ := get_of_lt hlt
    have b1 := sum_bnd l i hb
    have b2 := hb x (List.mem_of_getElem? hx)
    have w1 : wr .i64 ((l.take i).sum + x) = (l.take (i + 1)).sum := by rw [sum_take_succ hx]; exact wr_id (by omega) (by omega)
    have c1 : (decide ((0 : Int) ≤ (i : Int)) && decide ((i : Int) < (l.length : Int))) = true := by simp; omega
    simp (config := { maxSteps := 2000000 }) only [go_sem, reduceIte, Nat.reduceEqDiff, Nat.reduceAdd, Nat.reduceLT, Nat.reduceLeDiff, Nat.reduceBEq, Nat.reduceMul, Nat.reduceSub, Nat.reduceDiv, Int.reduceNeg, Int.reduceLT, Int.reduceLE, Int.reduceEq, Int.reduceToNat, fillC, zc, List.replicate_succ, List.replicate_zero, List.flatten_cons, List.flatten_nil, toDs, toD, chunk, placeS, srcRows, List.all_cons, List.all_nil, List.all_map, Function.comp_def, List.take_nil, List.drop_nil, List.toList_toArray, C.eqbL, eqCs, eqC, List.drop_one, List.tail_cons, lim, lk43, lk56, lk57, lk58, lk40, lk15, lk17, hx, iD, w1, c1, wr_succ hlt (show l.length ≤ 140737488355328 by omega)]
    refine ⟨i + 1, hlt, by omega, ?_⟩
    refine ent_weaken [] rfl rfl (Nat.zero_le _) rfl rfl ?_
    simp (config := { maxSteps := 2000000 }) only [go_sem, reduceIte, Nat.reduceEqDiff, Nat.reduceAdd, Nat.reduceLT, Nat.reduceLeDiff, Nat.reduceBEq, Nat.reduceMul, Nat.reduceSub, Nat.reduceDiv, Int.reduceNeg, Int.reduceLT, Int.reduceLE, Int.reduceEq, Int.reduceToNat, fillC, zc, List.replicate_succ, List.replicate_zero, List.flatten_cons, List.flatten_nil, toDs, toD, chunk, placeS, srcRows, List.all_cons, List.all_nil, List.all_map, Function.comp_def, List.take_nil, List.drop_nil, List.toList_toArray, C.eqbL, eqCs, eqC, List.drop_one, List.tail_cons, lim, lk43, lk56, lk57, lk58, lk40, lk15, lk17]
  · have hi' : i = l.length := by simp at h; omega
    subst hi'
    simp (config := { maxSteps := 2000000 }) only [go_sem, reduceIte, Nat.reduceEqDiff, Nat.reduceAdd, Nat.reduceLT, Nat.reduceLeDiff, Nat.reduceBEq, Nat.reduceMul, Nat.reduceSub, Nat.reduceDiv, Int.reduceNeg, Int.reduceLT, Int.reduceLE, Int.reduceEq, Int.reduceToNat, fillC, zc, List.replicate_succ, List.replicate_zero, List.flatten_cons, List.flatten_nil, toDs, toD, chunk, placeS, srcRows, List.all_cons, List.all_nil, List.all_map, Function.comp_def, List.take_nil, List.drop_nil, List.toList_toArray, C.eqbL, eqCs, eqC, List.drop_one, List.tail_cons, lim, lk43, lk56, lk57, lk58, lk40, lk15, lk17, List.take_length]

/-- The posts of a choice, standing. -/
def ind (l : List Int) : Nat → Int := fun i => if (i : Int) ∈ l then 1 else 0
theorem ind_bnd (l : List Int) : ∀ i, 0 ≤ ind l i ∧ ind l i ≤ 1 := fun i => by unfold ind; split <;> omega
theorem rises_rng : ∀ {l : List Int} {a n : Int}, risesB l a n = true → ∀ x ∈ l, a < x ∧ x < n
  | [], _, _, _, x, hx => by simp at hx
  | y :: l, a, n, h, x, hx => by
    simp only [risesB, Bool.and_eq_true, decide_eq_true_eq] at h
    rcases List.mem_cons.1 hx with rfl | hx
    · exact h.1
    · have := rises_rng h.2 x hx; omega
/-- Those before a place, standing. -/
theorem ind_step {l : List Int} {k : Nat} {x : Int} (hx : l[k]? = some x) (h0 : 0 ≤ x) : upd (ind (l.take k)) x.toNat 1 = ind (l.take (k + 1)) := by
  funext j
  rw [take_succ_eq hx]
  simp only [upd, ind, List.mem_append, List.mem_cons, List.not_mem_nil, or_false]
  by_cases e : j = x.toNat
  · subst e
    have : ((x.toNat : Nat) : Int) = x := by omega
    simp [this]
  · have : ¬ (j : Int) = x := by omega
    simp [e, this]
theorem netD_set (r : Rd) (st bk : Nat → Int) {i : Nat} (h : i < 24) (v : Int) : (netC r st bk).set (4 + i) (.d (.int .i64 v)) = netC r (upd st i v) bk := by
  have h1 : (numsD 24 st ++ numsD 40 bk).set i (.int .i64 v) = numsD 24 (upd st i v) ++ numsD 40 bk := by
    rw [List.set_append_left _ _ (by rw [numsD_len]; exact h), numsD_set]
  rw [Nat.add_comm 4 i]
  show _ :: _ :: _ :: _ :: ((numsD 24 st ++ numsD 40 bk).map C.d).set i _ = _
  rw [← List.map_set, h1]; rfl
theorem netC_len' (r : Rd) (st bk : Nat → Int) : (netC r st bk).length = 68 := by simp [netC, numsD_len]
set_option maxHeartbeats 1000000 in
theorem net53p (r : Rd) (H : List AB) : ACall Tryd.prog 53 [roadV r] H (one (.c (.ptr (H.length + 1) 0)) (H ++ [.cells (roadC r), .cells (netC r zf zf)])) := by
  refine acall_fit (X := tx) (nt := 6) (rs := [.tmp 2]) Tryd.func53 rfl rfl rfl rfl mo (by kernel_rfl) (fun hf => ?_)
  have hz : List.replicate 64 (C.d (D.int .i64 0)) = (numsD 24 zf ++ numsD 40 zf).map .d := by rfl
  have lc : ∀ x : AB, (H ++ [x])[H.length]? = some x := fun x => List.getElem?_concat_length
  simp (config := { maxSteps := 2000000 }) only [go_sem, reduceIte, Nat.reduceEqDiff, Nat.reduceAdd, Nat.reduceLT, Nat.reduceLeDiff, Nat.reduceBEq, Nat.reduceMul, Nat.reduceSub, Nat.reduceDiv, Int.reduceNeg, Int.reduceLT, Int.reduceLE, Int.reduceEq, Int.reduceToNat, fillC, zc, List.replicate_succ, List.replicate_zero, List.flatten_cons, List.flatten_nil, toDs, toD, chunk, placeS, srcRows, List.all_cons, List.all_nil, List.all_map, Function.comp_def, List.take_nil, List.drop_nil, List.toList_toArray, C.eqbL, eqCs, eqC, List.drop_one, List.tail_cons, lim, lk43, lk56, lk57, lk58, lk40, lk15, lk17, roadV, roadC, fillC, placeS, hz, lc, List.length_append, List.append_assoc]
  exact ⟨rfl, rfl⟩

/-- What a choice is. -/
def okCh (r : Rd) (l : List Int) : Int := if okRoad r ≠ 0 then okRoad r else if rises l r.ps.length = false then 3 else 0
def Hop (r : Rd) (st : Nat → Int) : List AB := [.cells (roadC r), .cells (roadC r), .cells (netC r st zf)]
theorem Hop_low (r : Rd) (st : Nat → Int) (n : Nat) : (Hop r st).all (AB.low n) = true := by
  simp only [Hop, List.all_cons, List.all_nil, AB.low, netC_low, roadC_low, Bool.and_self]
set_option maxHeartbeats 4000000 in
theorem open40_bad (r : Rd) (l : List Int) (h : okCh r l ≠ 0) : Pure Tryd.prog 40 [roadV r, ints l] (.tup [.c .nilp, I (okCh r l)]) := by
  refine pure_wkE (bad := []) (kp := kp40) (X := tx) (nt := 36) (rs := [.tmp 4, .tmp 5]) Tryd.func40 rfl rfl rfl rfl mo (by kernel_rfl) rfl rfl (fun hf => ?_)
  simp (config := { maxSteps := 2000000 }) only [go_sem, reduceIte, Nat.reduceEqDiff, Nat.reduceAdd, Nat.reduceLT, Nat.reduceLeDiff, Nat.reduceBEq, Nat.reduceMul, Nat.reduceSub, Nat.reduceDiv, Int.reduceNeg, Int.reduceLT, Int.reduceLE, Int.reduceEq, Int.reduceToNat, fillC, zc, List.replicate_succ, List.replicate_zero, List.flatten_cons, List.flatten_nil, toDs, toD, chunk, placeS, srcRows, List.all_cons, List.all_nil, List.all_map, Function.comp_def, List.take_nil, List.drop_nil, List.toList_toArray, C.eqbL, eqCs, eqC, List.drop_one, List.tail_cons, lim, lk43, lk56, lk57, lk58, lk40, lk15, lk17, roadV, roadC]
  refine aops_pure' (checkRoad19 r) rfl rfl (by first | exact wk_refls _ | (repeat constructor)) ?_
  by_cases h1 : okRoad r = 0
  · simp (config := { maxSteps := 2000000 }) only [go_sem, reduceIte, Nat.reduceEqDiff, Nat.reduceAdd, Nat.reduceLT, Nat.reduceLeDiff, Nat.reduceBEq, Nat.reduceMul, Nat.reduceSub, Nat.reduceDiv, Int.reduceNeg, Int.reduceLT, Int.reduceLE, Int.reduceEq, Int.reduceToNat, fillC, zc, List.replicate_succ, List.replicate_zero, List.flatten_cons, List.flatten_nil, toDs, toD, chunk, placeS, srcRows, List.all_cons, List.all_nil, List.all_map, Function.comp_def, List.take_nil, List.drop_nil, List.toList_toArray, C.eqbL, eqCs, eqC, List.drop_one, List.tail_cons, lim, lk43, lk56, lk57, lk58, lk40, lk15, lk17, h1]
    refine aops_pure' (rising48 l r.ps.length) rfl rfl (by first | exact wk_refls _ | (repeat constructor)) ?_
    have h2 : rises l r.ps.length = false := by
      cases h3 : rises l r.ps.length with
      | false => rfl
      | true => exact absurd (by simp [okCh, h1, h3]) h
    have e : okCh r l = 3 := by simp [okCh, h1, h2]
    simp (config := { maxSteps := 2000000 }) only [go_sem, reduceIte, Nat.reduceEqDiff, Nat.reduceAdd, Nat.reduceLT, Nat.reduceLeDiff, Nat.reduceBEq, Nat.reduceMul, Nat.reduceSub, Nat.reduceDiv, Int.reduceNeg, Int.reduceLT, Int.reduceLE, Int.reduceEq, Int.reduceToNat, fillC, zc, List.replicate_succ, List.replicate_zero, List.flatten_cons, List.flatten_nil, toDs, toD, chunk, placeS, srcRows, List.all_cons, List.all_nil, List.all_map, Function.comp_def, List.take_nil, List.drop_nil, List.toList_toArray, C.eqbL, eqCs, eqC, List.drop_one, List.tail_cons, lim, lk43, lk56, lk57, lk58, lk40, lk15, lk17, h2, e]
  · have e : okCh r l = okRoad r := by simp [okCh, h1]
    simp (config := { maxSteps := 2000000 }) only [go_sem, reduceIte, Nat.reduceEqDiff, Nat.reduceAdd, Nat.reduceLT, Nat.reduceLeDiff, Nat.reduceBEq, Nat.reduceMul, Nat.reduceSub, Nat.reduceDiv, Int.reduceNeg, Int.reduceLT, Int.reduceLE, Int.reduceEq, Int.reduceToNat, fillC, zc, List.replicate_succ, List.replicate_zero, List.flatten_cons, List.flatten_nil, toDs, toD, chunk, placeS, srcRows, List.all_cons, List.all_nil, List.all_map, Function.comp_def, List.take_nil, List.drop_nil, List.toList_toArray, C.eqbL, eqCs, eqC, List.drop_one, List.tail_cons, lim, lk43, lk56, lk57, lk58, lk40, lk15, lk17, h1, e]
theorem okCh_ok {r : Rd} {l : List Int} (h : okCh r l = 0) : OkR r ∧ rises l r.ps.length = true := by
  have hokr : okRoad r = 0 := by
    unfold okCh at h
    split at h
    · rename_i h1; exact absurd h h1
    · rename_i h1; simpa using h1
  refine ⟨okRoad_ok hokr, ?_⟩
  cases h3 : rises l r.ps.length with
  | true => rfl
  | false => simp [okCh, hokr, h3] at h
set_option maxHeartbeats 8000000 in
theorem open40a (r : Rd) (l : List Int) (h : okCh r l = 0) (post : V → List AB → Prop) (hk : post (.tup [.c (.ptr 2 0), I 0]) (Hop r (ind l))) : ACall Tryd.prog 40 [roadV r, ints l] [] post := by
  obtain ⟨hr, hris⟩ := okCh_ok h
  have hokr := hr.zero
  have hrng := rises_rng hris
  have hlen := hr.len
  refine acall_fitE (bad := []) (kp := kp40) (X := tx) (nt := 36) (rs := [.tmp 4, .tmp 5]) Tryd.func40 rfl rfl rfl rfl mo (by kernel_rfl) (fun hf => ?_)
  have hfit := fit_ints (hf (ints l) (by simp))
  have hlow : ∀ st, (Hop r st).all (AB.low (Hop r st).length) = true := fun st => by
    simp only [Hop, List.cons_append, List.nil_append, List.all_cons, List.all_nil, AB.low, netC_low, roadC_low, Bool.and_self]
  have hind0 : ind (l.take 0) = zf := by funext j; simp [ind, zf]
  simp (config := { maxSteps := 2000000 }) only [go_sem, reduceIte, Nat.reduceEqDiff, Nat.reduceAdd, Nat.reduceLT, Nat.reduceLeDiff, Nat.reduceBEq, Nat.reduceMul, Nat.reduceSub, Nat.reduceDiv, Int.reduceNeg, Int.reduceLT, Int.reduceLE, Int.reduceEq, Int.reduceToNat, fillC, zc, List.replicate_succ, List.replicate_zero, List.flatten_cons, List.flatten_nil, toDs, toD, chunk, placeS, srcRows, List.all_cons, List.all_nil, List.all_map, Function.comp_def, List.take_nil, List.drop_nil, List.toList_toArray, C.eqbL, eqCs, eqC, List.drop_one, List.tail_cons, lim, lk43, lk56, lk57, lk58, lk40, lk15, lk17, roadV, roadC]
  refine aops_pure' (checkRoad19 r) rfl rfl (by first | exact wk_refls _ | (repeat constructor)) ?_
  simp (config := { maxSteps := 2000000 }) only [go_sem, reduceIte, Nat.reduceEqDiff, Nat.reduceAdd, Nat.reduceLT, Nat.reduceLeDiff, Nat.reduceBEq, Nat.reduceMul, Nat.reduceSub, Nat.reduceDiv, Int.reduceNeg, Int.reduceLT, Int.reduceLE, Int.reduceEq, Int.reduceToNat, fillC, zc, List.replicate_succ, List.replicate_zero, List.flatten_cons, List.flatten_nil, toDs, toD, chunk, placeS, srcRows, List.all_cons, List.all_nil, List.all_map, Function.comp_def, List.take_nil, List.drop_nil, List.toList_toArray, C.eqbL, eqCs, eqC, List.drop_one, List.tail_cons, lim, lk43, lk56, lk57, lk58, lk40, lk15, lk17, hokr]
  refine aops_pure' (rising48 l r.ps.length) rfl rfl (by first | exact wk_refls _ | (repeat constructor)) ?_
  simp (config := { maxSteps := 2000000 }) only [go_sem, reduceIte, Nat.reduceEqDiff, Nat.reduceAdd, Nat.reduceLT, Nat.reduceLeDiff, Nat.reduceBEq, Nat.reduceMul, Nat.reduceSub, Nat.reduceDiv, Int.reduceNeg, Int.reduceLT, Int.reduceLE, Int.reduceEq, Int.reduceToNat, fillC, zc, List.replicate_succ, List.replicate_zero, List.flatten_cons, List.flatten_nil, toDs, toD, chunk, placeS, srcRows, List.all_cons, List.all_nil, List.all_map, Function.comp_def, List.take_nil, List.drop_nil, List.toList_toArray, C.eqbL, eqCs, eqC, List.drop_one, List.tail_cons, lim, lk43, lk56, lk57, lk58, lk40, lk15, lk17, hris]
  have hn := net53p r ([.cells (roadC r)])
  simp only [roadV, roadC, List.cons_append, List.nil_append] at hn
  refine aops_at (hn) rfl rfl (by first | exact wk_refls _ | (repeat constructor)) ?_
  simp (config := { maxSteps := 2000000 }) only [go_sem, reduceIte, Nat.reduceEqDiff, Nat.reduceAdd, Nat.reduceLT, Nat.reduceLeDiff, Nat.reduceBEq, Nat.reduceMul, Nat.reduceSub, Nat.reduceDiv, Int.reduceNeg, Int.reduceLT, Int.reduceLE, Int.reduceEq, Int.reduceToNat, fillC, zc, List.replicate_succ, List.replicate_zero, List.flatten_cons, List.flatten_nil, toDs, toD, chunk, placeS, srcRows, List.all_cons, List.all_nil, List.all_map, Function.comp_def, List.take_nil, List.drop_nil, List.toList_toArray, C.eqbL, eqCs, eqC, List.drop_one, List.tail_cons, lim, lk43, lk56, lk57, lk58, lk40, lk15, lk17, ints]
  refine goE_loop (bad := []) (kp := kp40) (fun i : Nat => { slots := [(7, .c (.ptr 2 0)), (23, ints l), (24, I l.length), (25, I i)], heap := Hop r (ind (l.take i)), marks := [] }) (fun i => i ≤ l.length) (fun i => l.length - i) 0 mo (by kernel_rfl) ?_ (Nat.zero_le _) ?_
  · refine ent_weaken [] (by simp only [Hop, hind0, List.append_nil]; rfl) rfl (show 0 ≤ 3 by decide) (hlow _) rfl ?_
    simp (config := { maxSteps := 2000000 }) only [go_sem, reduceIte, Nat.reduceEqDiff, Nat.reduceAdd, Nat.reduceLT, Nat.reduceLeDiff, Nat.reduceBEq, Nat.reduceMul, Nat.reduceSub, Nat.reduceDiv, Int.reduceNeg, Int.reduceLT, Int.reduceLE, Int.reduceEq, Int.reduceToNat, fillC, zc, List.replicate_succ, List.replicate_zero, List.flatten_cons, List.flatten_nil, toDs, toD, chunk, placeS, srcRows, List.all_cons, List.all_nil, List.all_map, Function.comp_def, List.take_nil, List.drop_nil, List.toList_toArray, C.eqbL, eqCs, eqC, List.drop_one, List.tail_cons, lim, lk43, lk56, lk57, lk58, lk40, lk15, lk17, ints, Hop]
    exact .refl _
  rintro i hi
  simp (config := { maxSteps := 2000000 }) only [go_sem, reduceIte, Nat.reduceEqDiff, Nat.reduceAdd, Nat.reduceLT, Nat.reduceLeDiff, Nat.reduceBEq, Nat.reduceMul, Nat.reduceSub, Nat.reduceDiv, Int.reduceNeg, Int.reduceLT, Int.reduceLE, Int.reduceEq, Int.reduceToNat, fillC, zc, List.replicate_succ, List.replicate_zero, List.flatten_cons, List.flatten_nil, toDs, toD, chunk, placeS, srcRows, List.all_cons, List.all_nil, List.all_map, Function.comp_def, List.take_nil, List.drop_nil, List.toList_toArray, C.eqbL, eqCs, eqC, List.drop_one, List.tail_cons, lim, lk43, lk56, lk57, lk58, lk40, lk15, lk17, ints, Hop]
  refine goE_if (fun h => ?_) (fun h => ?_)
  · have hlt : i < l.length := by simpa using h
    obtain ⟨x, hx⟩ := get_of_lt hlt
    obtain ⟨x0, x1⟩ := hrng x (List.mem_of_getElem? hx)
    have x0' : 0 ≤ x := by omega
    have c1 : (decide ((0 : Int) ≤ (i : Int)) && decide ((i : Int) < (l.length : Int))) = true := by simp; omega
    have c2 : (decide ((0 : Int) ≤ x) && decide (x < ((24 : Nat) : Int))) = true := by rw [decide_eq_true x0', decide_eq_true (show x < ((24 : Nat) : Int) by omega)]; rfl
    have c3 : decide (4 + x.toNat + 1 ≤ 68) = true := decide_eq_true (by omega)
    have c4 : decide (4 + x.toNat ≤ 67) = true := decide_eq_true (by omega)
    have nl := netC_len' r (ind (l.take i)) zf
    have ns := netD_set r (ind (l.take i)) zf (i := x.toNat) (by omega) 1
    have hst := ind_step hx (by omega)
    simp (config := { maxSteps := 2000000 }) only [go_sem, reduceIte, Nat.reduceEqDiff, Nat.reduceAdd, Nat.reduceLT, Nat.reduceLeDiff, Nat.reduceBEq, Nat.reduceMul, Nat.reduceSub, Nat.reduceDiv, Int.reduceNeg, Int.reduceLT, Int.reduceLE, Int.reduceEq, Int.reduceToNat, fillC, zc, List.replicate_succ, List.replicate_zero, List.flatten_cons, List.flatten_nil, toDs, toD, chunk, placeS, srcRows, List.all_cons, List.all_nil, List.all_map, Function.comp_def, List.take_nil, List.drop_nil, List.toList_toArray, C.eqbL, eqCs, eqC, List.drop_one, List.tail_cons, lim, lk43, lk56, lk57, lk58, lk40, lk15, lk17, hx, iD, c1, c2, c3, c4, nl, ns, hst, Nat.mul_one, wr_succ hlt hfit]
    refine ⟨i + 1, hlt, by omega, ?_⟩
    refine ent_weaken [] (by simp only [Hop, List.append_nil, List.cons_append, List.nil_append]) rfl (show 0 ≤ 3 by decide) (hlow _) rfl ?_
    simp (config := { maxSteps := 2000000 }) only [go_sem, reduceIte, Nat.reduceEqDiff, Nat.reduceAdd, Nat.reduceLT, Nat.reduceLeDiff, Nat.reduceBEq, Nat.reduceMul, Nat.reduceSub, Nat.reduceDiv, Int.reduceNeg, Int.reduceLT, Int.reduceLE, Int.reduceEq, Int.reduceToNat, fillC, zc, List.replicate_succ, List.replicate_zero, List.flatten_cons, List.flatten_nil, toDs, toD, chunk, placeS, srcRows, List.all_cons, List.all_nil, List.all_map, Function.comp_def, List.take_nil, List.drop_nil, List.toList_toArray, C.eqbL, eqCs, eqC, List.drop_one, List.tail_cons, lim, lk43, lk56, lk57, lk58, lk40, lk15, lk17, Hop]
  · have hi' : i = l.length := by simp at h; omega
    subst hi'
    rw [List.take_length]
    simp (config := { maxSteps := 2000000 }) only [go_sem, reduceIte, Nat.reduceEqDiff, Nat.reduceAdd, Nat.reduceLT, Nat.reduceLeDiff, Nat.reduceBEq, Nat.reduceMul, Nat.reduceSub, Nat.reduceDiv, Int.reduceNeg, Int.reduceLT, Int.reduceLE, Int.reduceEq, Int.reduceToNat, fillC, zc, List.replicate_succ, List.replicate_zero, List.flatten_cons, List.flatten_nil, toDs, toD, chunk, placeS, srcRows, List.all_cons, List.all_nil, List.all_map, Function.comp_def, List.take_nil, List.drop_nil, List.toList_toArray, C.eqbL, eqCs, eqC, List.drop_one, List.tail_cons, lim, lk43, lk56, lk57, lk58, lk40, lk15, lk17]
    exact hk
set_option maxHeartbeats 8000000 in
theorem open40b (r : Rd) (l : List Int) (h : okCh r l = 0) (post : V → List AB → Prop) (hk : post (.tup [.c (.ptr 3 0), I 0]) ([AB.cells (roadC r)] ++ Hop r (ind l))) : ACall Tryd.prog 40 [roadV r, ints l] [.cells (roadC r)] post := by
  obtain ⟨hr, hris⟩ := okCh_ok h
  have hokr := hr.zero
  have hrng := rises_rng hris
  have hlen := hr.len
  refine acall_fitE (bad := []) (kp := kp40) (X := tx) (nt := 36) (rs := [.tmp 4, .tmp 5]) Tryd.func40 rfl rfl rfl rfl mo (by kernel_rfl) (fun hf => ?_)
  have hfit := fit_ints (hf (ints l) (by simp))
  have hlow : ∀ st, ([AB.cells (roadC r)] ++ Hop r st).all (AB.low ([AB.cells (roadC r)] ++ Hop r st).length) = true := fun st => by
    simp only [Hop, List.cons_append, List.nil_append, List.all_cons, List.all_nil, AB.low, netC_low, roadC_low, Bool.and_self]
  have hind0 : ind (l.take 0) = zf := by funext j; simp [ind, zf]
  simp (config := { maxSteps := 2000000 }) only [go_sem, reduceIte, Nat.reduceEqDiff, Nat.reduceAdd, Nat.reduceLT, Nat.reduceLeDiff, Nat.reduceBEq, Nat.reduceMul, Nat.reduceSub, Nat.reduceDiv, Int.reduceNeg, Int.reduceLT, Int.reduceLE, Int.reduceEq, Int.reduceToNat, fillC, zc, List.replicate_succ, List.replicate_zero, List.flatten_cons, List.flatten_nil, toDs, toD, chunk, placeS, srcRows, List.all_cons, List.all_nil, List.all_map, Function.comp_def, List.take_nil, List.drop_nil, List.toList_toArray, C.eqbL, eqCs, eqC, List.drop_one, List.tail_cons, lim, lk43, lk56, lk57, lk58, lk40, lk15, lk17, roadV, roadC]
  refine aops_pure' (checkRoad19 r) rfl rfl (by first | exact wk_refls _ | (repeat constructor)) ?_
  simp (config := { maxSteps := 2000000 }) only [go_sem, reduceIte, Nat.reduceEqDiff, Nat.reduceAdd, Nat.reduceLT, Nat.reduceLeDiff, Nat.reduceBEq, Nat.reduceMul, Nat.reduceSub, Nat.reduceDiv, Int.reduceNeg, Int.reduceLT, Int.reduceLE, Int.reduceEq, Int.reduceToNat, fillC, zc, List.replicate_succ, List.replicate_zero, List.flatten_cons, List.flatten_nil, toDs, toD, chunk, placeS, srcRows, List.all_cons, List.all_nil, List.all_map, Function.comp_def, List.take_nil, List.drop_nil, List.toList_toArray, C.eqbL, eqCs, eqC, List.drop_one, List.tail_cons, lim, lk43, lk56, lk57, lk58, lk40, lk15, lk17, hokr]
  refine aops_pure' (rising48 l r.ps.length) rfl rfl (by first | exact wk_refls _ | (repeat constructor)) ?_
  simp (config := { maxSteps := 2000000 }) only [go_sem, reduceIte, Nat.reduceEqDiff, Nat.reduceAdd, Nat.reduceLT, Nat.reduceLeDiff, Nat.reduceBEq, Nat.reduceMul, Nat.reduceSub, Nat.reduceDiv, Int.reduceNeg, Int.reduceLT, Int.reduceLE, Int.reduceEq, Int.reduceToNat, fillC, zc, List.replicate_succ, List.replicate_zero, List.flatten_cons, List.flatten_nil, toDs, toD, chunk, placeS, srcRows, List.all_cons, List.all_nil, List.all_map, Function.comp_def, List.take_nil, List.drop_nil, List.toList_toArray, C.eqbL, eqCs, eqC, List.drop_one, List.tail_cons, lim, lk43, lk56, lk57, lk58, lk40, lk15, lk17, hris]
  have hn := net53p r ([AB.cells (roadC r)] ++ [AB.cells (roadC r)])
  simp only [roadV, roadC, List.cons_append, List.nil_append] at hn
  refine aops_at (hn) rfl rfl (by first | exact wk_refls _ | (repeat constructor)) ?_
  simp (config := { maxSteps := 2000000 }) only [go_sem, reduceIte, Nat.reduceEqDiff, Nat.reduceAdd, Nat.reduceLT, Nat.reduceLeDiff, Nat.reduceBEq, Nat.reduceMul, Nat.reduceSub, Nat.reduceDiv, Int.reduceNeg, Int.reduceLT, Int.reduceLE, Int.reduceEq, Int.reduceToNat, fillC, zc, List.replicate_succ, List.replicate_zero, List.flatten_cons, List.flatten_nil, toDs, toD, chunk, placeS, srcRows, List.all_cons, List.all_nil, List.all_map, Function.comp_def, List.take_nil, List.drop_nil, List.toList_toArray, C.eqbL, eqCs, eqC, List.drop_one, List.tail_cons, lim, lk43, lk56, lk57, lk58, lk40, lk15, lk17, ints]
  refine goE_loop (bad := []) (kp := kp40) (fun i : Nat => { slots := [(7, .c (.ptr 3 0)), (23, ints l), (24, I l.length), (25, I i)], heap := [AB.cells (roadC r)] ++ Hop r (ind (l.take i)), marks := [] }) (fun i => i ≤ l.length) (fun i => l.length - i) 0 mo (by kernel_rfl) ?_ (Nat.zero_le _) ?_
  · refine ent_weaken [] (by simp only [Hop, hind0, List.append_nil]; rfl) rfl (show 1 ≤ 4 by decide) (hlow _) rfl ?_
    simp (config := { maxSteps := 2000000 }) only [go_sem, reduceIte, Nat.reduceEqDiff, Nat.reduceAdd, Nat.reduceLT, Nat.reduceLeDiff, Nat.reduceBEq, Nat.reduceMul, Nat.reduceSub, Nat.reduceDiv, Int.reduceNeg, Int.reduceLT, Int.reduceLE, Int.reduceEq, Int.reduceToNat, fillC, zc, List.replicate_succ, List.replicate_zero, List.flatten_cons, List.flatten_nil, toDs, toD, chunk, placeS, srcRows, List.all_cons, List.all_nil, List.all_map, Function.comp_def, List.take_nil, List.drop_nil, List.toList_toArray, C.eqbL, eqCs, eqC, List.drop_one, List.tail_cons, lim, lk43, lk56, lk57, lk58, lk40, lk15, lk17, ints, Hop]
    exact .refl _
  rintro i hi
  simp (config := { maxSteps := 2000000 }) only [go_sem, reduceIte, Nat.reduceEqDiff, Nat.reduceAdd, Nat.reduceLT, Nat.reduceLeDiff, Nat.reduceBEq, Nat.reduceMul, Nat.reduceSub, Nat.reduceDiv, Int.reduceNeg, Int.reduceLT, Int.reduceLE, Int.reduceEq, Int.reduceToNat, fillC, zc, List.replicate_succ, List.replicate_zero, List.flatten_cons, List.flatten_nil, toDs, toD, chunk, placeS, srcRows, List.all_cons, List.all_nil, List.all_map, Function.comp_def, List.take_nil, List.drop_nil, List.toList_toArray, C.eqbL, eqCs, eqC, List.drop_one, List.tail_cons, lim, lk43, lk56, lk57, lk58, lk40, lk15, lk17, ints, Hop]
  refine goE_if (fun h => ?_) (fun h => ?_)
  · have hlt : i < l.length := by simpa using h
    obtain ⟨x, hx⟩ := get_of_lt hlt
    obtain ⟨x0, x1⟩ := hrng x (List.mem_of_getElem? hx)
    have x0' : 0 ≤ x := by omega
    have c1 : (decide ((0 : Int) ≤ (i : Int)) && decide ((i : Int) < (l.length : Int))) = true := by simp; omega
    have c2 : (decide ((0 : Int) ≤ x) && decide (x < ((24 : Nat) : Int))) = true := by rw [decide_eq_true x0', decide_eq_true (show x < ((24 : Nat) : Int) by omega)]; rfl
    have c3 : decide (4 + x.toNat + 1 ≤ 68) = true := decide_eq_true (by omega)
    have c4 : decide (4 + x.toNat ≤ 67) = true := decide_eq_true (by omega)
    have nl := netC_len' r (ind (l.take i)) zf
    have ns := netD_set r (ind (l.take i)) zf (i := x.toNat) (by omega) 1
    have hst := ind_step hx (by omega)
    simp (config := { maxSteps := 2000000 }) only [go_sem, reduceIte, Nat.reduceEqDiff, Nat.reduceAdd, Nat.reduceLT, Nat.reduceLeDiff, Nat.reduceBEq, Nat.reduceMul, Nat.reduceSub, Nat.reduceDiv, Int.reduceNeg, Int.reduceLT, Int.reduceLE, Int.reduceEq, Int.reduceToNat, fillC, zc, List.replicate_succ, List.replicate_zero, List.flatten_cons, List.flatten_nil, toDs, toD, chunk, placeS, srcRows, List.all_cons, List.all_nil, List.all_map, Function.comp_def, List.take_nil, List.drop_nil, List.toList_toArray, C.eqbL, eqCs, eqC, List.drop_one, List.tail_cons, lim, lk43, lk56, lk57, lk58, lk40, lk15, lk17, hx, iD, c1, c2, c3, c4, nl, ns, hst, Nat.mul_one, wr_succ hlt hfit]
    refine ⟨i + 1, hlt, by omega, ?_⟩
    refine ent_weaken [] (by simp only [Hop, List.append_nil, List.cons_append, List.nil_append]) rfl (show 1 ≤ 4 by decide) (hlow _) rfl ?_
    simp (config := { maxSteps := 2000000 }) only [go_sem, reduceIte, Nat.reduceEqDiff, Nat.reduceAdd, Nat.reduceLT, Nat.reduceLeDiff, Nat.reduceBEq, Nat.reduceMul, Nat.reduceSub, Nat.reduceDiv, Int.reduceNeg, Int.reduceLT, Int.reduceLE, Int.reduceEq, Int.reduceToNat, fillC, zc, List.replicate_succ, List.replicate_zero, List.flatten_cons, List.flatten_nil, toDs, toD, chunk, placeS, srcRows, List.all_cons, List.all_nil, List.all_map, Function.comp_def, List.take_nil, List.drop_nil, List.toList_toArray, C.eqbL, eqCs, eqC, List.drop_one, List.tail_cons, lim, lk43, lk56, lk57, lk58, lk40, lk15, lk17, Hop]
  · have hi' : i = l.length := by simp at h; omega
    subst hi'
    rw [List.take_length]
    simp (config := { maxSteps := 2000000 }) only [go_sem, reduceIte, Nat.reduceEqDiff, Nat.reduceAdd, Nat.reduceLT, Nat.reduceLeDiff, Nat.reduceBEq, Nat.reduceMul, Nat.reduceSub, Nat.reduceDiv, Int.reduceNeg, Int.reduceLT, Int.reduceLE, Int.reduceEq, Int.reduceToNat, fillC, zc, List.replicate_succ, List.replicate_zero, List.flatten_cons, List.flatten_nil, toDs, toD, chunk, placeS, srcRows, List.all_cons, List.all_nil, List.all_map, Function.comp_def, List.take_nil, List.drop_nil, List.toList_toArray, C.eqbL, eqCs, eqC, List.drop_one, List.tail_cons, lim, lk43, lk56, lk57, lk58, lk40, lk15, lk17]
    exact hk

theorem toDs_net (r : Rd) (st bk : Nat → Int) : toDs (netC r st bk) = some (netD r st bk) := by
  have := toDs_d (netD r st bk)
  simpa [netC, netD] using this
theorem open40_dp (r : Rd) (l : List Int) (h : okCh r l = 0) : Pure Tryd.prog 40 [roadV r, ints l] (.tup [.c (.dp (netD r (ind l) zf)), I 0]) := by
  refine ⟨ACall.fzpost (open40a r l h _ ⟨2, netC r (ind l) zf, netD r (ind l) zf, .tup [.c (.dp (netD r (ind l) zf)), I 0], rfl, toDs_net _ _ _, .tup rfl (fun i x y hx hy => ?_), .refl _⟩), rfl, rfl⟩
  match i, hx, hy with
  | 0, hx, hy =>
    simp at hx hy
    subst hx; subst hy
    exact .c (.ptr 0 (Nat.zero_le _))
  | 1, hx, hy =>
    simp at hx hy
    subst hx; subst hy
    exact .same _
set_option maxHeartbeats 1000000 in
theorem lit15 (r : Rd) (l : List Int) : Pure Tryd.prog 15 [roadV r, ints l] (.tup [ints (if okCh r l = 0 then litL r (ind l) else []), I (okCh r l)]) := by
  refine pure_wkE (bad := []) (kp := kp15) (X := tx) (nt := 19) (rs := [.tmp 4, .tmp 5]) Tryd.func15 rfl rfl rfl rfl mo (by kernel_rfl) rfl rfl (fun hf => ?_)
  simp (config := { maxSteps := 2000000 }) only [go_sem, reduceIte, Nat.reduceEqDiff, Nat.reduceAdd, Nat.reduceLT, Nat.reduceLeDiff, Nat.reduceBEq, Nat.reduceMul, Nat.reduceSub, Nat.reduceDiv, Int.reduceNeg, Int.reduceLT, Int.reduceLE, Int.reduceEq, Int.reduceToNat, fillC, zc, List.replicate_succ, List.replicate_zero, List.flatten_cons, List.flatten_nil, toDs, toD, chunk, placeS, srcRows, List.all_cons, List.all_nil, List.all_map, Function.comp_def, List.take_nil, List.drop_nil, List.toList_toArray, C.eqbL, eqCs, eqC, List.drop_one, List.tail_cons, lim, lk43, lk56, lk57, lk58, lk40, lk15, lk17, roadV, roadC]
  by_cases h : okCh r l = 0
  · refine aops_pure' (open40_dp r l h) rfl rfl (by first | exact wk_refls _ | (repeat constructor)) ?_
    simp (config := { maxSteps := 2000000 }) only [go_sem, reduceIte, Nat.reduceEqDiff, Nat.reduceAdd, Nat.reduceLT, Nat.reduceLeDiff, Nat.reduceBEq, Nat.reduceMul, Nat.reduceSub, Nat.reduceDiv, Int.reduceNeg, Int.reduceLT, Int.reduceLE, Int.reduceEq, Int.reduceToNat, fillC, zc, List.replicate_succ, List.replicate_zero, List.flatten_cons, List.flatten_nil, toDs, toD, chunk, placeS, srcRows, List.all_cons, List.all_nil, List.all_map, Function.comp_def, List.take_nil, List.drop_nil, List.toList_toArray, C.eqbL, eqCs, eqC, List.drop_one, List.tail_cons, lim, lk43, lk56, lk57, lk58, lk40, lk15, lk17]
    refine aops_pure' (lit41 r (ind l) zf (okCh_ok h).1 (ind_bnd l)) rfl rfl (by first | exact wk_refls _ | (repeat constructor)) ?_
    simp (config := { maxSteps := 2000000 }) only [go_sem, reduceIte, Nat.reduceEqDiff, Nat.reduceAdd, Nat.reduceLT, Nat.reduceLeDiff, Nat.reduceBEq, Nat.reduceMul, Nat.reduceSub, Nat.reduceDiv, Int.reduceNeg, Int.reduceLT, Int.reduceLE, Int.reduceEq, Int.reduceToNat, fillC, zc, List.replicate_succ, List.replicate_zero, List.flatten_cons, List.flatten_nil, toDs, toD, chunk, placeS, srcRows, List.all_cons, List.all_nil, List.all_map, Function.comp_def, List.take_nil, List.drop_nil, List.toList_toArray, C.eqbL, eqCs, eqC, List.drop_one, List.tail_cons, lim, lk43, lk56, lk57, lk58, lk40, lk15, lk17, h, ints]
  · refine aops_pure' (open40_bad r l h) rfl rfl (by first | exact wk_refls _ | (repeat constructor)) ?_
    simp (config := { maxSteps := 2000000 }) only [go_sem, reduceIte, Nat.reduceEqDiff, Nat.reduceAdd, Nat.reduceLT, Nat.reduceLeDiff, Nat.reduceBEq, Nat.reduceMul, Nat.reduceSub, Nat.reduceDiv, Int.reduceNeg, Int.reduceLT, Int.reduceLE, Int.reduceEq, Int.reduceToNat, fillC, zc, List.replicate_succ, List.replicate_zero, List.flatten_cons, List.flatten_nil, toDs, toD, chunk, placeS, srcRows, List.all_cons, List.all_nil, List.all_map, Function.comp_def, List.take_nil, List.drop_nil, List.toList_toArray, C.eqbL, eqCs, eqC, List.drop_one, List.tail_cons, lim, lk43, lk56, lk57, lk58, lk40, lk15, lk17, h, ints, List.map_nil]
/-- A choice holds. -/
def holdsB (r : Rd) (l : List Int) : Bool := (litL r (ind l)).all fun k => decide (r.de < k)
def costL (r : Rd) (l : List Int) : Int := costP r (ind l) r.ps.length
theorem minL_le : ∀ (l : List Int) (m d : Int), decide (minL m l ≤ d) = !(m :: l).all (fun k => decide (d < k))
  | [], m, d => by
    by_cases h : m ≤ d
    · have : ¬ d < m := by omega
      simp [minL, h, this]
    · have : d < m := by omega
      simp [minL, h, this]
  | x :: l, m, d => by
    rw [minL, minL_le l (min m x) d]
    congr 1
    simp only [List.all_cons]
    by_cases h1 : d < m
    · by_cases h2 : d < x
      · have : d < min m x := by omega
        simp [h1, h2, this]
      · have : ¬ d < min m x := by omega
        simp [h2, this]
    · have : ¬ d < min m x := by omega
      simp [h1, this]
def okHold (r : Rd) (l : List Int) : Int := if okCh r l ≠ 0 then okCh r l else if holdsB r l then 0 else 18
theorem litL_len (r : Rd) (st : Nat → Int) : (litL r st).length = r.pl.toNat := by simp [litL]
set_option maxHeartbeats 1000000 in
theorem check17 (r : Rd) (l : List Int) : Pure Tryd.prog 17 [roadV r, ints l] (.tup [I (if okHold r l = 0 then costL r l else 0), I (okHold r l)]) := by
  refine pure_wkE (bad := []) (kp := kp17) (X := tx) (nt := 25) (rs := [.tmp 4, .tmp 5]) Tryd.func17 rfl rfl rfl rfl mo (by kernel_rfl) rfl rfl (fun hf => ?_)
  simp (config := { maxSteps := 2000000 }) only [go_sem, reduceIte, Nat.reduceEqDiff, Nat.reduceAdd, Nat.reduceLT, Nat.reduceLeDiff, Nat.reduceBEq, Nat.reduceMul, Nat.reduceSub, Nat.reduceDiv, Int.reduceNeg, Int.reduceLT, Int.reduceLE, Int.reduceEq, Int.reduceToNat, fillC, zc, List.replicate_succ, List.replicate_zero, List.flatten_cons, List.flatten_nil, toDs, toD, chunk, placeS, srcRows, List.all_cons, List.all_nil, List.all_map, Function.comp_def, List.take_nil, List.drop_nil, List.toList_toArray, C.eqbL, eqCs, eqC, List.drop_one, List.tail_cons, lim, lk43, lk56, lk57, lk58, lk40, lk15, lk17, roadV, roadC]
  by_cases h : okCh r l = 0
  · have hr := (okCh_ok h).1
    refine aops_pure' (open40_dp r l h) rfl rfl (by first | exact wk_refls _ | (repeat constructor)) ?_
    simp (config := { maxSteps := 2000000 }) only [go_sem, reduceIte, Nat.reduceEqDiff, Nat.reduceAdd, Nat.reduceLT, Nat.reduceLeDiff, Nat.reduceBEq, Nat.reduceMul, Nat.reduceSub, Nat.reduceDiv, Int.reduceNeg, Int.reduceLT, Int.reduceLE, Int.reduceEq, Int.reduceToNat, fillC, zc, List.replicate_succ, List.replicate_zero, List.flatten_cons, List.flatten_nil, toDs, toD, chunk, placeS, srcRows, List.all_cons, List.all_nil, List.all_map, Function.comp_def, List.take_nil, List.drop_nil, List.toList_toArray, C.eqbL, eqCs, eqC, List.drop_one, List.tail_cons, lim, lk43, lk56, lk57, lk58, lk40, lk15, lk17]
    obtain ⟨x, xs, hxs⟩ : ∃ x xs, litL r (ind l) = x :: xs := by
      cases hl : litL r (ind l) with
      | nil => have h1 := litL_len r (ind l); rw [hl, List.length_nil] at h1; have := hr.p1; omega
      | cons x xs => exact ⟨x, xs, rfl⟩
    have h1 := lit41 r (ind l) zf hr (ind_bnd l)
    rw [hxs] at h1
    refine dops_pure' (h1) rfl rfl (by first | exact wk_refls _ | (repeat constructor)) (by kernel_rfl) ?_
    simp (config := { maxSteps := 2000000 }) only [go_sem, reduceIte, Nat.reduceEqDiff, Nat.reduceAdd, Nat.reduceLT, Nat.reduceLeDiff, Nat.reduceBEq, Nat.reduceMul, Nat.reduceSub, Nat.reduceDiv, Int.reduceNeg, Int.reduceLT, Int.reduceLE, Int.reduceEq, Int.reduceToNat, fillC, zc, List.replicate_succ, List.replicate_zero, List.flatten_cons, List.flatten_nil, toDs, toD, chunk, placeS, srcRows, List.all_cons, List.all_nil, List.all_map, Function.comp_def, List.take_nil, List.drop_nil, List.toList_toArray, C.eqbL, eqCs, eqC, List.drop_one, List.tail_cons, lim, lk43, lk56, lk57, lk58, lk40, lk15, lk17]
    refine dops_pure' (min43 x xs) rfl rfl (by first | exact wk_refls _ | (repeat constructor)) (by kernel_rfl) ?_
    simp (config := { maxSteps := 2000000 }) only [go_sem, reduceIte, Nat.reduceEqDiff, Nat.reduceAdd, Nat.reduceLT, Nat.reduceLeDiff, Nat.reduceBEq, Nat.reduceMul, Nat.reduceSub, Nat.reduceDiv, Int.reduceNeg, Int.reduceLT, Int.reduceLE, Int.reduceEq, Int.reduceToNat, fillC, zc, List.replicate_succ, List.replicate_zero, List.flatten_cons, List.flatten_nil, toDs, toD, chunk, placeS, srcRows, List.all_cons, List.all_nil, List.all_map, Function.comp_def, List.take_nil, List.drop_nil, List.toList_toArray, C.eqbL, eqCs, eqC, List.drop_one, List.tail_cons, lim, lk43, lk56, lk57, lk58, lk40, lk15, lk17]
    have hm : decide (minL x xs ≤ r.de) = !holdsB r l := by rw [minL_le, holdsB, hxs]
    rw [hm]
    cases hh : holdsB r l with
    | true =>
      have e : okHold r l = 0 := by simp [okHold, h, hh]
      simp (config := { maxSteps := 2000000 }) only [go_sem, reduceIte, Nat.reduceEqDiff, Nat.reduceAdd, Nat.reduceLT, Nat.reduceLeDiff, Nat.reduceBEq, Nat.reduceMul, Nat.reduceSub, Nat.reduceDiv, Int.reduceNeg, Int.reduceLT, Int.reduceLE, Int.reduceEq, Int.reduceToNat, fillC, zc, List.replicate_succ, List.replicate_zero, List.flatten_cons, List.flatten_nil, toDs, toD, chunk, placeS, srcRows, List.all_cons, List.all_nil, List.all_map, Function.comp_def, List.take_nil, List.drop_nil, List.toList_toArray, C.eqbL, eqCs, eqC, List.drop_one, List.tail_cons, lim, lk43, lk56, lk57, lk58, lk40, lk15, lk17]
      refine aops_pure' (cost44 r (ind l) zf hr (ind_bnd l)) rfl rfl (by first | exact wk_refls _ | (repeat constructor)) ?_
      simp (config := { maxSteps := 2000000 }) only [go_sem, reduceIte, Nat.reduceEqDiff, Nat.reduceAdd, Nat.reduceLT, Nat.reduceLeDiff, Nat.reduceBEq, Nat.reduceMul, Nat.reduceSub, Nat.reduceDiv, Int.reduceNeg, Int.reduceLT, Int.reduceLE, Int.reduceEq, Int.reduceToNat, fillC, zc, List.replicate_succ, List.replicate_zero, List.flatten_cons, List.flatten_nil, toDs, toD, chunk, placeS, srcRows, List.all_cons, List.all_nil, List.all_map, Function.comp_def, List.take_nil, List.drop_nil, List.toList_toArray, C.eqbL, eqCs, eqC, List.drop_one, List.tail_cons, lim, lk43, lk56, lk57, lk58, lk40, lk15, lk17, e, costL]
    | false =>
      have e : okHold r l = 18 := by simp [okHold, h, hh]
      simp (config := { maxSteps := 2000000 }) only [go_sem, reduceIte, Nat.reduceEqDiff, Nat.reduceAdd, Nat.reduceLT, Nat.reduceLeDiff, Nat.reduceBEq, Nat.reduceMul, Nat.reduceSub, Nat.reduceDiv, Int.reduceNeg, Int.reduceLT, Int.reduceLE, Int.reduceEq, Int.reduceToNat, fillC, zc, List.replicate_succ, List.replicate_zero, List.flatten_cons, List.flatten_nil, toDs, toD, chunk, placeS, srcRows, List.all_cons, List.all_nil, List.all_map, Function.comp_def, List.take_nil, List.drop_nil, List.toList_toArray, C.eqbL, eqCs, eqC, List.drop_one, List.tail_cons, lim, lk43, lk56, lk57, lk58, lk40, lk15, lk17, e]
  · have e : okHold r l = okCh r l := by simp [okHold, h]
    refine aops_pure' (open40_bad r l h) rfl rfl (by first | exact wk_refls _ | (repeat constructor)) ?_
    simp (config := { maxSteps := 2000000 }) only [go_sem, reduceIte, Nat.reduceEqDiff, Nat.reduceAdd, Nat.reduceLT, Nat.reduceLeDiff, Nat.reduceBEq, Nat.reduceMul, Nat.reduceSub, Nat.reduceDiv, Int.reduceNeg, Int.reduceLT, Int.reduceLE, Int.reduceEq, Int.reduceToNat, fillC, zc, List.replicate_succ, List.replicate_zero, List.flatten_cons, List.flatten_nil, toDs, toD, chunk, placeS, srcRows, List.all_cons, List.all_nil, List.all_map, Function.comp_def, List.take_nil, List.drop_nil, List.toList_toArray, C.eqbL, eqCs, eqC, List.drop_one, List.tail_cons, lim, lk43, lk56, lk57, lk58, lk40, lk15, lk17, h, e]
end Go.Proofs.YteamgbndnfjoaaaDoor
