/- Cheapest, Prices. -/
import Derived.Test.YteamgbndnfjoaaaDoorS8
import Derived.Test.YteamgbndnfjoaaaDoorS9
set_option linter.unusedSimpArgs false
set_option linter.unusedVariables false
set_option maxRecDepth 100000
namespace Go.Proofs.YteamgbndnfjoaaaDoor
open Go Go.Abs Go.Proofs
def kp55 : List (Nat × List Nat) := [(0, [0]), (1, [0, 3]), (2, [0, 3, 10, 11]), (3, [0, 3, 10, 11, 12]), (4, [0, 3, 4, 10, 11]), (5, [0, 3, 4, 10, 11, 20]), (6, [0, 3, 10, 11]), (7, [0, 3, 10, 11]), (8, [2])]
theorem lk55 : lookK kp55 0 = some [0] ∧ lookK kp55 1 = some [0, 3] ∧ lookK kp55 2 = some [0, 3, 10, 11] ∧ lookK kp55 3 = some [0, 3, 10, 11, 12] ∧ lookK kp55 4 = some [0, 3, 4, 10, 11] ∧ lookK kp55 5 = some [0, 3, 4, 10, 11, 20] ∧ lookK kp55 6 = some [0, 3, 10, 11] ∧ lookK kp55 7 = some [0, 3, 10, 11] ∧ lookK kp55 8 = some [2] := ⟨rfl, rfl, rfl, rfl, rfl, rfl, rfl, rfl, rfl⟩

/-- The posts that stand. -/
def choP (st : Nat → Int) : Nat → List Int
  | 0 => []
  | m + 1 => choP st m ++ (if st m = 1 then [(m : Int)] else [])
theorem choP_len (st : Nat → Int) : ∀ m, (choP st m).length ≤ m
  | 0 => by simp [choP]
  | m + 1 => by have := choP_len st m; simp only [choP, List.length_append]; split <;> simp <;> omega
set_option maxHeartbeats 2000000 in
theorem choice55 (r : Rd) (w : W) (hr : OkR r) : ACall Tryd.prog 55 [.c (.ptr 3 0)] (HS r w) (one (ints (choP w.1 r.ps.length)) (HS r w)) := by
  refine acall_atE (bad := []) (kp := kp55) (X := tx) (nt := 27) (rs := [.tmp 2]) Tryd.func55 rfl rfl rfl rfl mo (by kernel_rfl) rfl (HS_low _ _ _) (fun hf => ?_)
  have hlen := hr.len
  have nl := netC_len r w.1 w.2
  have n3 := nC3 r w.1 w.2
  simp (config := { maxSteps := 2000000 }) only [go_sem, reduceIte, Nat.reduceEqDiff, Nat.reduceAdd, Nat.reduceLT, Nat.reduceLeDiff, Nat.reduceBEq, Nat.reduceMul, Nat.reduceSub, Nat.reduceDiv, Int.reduceNeg, Int.reduceLT, Int.reduceLE, Int.reduceEq, Int.reduceToNat, fillC, zc, List.replicate_succ, List.replicate_zero, List.flatten_cons, List.flatten_nil, toDs, toD, chunk, placeS, srcRows, List.all_cons, List.all_nil, List.all_map, Function.comp_def, List.take_nil, List.drop_nil, List.toList_toArray, C.eqbL, eqCs, eqC, List.drop_one, List.tail_cons, lim, lk55, HS, nl, n3]
  have hlow : ∀ n, (HS r w ++ [AB.grow n 1]).all (AB.low (HS r w ++ [AB.grow n 1]).length) = true := fun n => by rw [List.all_append, HS_low]; rfl
  refine goE_loop (bad := []) (kp := kp55) (fun i : Nat => { slots := [(0, .c (.ptr 3 0)), (3, .c (.own 4 ((choP w.1 i).map iD))), (10, I r.ps.length), (11, I i)], heap := HS r w ++ [.grow (choP w.1 i).length 1], marks := [] }) (fun i => i ≤ r.ps.length) (fun i => r.ps.length - i) 0 mo (by kernel_rfl) ?_ (Nat.zero_le _) ?_
  · refine Ent.trans (ent_own 3 1 rfl) ?_
    refine ent_weaken [] (by simp only [HS, List.append_nil, choP]; rfl) rfl (show 4 ≤ 5 by decide) (hlow _) rfl ?_
    simp (config := { maxSteps := 2000000 }) only [go_sem, reduceIte, Nat.reduceEqDiff, Nat.reduceAdd, Nat.reduceLT, Nat.reduceLeDiff, Nat.reduceBEq, Nat.reduceMul, Nat.reduceSub, Nat.reduceDiv, Int.reduceNeg, Int.reduceLT, Int.reduceLE, Int.reduceEq, Int.reduceToNat, fillC, zc, List.replicate_succ, List.replicate_zero, List.flatten_cons, List.flatten_nil, toDs, toD, chunk, placeS, srcRows, List.all_cons, List.all_nil, List.all_map, Function.comp_def, List.take_nil, List.drop_nil, List.toList_toArray, C.eqbL, eqCs, eqC, List.drop_one, List.tail_cons, lim, lk55, HS, choP, postsV, List.map_nil]
    exact .refl _
  rintro i hi
  simp (config := { maxSteps := 2000000 }) only [go_sem, reduceIte, Nat.reduceEqDiff, Nat.reduceAdd, Nat.reduceLT, Nat.reduceLeDiff, Nat.reduceBEq, Nat.reduceMul, Nat.reduceSub, Nat.reduceDiv, Int.reduceNeg, Int.reduceLT, Int.reduceLE, Int.reduceEq, Int.reduceToNat, fillC, zc, List.replicate_succ, List.replicate_zero, List.flatten_cons, List.flatten_nil, toDs, toD, chunk, placeS, srcRows, List.all_cons, List.all_nil, List.all_map, Function.comp_def, List.take_nil, List.drop_nil, List.toList_toArray, C.eqbL, eqCs, eqC, List.drop_one, List.tail_cons, lim, lk55, HS, postsV]
  refine goE_if (fun h => ?_) (fun h => ?_)
  · have hlt : i < r.ps.length := by simpa using h
    have ng := nCst r w.1 w.2 (i := i) (by omega)
    have c2 : (decide ((0 : Int) ≤ (i : Int)) && decide ((i : Int) < ((24 : Nat) : Int))) = true := by simp; omega
    have c3 : decide (4 + i + 1 ≤ 68) = true := decide_eq_true (by omega)
    have c4 : decide (4 + i ≤ 67) = true := decide_eq_true (by omega)
    have hcl := choP_len w.1 i
    by_cases h1 : w.1 i = 1
    · have hs : choP w.1 (i + 1) = choP w.1 i ++ [(i : Int)] := by simp [choP, h1]
      simp (config := { maxSteps := 2000000 }) only [go_sem, reduceIte, Nat.reduceEqDiff, Nat.reduceAdd, Nat.reduceLT, Nat.reduceLeDiff, Nat.reduceBEq, Nat.reduceMul, Nat.reduceSub, Nat.reduceDiv, Int.reduceNeg, Int.reduceLT, Int.reduceLE, Int.reduceEq, Int.reduceToNat, fillC, zc, List.replicate_succ, List.replicate_zero, List.flatten_cons, List.flatten_nil, toDs, toD, chunk, placeS, srcRows, List.all_cons, List.all_nil, List.all_map, Function.comp_def, List.take_nil, List.drop_nil, List.toList_toArray, C.eqbL, eqCs, eqC, List.drop_one, List.tail_cons, lim, lk55, nl, ng, c2, c3, c4, h1, Nat.mul_one, iD, bound]
      refine ⟨by simp; omega, ?_⟩
      simp (config := { maxSteps := 2000000 }) only [go_sem, reduceIte, Nat.reduceEqDiff, Nat.reduceAdd, Nat.reduceLT, Nat.reduceLeDiff, Nat.reduceBEq, Nat.reduceMul, Nat.reduceSub, Nat.reduceDiv, Int.reduceNeg, Int.reduceLT, Int.reduceLE, Int.reduceEq, Int.reduceToNat, fillC, zc, List.replicate_succ, List.replicate_zero, List.flatten_cons, List.flatten_nil, toDs, toD, chunk, placeS, srcRows, List.all_cons, List.all_nil, List.all_map, Function.comp_def, List.take_nil, List.drop_nil, List.toList_toArray, C.eqbL, eqCs, eqC, List.drop_one, List.tail_cons, lim, lk55, wr_succ hlt (show r.ps.length ≤ 140737488355328 by omega)]
      refine ⟨i + 1, hlt, by omega, ?_⟩
      refine ent_weaken [] (by simp only [HS, hs, List.append_nil, List.length_append]; rfl) rfl (show 4 ≤ 5 by decide) (hlow _) rfl ?_
      simp (config := { maxSteps := 2000000 }) only [go_sem, reduceIte, Nat.reduceEqDiff, Nat.reduceAdd, Nat.reduceLT, Nat.reduceLeDiff, Nat.reduceBEq, Nat.reduceMul, Nat.reduceSub, Nat.reduceDiv, Int.reduceNeg, Int.reduceLT, Int.reduceLE, Int.reduceEq, Int.reduceToNat, fillC, zc, List.replicate_succ, List.replicate_zero, List.flatten_cons, List.flatten_nil, toDs, toD, chunk, placeS, srcRows, List.all_cons, List.all_nil, List.all_map, Function.comp_def, List.take_nil, List.drop_nil, List.toList_toArray, C.eqbL, eqCs, eqC, List.drop_one, List.tail_cons, lim, lk55, HS, hs, List.map_append, iD]
      try exact .refl _
    · have hs : choP w.1 (i + 1) = choP w.1 i := by simp [choP, h1]
      simp (config := { maxSteps := 2000000 }) only [go_sem, reduceIte, Nat.reduceEqDiff, Nat.reduceAdd, Nat.reduceLT, Nat.reduceLeDiff, Nat.reduceBEq, Nat.reduceMul, Nat.reduceSub, Nat.reduceDiv, Int.reduceNeg, Int.reduceLT, Int.reduceLE, Int.reduceEq, Int.reduceToNat, fillC, zc, List.replicate_succ, List.replicate_zero, List.flatten_cons, List.flatten_nil, toDs, toD, chunk, placeS, srcRows, List.all_cons, List.all_nil, List.all_map, Function.comp_def, List.take_nil, List.drop_nil, List.toList_toArray, C.eqbL, eqCs, eqC, List.drop_one, List.tail_cons, lim, lk55, nl, ng, c2, c3, c4, h1, Nat.mul_one, wr_succ hlt (show r.ps.length ≤ 140737488355328 by omega)]
      refine ⟨i + 1, hlt, by omega, ?_⟩
      refine ent_weaken [] (by simp only [HS, hs, List.append_nil, List.cons_append, List.nil_append]) rfl (show 4 ≤ 5 by decide) (hlow _) rfl ?_
      simp (config := { maxSteps := 2000000 }) only [go_sem, reduceIte, Nat.reduceEqDiff, Nat.reduceAdd, Nat.reduceLT, Nat.reduceLeDiff, Nat.reduceBEq, Nat.reduceMul, Nat.reduceSub, Nat.reduceDiv, Int.reduceNeg, Int.reduceLT, Int.reduceLE, Int.reduceEq, Int.reduceToNat, fillC, zc, List.replicate_succ, List.replicate_zero, List.flatten_cons, List.flatten_nil, toDs, toD, chunk, placeS, srcRows, List.all_cons, List.all_nil, List.all_map, Function.comp_def, List.take_nil, List.drop_nil, List.toList_toArray, C.eqbL, eqCs, eqC, List.drop_one, List.tail_cons, lim, lk55, HS, hs]
  · have hi' : i = r.ps.length := by simp at h; omega
    subst hi'
    simp (config := { maxSteps := 2000000 }) only [go_sem, reduceIte, Nat.reduceEqDiff, Nat.reduceAdd, Nat.reduceLT, Nat.reduceLeDiff, Nat.reduceBEq, Nat.reduceMul, Nat.reduceSub, Nat.reduceDiv, Int.reduceNeg, Int.reduceLT, Int.reduceLE, Int.reduceEq, Int.reduceToNat, fillC, zc, List.replicate_succ, List.replicate_zero, List.flatten_cons, List.flatten_nil, toDs, toD, chunk, placeS, srcRows, List.all_cons, List.all_nil, List.all_map, Function.comp_def, List.take_nil, List.drop_nil, List.toList_toArray, C.eqbL, eqCs, eqC, List.drop_one, List.tail_cons, lim, lk55, ints]
    exact ⟨_, rfl⟩
set_option maxHeartbeats 2000000 in
theorem cost44p (r : Rd) (w : W) (hr : OkR r) (hs : ∀ i, 0 ≤ w.1 i ∧ w.1 i ≤ 1) : ACall Tryd.prog 44 [.c (.ptr 3 0)] (HS r w) (one (I (costP r w.1 r.ps.length)) (HS r w)) := by
  refine acall_atE (bad := []) (kp := kp44) (X := tx) (nt := 30) (rs := [.tmp 2]) Tryd.func44 rfl rfl rfl rfl mo (by kernel_rfl) rfl (HS_low _ _ _) (fun hf => ?_)
  have hlen := hr.len
  have nl := netC_len r w.1 w.2
  have n3 := nC3 r w.1 w.2
  simp (config := { maxSteps := 2000000 }) only [go_sem, reduceIte, Nat.reduceEqDiff, Nat.reduceAdd, Nat.reduceLT, Nat.reduceLeDiff, Nat.reduceBEq, Nat.reduceMul, Nat.reduceSub, Nat.reduceDiv, Int.reduceNeg, Int.reduceLT, Int.reduceLE, Int.reduceEq, Int.reduceToNat, fillC, zc, List.replicate_succ, List.replicate_zero, List.flatten_cons, List.flatten_nil, toDs, toD, chunk, placeS, srcRows, List.all_cons, List.all_nil, List.all_map, Function.comp_def, List.take_nil, List.drop_nil, List.toList_toArray, C.eqbL, eqCs, eqC, List.drop_one, List.tail_cons, lim, lk55, HS, nl, n3, lk44]
  refine goE_loop (bad := []) (kp := kp44) (fun i : Nat => { slots := [(0, .c (.ptr 3 0)), (3, I (costP r w.1 i)), (10, postsV r.ps), (11, I r.ps.length), (12, I i)], heap := HS r w, marks := [] }) (fun i => i ≤ r.ps.length) (fun i => r.ps.length - i) 0 mo (by kernel_rfl) ?_ (Nat.zero_le _) ?_
  · refine ent_weaken [] (by simp only [HS, List.append_nil]) rfl (show 4 ≤ 4 by decide) (HS_low _ _ _) rfl ?_
    simp (config := { maxSteps := 2000000 }) only [go_sem, reduceIte, Nat.reduceEqDiff, Nat.reduceAdd, Nat.reduceLT, Nat.reduceLeDiff, Nat.reduceBEq, Nat.reduceMul, Nat.reduceSub, Nat.reduceDiv, Int.reduceNeg, Int.reduceLT, Int.reduceLE, Int.reduceEq, Int.reduceToNat, fillC, zc, List.replicate_succ, List.replicate_zero, List.flatten_cons, List.flatten_nil, toDs, toD, chunk, placeS, srcRows, List.all_cons, List.all_nil, List.all_map, Function.comp_def, List.take_nil, List.drop_nil, List.toList_toArray, C.eqbL, eqCs, eqC, List.drop_one, List.tail_cons, lim, lk55, HS, postsV, costP]
    exact .refl _
  rintro i hi
  simp (config := { maxSteps := 2000000 }) only [go_sem, reduceIte, Nat.reduceEqDiff, Nat.reduceAdd, Nat.reduceLT, Nat.reduceLeDiff, Nat.reduceBEq, Nat.reduceMul, Nat.reduceSub, Nat.reduceDiv, Int.reduceNeg, Int.reduceLT, Int.reduceLE, Int.reduceEq, Int.reduceToNat, fillC, zc, List.replicate_succ, List.replicate_zero, List.flatten_cons, List.flatten_nil, toDs, toD, chunk, placeS, srcRows, List.all_cons, List.all_nil, List.all_map, Function.comp_def, List.take_nil, List.drop_nil, List.toList_toArray, C.eqbL, eqCs, eqC, List.drop_one, List.tail_cons, lim, lk55, HS, postsV, lk44]
  refine goE_if (fun h => ?_) (fun h => ?_)
  · have hlt : i < r.ps.length := by simpa using h
    obtain ⟨hp, _, _, _, q3, q4⟩ := hr.post (i := (i : Int)) (by omega) (by omega)
    have hp : r.ps[i]? = some (po r i) := hp
    have b1 := costP_bound hr hs i hi
    have b3 := costP_bound hr hs (i + 1) hlt
    have b2 := hs i
    have ng := nCst r w.1 w.2 (i := i) (by omega)
    have w1 : wr .i64 ((po r i).co * w.1 i) = (po r i).co * w.1 i := by
      have : w.1 i = 0 ∨ w.1 i = 1 := by omega
      rcases this with e | e <;> rw [e] <;> exact wr_id (by omega) (by omega)
    have w2 : wr .i64 (costP r w.1 i + (po r i).co * w.1 i) = costP r w.1 (i + 1) := by
      rw [costP] at b3
      rw [costP]; exact wr_id (by omega) (by omega)
    have c2 : (decide ((0 : Int) ≤ (i : Int)) && decide ((i : Int) < ((24 : Nat) : Int))) = true := by simp; omega
    have c3 : decide (4 + i + 1 ≤ 68) = true := decide_eq_true (by omega)
    have c4 : decide (4 + i ≤ 67) = true := decide_eq_true (by omega)
    have c6 : (decide ((0 : Int) ≤ (i : Int)) && decide ((i : Int) < (r.ps.length : Int))) = true := by simp; omega
    simp (config := { maxSteps := 2000000 }) only [go_sem, reduceIte, Nat.reduceEqDiff, Nat.reduceAdd, Nat.reduceLT, Nat.reduceLeDiff, Nat.reduceBEq, Nat.reduceMul, Nat.reduceSub, Nat.reduceDiv, Int.reduceNeg, Int.reduceLT, Int.reduceLE, Int.reduceEq, Int.reduceToNat, fillC, zc, List.replicate_succ, List.replicate_zero, List.flatten_cons, List.flatten_nil, toDs, toD, chunk, placeS, srcRows, List.all_cons, List.all_nil, List.all_map, Function.comp_def, List.take_nil, List.drop_nil, List.toList_toArray, C.eqbL, eqCs, eqC, List.drop_one, List.tail_cons, lim, lk55, hp, pD, ng, nl, w1, w2, c2, c3, c4, c6, Nat.mul_one, lk44, wr_succ hlt (show r.ps.length ≤ 140737488355328 by omega)]
    refine ⟨i + 1, hlt, by omega, ?_⟩
    refine ent_weaken [.cells (pC (po r i))] rfl rfl (show 4 ≤ 4 by decide) (HS_low r w _) rfl ?_
    simp (config := { maxSteps := 2000000 }) only [go_sem, reduceIte, Nat.reduceEqDiff, Nat.reduceAdd, Nat.reduceLT, Nat.reduceLeDiff, Nat.reduceBEq, Nat.reduceMul, Nat.reduceSub, Nat.reduceDiv, Int.reduceNeg, Int.reduceLT, Int.reduceLE, Int.reduceEq, Int.reduceToNat, fillC, zc, List.replicate_succ, List.replicate_zero, List.flatten_cons, List.flatten_nil, toDs, toD, chunk, placeS, srcRows, List.all_cons, List.all_nil, List.all_map, Function.comp_def, List.take_nil, List.drop_nil, List.toList_toArray, C.eqbL, eqCs, eqC, List.drop_one, List.tail_cons, lim, lk55, HS]
  · have hi' : i = r.ps.length := by simp at h; omega
    simp (config := { maxSteps := 2000000 }) only [go_sem, reduceIte, Nat.reduceEqDiff, Nat.reduceAdd, Nat.reduceLT, Nat.reduceLeDiff, Nat.reduceBEq, Nat.reduceMul, Nat.reduceSub, Nat.reduceDiv, Int.reduceNeg, Int.reduceLT, Int.reduceLE, Int.reduceEq, Int.reduceToNat, fillC, zc, List.replicate_succ, List.replicate_zero, List.flatten_cons, List.flatten_nil, toDs, toD, chunk, placeS, srcRows, List.all_cons, List.all_nil, List.all_map, Function.comp_def, List.take_nil, List.drop_nil, List.toList_toArray, C.eqbL, eqCs, eqC, List.drop_one, List.tail_cons, lim, lk55, hi', lk44]
    try exact ⟨[], by simp⟩

end Go.Proofs.YteamgbndnfjoaaaDoor
