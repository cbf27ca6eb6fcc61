/- Dark places: Dark, CheckDark. -/
import Derived.Test.YteamgbndnfjoaaaDoorS11
set_option linter.unusedSimpArgs false
set_option linter.unusedVariables false
set_option maxRecDepth 100000
namespace Go.Proofs.YteamgbndnfjoaaaDoor
open Go Go.Abs Go.Proofs
def kp24 : List (Nat × List Nat) := [(0, [1, 2]), (1, [1, 2, 7, 8]), (2, [1, 2, 7, 8, 23]), (3, [4, 5, 6]), (4, [1, 2, 7, 9]), (5, [1, 2, 7, 9, 26, 27, 28]), (6, [1, 2, 7, 9, 26, 27, 28, 29]), (7, [1, 2, 7, 9, 10, 11, 26, 27, 28]), (8, [1, 2, 7, 9, 10, 26, 27, 28, 36]), (9, [1, 7, 9]), (10, [1, 2, 7, 9, 26, 27, 28]), (11, [1, 7, 9, 40]), (12, [4, 5, 6]), (13, [1, 7, 9, 12]), (14, [7, 9, 12, 42, 43, 44]), (15, [7, 9, 12, 42, 43, 44, 45]), (16, [7, 9, 12, 14, 42, 43, 44]), (17, [7, 9, 12, 14, 15, 42, 43, 44]), (18, [7, 9, 12, 14, 42, 43, 44, 53]), (19, [7, 9, 12, 42, 43, 44]), (20, [7, 9, 12, 42, 43, 44]), (21, [4, 5, 6])]
theorem lk24 : lookK kp24 0 = some [1, 2] ∧ lookK kp24 1 = some [1, 2, 7, 8] ∧ lookK kp24 2 = some [1, 2, 7, 8, 23] ∧ lookK kp24 3 = some [4, 5, 6] ∧ lookK kp24 4 = some [1, 2, 7, 9] ∧ lookK kp24 5 = some [1, 2, 7, 9, 26, 27, 28] ∧ lookK kp24 6 = some [1, 2, 7, 9, 26, 27, 28, 29] ∧ lookK kp24 7 = some [1, 2, 7, 9, 10, 11, 26, 27, 28] ∧ lookK kp24 8 = some [1, 2, 7, 9, 10, 26, 27, 28, 36] ∧ lookK kp24 9 = some [1, 7, 9] ∧ lookK kp24 10 = some [1, 2, 7, 9, 26, 27, 28] ∧ lookK kp24 11 = some [1, 7, 9, 40] ∧ lookK kp24 12 = some [4, 5, 6] ∧ lookK kp24 13 = some [1, 7, 9, 12] ∧ lookK kp24 14 = some [7, 9, 12, 42, 43, 44] ∧ lookK kp24 15 = some [7, 9, 12, 42, 43, 44, 45] ∧ lookK kp24 16 = some [7, 9, 12, 14, 42, 43, 44] ∧ lookK kp24 17 = some [7, 9, 12, 14, 15, 42, 43, 44] ∧ lookK kp24 18 = some [7, 9, 12, 14, 42, 43, 44, 53] ∧ lookK kp24 19 = some [7, 9, 12, 42, 43, 44] ∧ lookK kp24 20 = some [7, 9, 12, 42, 43, 44] ∧ lookK kp24 21 = some [4, 5, 6] := ⟨rfl, rfl, rfl, rfl, rfl, rfl, rfl, rfl, rfl, rfl, rfl, rfl, rfl, rfl, rfl, rfl, rfl, rfl, rfl, rfl, rfl, rfl⟩
def kp22 : List (Nat × List Nat) := [(0, [1, 2, 3, 4]), (1, [2, 3, 4, 9, 10]), (2, [2, 3, 4, 9, 10, 19]), (3, [8]), (4, [2, 3, 9, 23]), (5, [8]), (6, [2, 9, 46, 47, 48]), (7, [2, 9, 46, 47, 48, 49]), (8, [2, 9, 12, 46, 47, 48]), (9, [2, 9, 12, 46, 47, 48, 58]), (10, [8]), (11, [2, 9, 46, 47, 48]), (12, [2, 9, 46, 47, 48]), (13, [70]), (14, [8]), (15, [8])]
theorem lk22 : lookK kp22 0 = some [1, 2, 3, 4] ∧ lookK kp22 1 = some [2, 3, 4, 9, 10] ∧ lookK kp22 2 = some [2, 3, 4, 9, 10, 19] ∧ lookK kp22 3 = some [8] ∧ lookK kp22 4 = some [2, 3, 9, 23] ∧ lookK kp22 5 = some [8] ∧ lookK kp22 6 = some [2, 9, 46, 47, 48] ∧ lookK kp22 7 = some [2, 9, 46, 47, 48, 49] ∧ lookK kp22 8 = some [2, 9, 12, 46, 47, 48] ∧ lookK kp22 9 = some [2, 9, 12, 46, 47, 48, 58] ∧ lookK kp22 10 = some [8] ∧ lookK kp22 11 = some [2, 9, 46, 47, 48] ∧ lookK kp22 12 = some [2, 9, 46, 47, 48] ∧ lookK kp22 13 = some [70] ∧ lookK kp22 14 = some [8] ∧ lookK kp22 15 = some [8] := ⟨rfl, rfl, rfl, rfl, rfl, rfl, rfl, rfl, rfl, rfl, rfl, rfl, rfl, rfl, rfl, rfl⟩
def kp23 : List (Nat × List Nat) := [(0, [1, 2, 3, 4]), (1, [1, 2, 3, 4, 14]), (2, [8]), (3, [1, 2, 3, 4, 40]), (4, [8]), (5, [1, 2, 3, 4, 9]), (6, [1, 2, 3, 4, 9, 44]), (7, [1, 2, 3, 4, 9]), (8, [1, 2, 3, 4, 9, 53]), (9, [8]), (10, [1, 2, 3, 4, 10]), (11, [1, 2, 3, 4, 10, 57]), (12, [1, 2, 3, 4, 10]), (13, [1, 2, 3, 4, 10, 75]), (14, [8]), (15, [8])]
theorem lk23 : lookK kp23 0 = some [1, 2, 3, 4] ∧ lookK kp23 1 = some [1, 2, 3, 4, 14] ∧ lookK kp23 2 = some [8] ∧ lookK kp23 3 = some [1, 2, 3, 4, 40] ∧ lookK kp23 4 = some [8] ∧ lookK kp23 5 = some [1, 2, 3, 4, 9] ∧ lookK kp23 6 = some [1, 2, 3, 4, 9, 44] ∧ lookK kp23 7 = some [1, 2, 3, 4, 9] ∧ lookK kp23 8 = some [1, 2, 3, 4, 9, 53] ∧ lookK kp23 9 = some [8] ∧ lookK kp23 10 = some [1, 2, 3, 4, 10] ∧ lookK kp23 11 = some [1, 2, 3, 4, 10, 57] ∧ lookK kp23 12 = some [1, 2, 3, 4, 10] ∧ lookK kp23 13 = some [1, 2, 3, 4, 10, 75] ∧ lookK kp23 14 = some [8] ∧ lookK kp23 15 = some [8] := ⟨rfl, rfl, rfl, rfl, rfl, rfl, rfl, rfl, rfl, rfl, rfl, rfl, rfl, rfl, rfl, rfl⟩

theorem risesB_sub {l : List Int} : ∀ {a n : Int} , risesB l a n = true → l.length < 140737488355328 ∨ True := fun _ => .inr trivial
/-- A dark place. -/
def darkA (r : Rd) (l : List Int) : Int × List Int × Int :=
  if okCh r l ≠ 0 then (0, [], okCh r l) else if idxOf (fun m => decide (m ≤ r.de)) (litL r (ind l)) < 0 then (0, [], 5)
  else (idxOf (fun m => decide (m ≤ r.de)) (litL r (ind l)), l.filter (fun i => litB r (po r i) (idxOf (fun m => decide (m ≤ r.de)) (litL r (ind l)))), 0)
set_option maxHeartbeats 8000000 in
theorem dark24 (r : Rd) (l : List Int) : Pure Tryd.prog 24 [roadV r, ints l] (.tup [I (darkA r l).1, ints (darkA r l).2.1, I (darkA r l).2.2]) := by
  refine pure_wkE (bad := []) (kp := kp24) (X := tx) (nt := 66) (rs := [.tmp 4, .tmp 5, .tmp 6]) Tryd.func24 rfl rfl rfl rfl mo (by kernel_rfl) rfl rfl (fun hf => ?_)
  have hfit := fit_ints (hf (ints l) (by simp))
  by_cases h : okCh r l = 0
  case neg =>
    have e : darkA r l = (0, [], okCh r l) := by simp [darkA, h]
    simp (config := { maxSteps := 2000000 }) only [go_sem, reduceIte, Nat.reduceEqDiff, Nat.reduceAdd, Nat.reduceLT, Nat.reduceLeDiff, Nat.reduceBEq, Nat.reduceMul, Nat.reduceSub, Nat.reduceDiv, Int.reduceNeg, Int.reduceLT, Int.reduceLE, Int.reduceEq, Int.reduceToNat, fillC, zc, List.replicate_succ, List.replicate_zero, List.flatten_cons, List.flatten_nil, toDs, toD, chunk, placeS, srcRows, List.all_cons, List.all_nil, List.all_map, Function.comp_def, List.take_nil, List.drop_nil, List.toList_toArray, C.eqbL, eqCs, eqC, List.drop_one, List.tail_cons, lim, lk24, lk22, lk23, roadV, roadC]
    refine aops_pure' (open40_bad r l h) rfl rfl (by first | exact wk_refls _ | (repeat constructor)) ?_
    simp (config := { maxSteps := 2000000 }) only [go_sem, reduceIte, Nat.reduceEqDiff, Nat.reduceAdd, Nat.reduceLT, Nat.reduceLeDiff, Nat.reduceBEq, Nat.reduceMul, Nat.reduceSub, Nat.reduceDiv, Int.reduceNeg, Int.reduceLT, Int.reduceLE, Int.reduceEq, Int.reduceToNat, fillC, zc, List.replicate_succ, List.replicate_zero, List.flatten_cons, List.flatten_nil, toDs, toD, chunk, placeS, srcRows, List.all_cons, List.all_nil, List.all_map, Function.comp_def, List.take_nil, List.drop_nil, List.toList_toArray, C.eqbL, eqCs, eqC, List.drop_one, List.tail_cons, lim, lk24, lk22, lk23, h, e, ints, List.map_nil]
  obtain ⟨hr, hris⟩ := okCh_ok h
  obtain ⟨hnd, hrng⟩ := rises_ok hris
  have h1 := hr.p1
  have h40 := hr.p40
  have hlen := hr.len
  have hll := litL_len r (ind l)
  have hle := rises_len hris (by omega)
  simp (config := { maxSteps := 2000000 }) only [go_sem, reduceIte, Nat.reduceEqDiff, Nat.reduceAdd, Nat.reduceLT, Nat.reduceLeDiff, Nat.reduceBEq, Nat.reduceMul, Nat.reduceSub, Nat.reduceDiv, Int.reduceNeg, Int.reduceLT, Int.reduceLE, Int.reduceEq, Int.reduceToNat, fillC, zc, List.replicate_succ, List.replicate_zero, List.flatten_cons, List.flatten_nil, toDs, toD, chunk, placeS, srcRows, List.all_cons, List.all_nil, List.all_map, Function.comp_def, List.take_nil, List.drop_nil, List.toList_toArray, C.eqbL, eqCs, eqC, List.drop_one, List.tail_cons, lim, lk24, lk22, lk23, roadV, roadC]
  refine aops_pure' (open40_dp r l h) rfl rfl (by first | exact wk_refls _ | (repeat constructor)) ?_
  simp (config := { maxSteps := 2000000 }) only [go_sem, reduceIte, Nat.reduceEqDiff, Nat.reduceAdd, Nat.reduceLT, Nat.reduceLeDiff, Nat.reduceBEq, Nat.reduceMul, Nat.reduceSub, Nat.reduceDiv, Int.reduceNeg, Int.reduceLT, Int.reduceLE, Int.reduceEq, Int.reduceToNat, fillC, zc, List.replicate_succ, List.replicate_zero, List.flatten_cons, List.flatten_nil, toDs, toD, chunk, placeS, srcRows, List.all_cons, List.all_nil, List.all_map, Function.comp_def, List.take_nil, List.drop_nil, List.toList_toArray, C.eqbL, eqCs, eqC, List.drop_one, List.tail_cons, lim, lk24, lk22, lk23]
  refine aops_pure' (lit41 r (ind l) zf hr (ind_bnd l)) rfl rfl (by first | exact wk_refls _ | (repeat constructor)) ?_
  simp (config := { maxSteps := 2000000 }) only [go_sem, reduceIte, Nat.reduceEqDiff, Nat.reduceAdd, Nat.reduceLT, Nat.reduceLeDiff, Nat.reduceBEq, Nat.reduceMul, Nat.reduceSub, Nat.reduceDiv, Int.reduceNeg, Int.reduceLT, Int.reduceLE, Int.reduceEq, Int.reduceToNat, fillC, zc, List.replicate_succ, List.replicate_zero, List.flatten_cons, List.flatten_nil, toDs, toD, chunk, placeS, srcRows, List.all_cons, List.all_nil, List.all_map, Function.comp_def, List.take_nil, List.drop_nil, List.toList_toArray, C.eqbL, eqCs, eqC, List.drop_one, List.tail_cons, lim, lk24, lk22, lk23, ints]
  refine goE_loop (bad := []) (kp := kp24) (fun i : Nat => { slots := [(1, ints l), (2, .c (.ptr 0 0)), (7, .c (.dp (netD r (ind l) zf))), (9, I (-1)), (26, ints (litL r (ind l))), (27, I (litL r (ind l)).length), (28, I i)], heap := [.cells (roadC r)], marks := [] }) (fun i => i ≤ (litL r (ind l)).length ∧ ∀ j x, j < i → (litL r (ind l))[j]? = some x → decide (x ≤ r.de) = false) (fun i => (litL r (ind l)).length - i) 0 mo (by kernel_rfl) ?_ ⟨Nat.zero_le _, by intro j x hj; omega⟩ ?_
  · refine ent_weaken [] rfl rfl (Nat.zero_le _) rfl rfl ?_
    simp (config := { maxSteps := 2000000 }) only [go_sem, reduceIte, Nat.reduceEqDiff, Nat.reduceAdd, Nat.reduceLT, Nat.reduceLeDiff, Nat.reduceBEq, Nat.reduceMul, Nat.reduceSub, Nat.reduceDiv, Int.reduceNeg, Int.reduceLT, Int.reduceLE, Int.reduceEq, Int.reduceToNat, fillC, zc, List.replicate_succ, List.replicate_zero, List.flatten_cons, List.flatten_nil, toDs, toD, chunk, placeS, srcRows, List.all_cons, List.all_nil, List.all_map, Function.comp_def, List.take_nil, List.drop_nil, List.toList_toArray, C.eqbL, eqCs, eqC, List.drop_one, List.tail_cons, lim, lk24, lk22, lk23, ints, roadC]
    exact .refl _
  rintro i ⟨hi, hall⟩
  simp (config := { maxSteps := 2000000 }) only [go_sem, reduceIte, Nat.reduceEqDiff, Nat.reduceAdd, Nat.reduceLT, Nat.reduceLeDiff, Nat.reduceBEq, Nat.reduceMul, Nat.reduceSub, Nat.reduceDiv, Int.reduceNeg, Int.reduceLT, Int.reduceLE, Int.reduceEq, Int.reduceToNat, fillC, zc, List.replicate_succ, List.replicate_zero, List.flatten_cons, List.flatten_nil, toDs, toD, chunk, placeS, srcRows, List.all_cons, List.all_nil, List.all_map, Function.comp_def, List.take_nil, List.drop_nil, List.toList_toArray, C.eqbL, eqCs, eqC, List.drop_one, List.tail_cons, lim, lk24, lk22, lk23, ints, roadC]
  refine goE_if (fun h => ?_) (fun h => ?_)
  · have hlt : i < (litL r (ind l)).length := by simpa using h
    obtain ⟨x, hx⟩ := get_of_lt hlt
    have cx : (decide ((0 : Int) ≤ (i : Int)) && decide ((i : Int) < ((litL r (ind l)).length : Int))) = true := by simp; omega
    simp (config := { maxSteps := 2000000 }) only [go_sem, reduceIte, Nat.reduceEqDiff, Nat.reduceAdd, Nat.reduceLT, Nat.reduceLeDiff, Nat.reduceBEq, Nat.reduceMul, Nat.reduceSub, Nat.reduceDiv, Int.reduceNeg, Int.reduceLT, Int.reduceLE, Int.reduceEq, Int.reduceToNat, fillC, zc, List.replicate_succ, List.replicate_zero, List.flatten_cons, List.flatten_nil, toDs, toD, chunk, placeS, srcRows, List.all_cons, List.all_nil, List.all_map, Function.comp_def, List.take_nil, List.drop_nil, List.toList_toArray, C.eqbL, eqCs, eqC, List.drop_one, List.tail_cons, lim, lk24, lk22, lk23, hx, iD, cx]
    refine goE_if (fun h => ?_) (fun h => ?_)
    · have hidx : idxOf (fun m => decide (m ≤ r.de)) (litL r (ind l)) = i := idxOf_at hall hx h
      have hn : ¬ ((i : Int) < 0) := by omega
      have e : darkA r l = ((i : Int), l.filter (fun k => litB r (po r k) i), 0) := by
        unfold darkA
        rw [if_neg (by simpa using ‹okCh r l = 0›), hidx, if_neg hn]
      rw [e]
      simp (config := { maxSteps := 2000000 }) only [go_sem, reduceIte, Nat.reduceEqDiff, Nat.reduceAdd, Nat.reduceLT, Nat.reduceLeDiff, Nat.reduceBEq, Nat.reduceMul, Nat.reduceSub, Nat.reduceDiv, Int.reduceNeg, Int.reduceLT, Int.reduceLE, Int.reduceEq, Int.reduceToNat, fillC, zc, List.replicate_succ, List.replicate_zero, List.flatten_cons, List.flatten_nil, toDs, toD, chunk, placeS, srcRows, List.all_cons, List.all_nil, List.all_map, Function.comp_def, List.take_nil, List.drop_nil, List.toList_toArray, C.eqbL, eqCs, eqC, List.drop_one, List.tail_cons, lim, lk24, lk22, lk23, hn]
      refine goE_loop (bad := []) (kp := kp24) (fun k : Nat => { slots := [(7, .c (.dp (netD r (ind l) zf))), (9, I (i : Int)), (12, ints ((l.take k).filter (fun k => litB r (po r k) i))), (42, ints l), (43, I l.length), (44, I k)], heap := [.cells (roadC r)], marks := [] }) (fun k => k ≤ l.length) (fun k => l.length - k) 0 mo (by kernel_rfl) ?_ (Nat.zero_le _) ?_
      · refine ent_weaken [] rfl rfl (Nat.zero_le _) rfl rfl ?_
        simp (config := { maxSteps := 2000000 }) only [go_sem, reduceIte, Nat.reduceEqDiff, Nat.reduceAdd, Nat.reduceLT, Nat.reduceLeDiff, Nat.reduceBEq, Nat.reduceMul, Nat.reduceSub, Nat.reduceDiv, Int.reduceNeg, Int.reduceLT, Int.reduceLE, Int.reduceEq, Int.reduceToNat, fillC, zc, List.replicate_succ, List.replicate_zero, List.flatten_cons, List.flatten_nil, toDs, toD, chunk, placeS, srcRows, List.all_cons, List.all_nil, List.all_map, Function.comp_def, List.take_nil, List.drop_nil, List.toList_toArray, C.eqbL, eqCs, eqC, List.drop_one, List.tail_cons, lim, lk24, lk22, lk23, ints, roadC, List.filter_nil]
        exact .refl _
      rintro k hk
      simp (config := { maxSteps := 2000000 }) only [go_sem, reduceIte, Nat.reduceEqDiff, Nat.reduceAdd, Nat.reduceLT, Nat.reduceLeDiff, Nat.reduceBEq, Nat.reduceMul, Nat.reduceSub, Nat.reduceDiv, Int.reduceNeg, Int.reduceLT, Int.reduceLE, Int.reduceEq, Int.reduceToNat, fillC, zc, List.replicate_succ, List.replicate_zero, List.flatten_cons, List.flatten_nil, toDs, toD, chunk, placeS, srcRows, List.all_cons, List.all_nil, List.all_map, Function.comp_def, List.take_nil, List.drop_nil, List.toList_toArray, C.eqbL, eqCs, eqC, List.drop_one, List.tail_cons, lim, lk24, lk22, lk23, ints, roadC]
      refine goE_if (fun h => ?_) (fun h => ?_)
      · have hkl : k < l.length := by simpa using h
        obtain ⟨y, hy⟩ := get_of_lt hkl
        obtain ⟨y0, y1⟩ := hrng y (List.mem_of_getElem? hy)
        have cy : (decide ((0 : Int) ≤ (k : Int)) && decide ((k : Int) < (l.length : Int))) = true := by simp; omega
        simp (config := { maxSteps := 2000000 }) only [go_sem, reduceIte, Nat.reduceEqDiff, Nat.reduceAdd, Nat.reduceLT, Nat.reduceLeDiff, Nat.reduceBEq, Nat.reduceMul, Nat.reduceSub, Nat.reduceDiv, Int.reduceNeg, Int.reduceLT, Int.reduceLE, Int.reduceEq, Int.reduceToNat, fillC, zc, List.replicate_succ, List.replicate_zero, List.flatten_cons, List.flatten_nil, toDs, toD, chunk, placeS, srcRows, List.all_cons, List.all_nil, List.all_map, Function.comp_def, List.take_nil, List.drop_nil, List.toList_toArray, C.eqbL, eqCs, eqC, List.drop_one, List.tail_cons, lim, lk24, lk22, lk23, hy, iD, cy, List.isEmpty_cons]
        refine aops_pure' (lights52 r (ind l) zf y i hr y0 y1) rfl rfl (by first | exact wk_refls _ | (repeat constructor)) ?_
        simp (config := { maxSteps := 2000000 }) only [go_sem, reduceIte, Nat.reduceEqDiff, Nat.reduceAdd, Nat.reduceLT, Nat.reduceLeDiff, Nat.reduceBEq, Nat.reduceMul, Nat.reduceSub, Nat.reduceDiv, Int.reduceNeg, Int.reduceLT, Int.reduceLE, Int.reduceEq, Int.reduceToNat, fillC, zc, List.replicate_succ, List.replicate_zero, List.flatten_cons, List.flatten_nil, toDs, toD, chunk, placeS, srcRows, List.all_cons, List.all_nil, List.all_map, Function.comp_def, List.take_nil, List.drop_nil, List.toList_toArray, C.eqbL, eqCs, eqC, List.drop_one, List.tail_cons, lim, lk24, lk22, lk23]
        have hT : List.take ((l.take k).filter (fun k => litB r (po r k) i)).length (List.map iD ((l.take k).filter (fun k => litB r (po r k) i))) = List.map iD ((l.take k).filter (fun k => litB r (po r k) i)) := List.take_of_length_le (by simp)
        have hFl : ((l.take k).filter (fun k => litB r (po r k) i)).length ≤ 24 := by
          have h2 : ((l.take k).filter (fun k => litB r (po r k) i)).length ≤ (l.take k).length := List.length_filter_le _ _
          have h3 : (l.take k).length ≤ l.length := by simp; omega
          omega
        refine goE_if (fun h => ?_) (fun h => ?_)
        · have hs : (l.take (k + 1)).filter (fun k => litB r (po r k) i) = (l.take k).filter (fun k => litB r (po r k) i) ++ [y] := by
            rw [take_succ_eq hy, List.filter_append]; simp [h]
          simp (config := { maxSteps := 2000000 }) only [go_sem, reduceIte, Nat.reduceEqDiff, Nat.reduceAdd, Nat.reduceLT, Nat.reduceLeDiff, Nat.reduceBEq, Nat.reduceMul, Nat.reduceSub, Nat.reduceDiv, Int.reduceNeg, Int.reduceLT, Int.reduceLE, Int.reduceEq, Int.reduceToNat, fillC, zc, List.replicate_succ, List.replicate_zero, List.flatten_cons, List.flatten_nil, toDs, toD, chunk, placeS, srcRows, List.all_cons, List.all_nil, List.all_map, Function.comp_def, List.take_nil, List.drop_nil, List.toList_toArray, C.eqbL, eqCs, eqC, List.drop_one, List.tail_cons, lim, lk24, lk22, lk23, bound, hT, List.length_map]
          refine ⟨by simp [iD], by simp [iD]; omega, ?_⟩
          simp (config := { maxSteps := 2000000 }) only [go_sem, reduceIte, Nat.reduceEqDiff, Nat.reduceAdd, Nat.reduceLT, Nat.reduceLeDiff, Nat.reduceBEq, Nat.reduceMul, Nat.reduceSub, Nat.reduceDiv, Int.reduceNeg, Int.reduceLT, Int.reduceLE, Int.reduceEq, Int.reduceToNat, fillC, zc, List.replicate_succ, List.replicate_zero, List.flatten_cons, List.flatten_nil, toDs, toD, chunk, placeS, srcRows, List.all_cons, List.all_nil, List.all_map, Function.comp_def, List.take_nil, List.drop_nil, List.toList_toArray, C.eqbL, eqCs, eqC, List.drop_one, List.tail_cons, lim, lk24, lk22, lk23, wr_succ hkl hfit]
          refine ⟨k + 1, hkl, by omega, ?_⟩
          refine ent_weaken [AB.grow (((l.take k).filter (fun k => litB r (po r k) i)).length + 1) 1] rfl rfl (Nat.zero_le _) rfl rfl ?_
          simp (config := { maxSteps := 2000000 }) only [go_sem, reduceIte, Nat.reduceEqDiff, Nat.reduceAdd, Nat.reduceLT, Nat.reduceLeDiff, Nat.reduceBEq, Nat.reduceMul, Nat.reduceSub, Nat.reduceDiv, Int.reduceNeg, Int.reduceLT, Int.reduceLE, Int.reduceEq, Int.reduceToNat, fillC, zc, List.replicate_succ, List.replicate_zero, List.flatten_cons, List.flatten_nil, toDs, toD, chunk, placeS, srcRows, List.all_cons, List.all_nil, List.all_map, Function.comp_def, List.take_nil, List.drop_nil, List.toList_toArray, C.eqbL, eqCs, eqC, List.drop_one, List.tail_cons, lim, lk24, lk22, lk23, hs, List.map_append, iD]
          try exact .refl _
        · have hs : (l.take (k + 1)).filter (fun k => litB r (po r k) i) = (l.take k).filter (fun k => litB r (po r k) i) := by
            rw [take_succ_eq hy, List.filter_append]; simp [h]
          simp (config := { maxSteps := 2000000 }) only [go_sem, reduceIte, Nat.reduceEqDiff, Nat.reduceAdd, Nat.reduceLT, Nat.reduceLeDiff, Nat.reduceBEq, Nat.reduceMul, Nat.reduceSub, Nat.reduceDiv, Int.reduceNeg, Int.reduceLT, Int.reduceLE, Int.reduceEq, Int.reduceToNat, fillC, zc, List.replicate_succ, List.replicate_zero, List.flatten_cons, List.flatten_nil, toDs, toD, chunk, placeS, srcRows, List.all_cons, List.all_nil, List.all_map, Function.comp_def, List.take_nil, List.drop_nil, List.toList_toArray, C.eqbL, eqCs, eqC, List.drop_one, List.tail_cons, lim, lk24, lk22, lk23, wr_succ hkl hfit]
          refine ⟨k + 1, hkl, by omega, ?_⟩
          refine ent_weaken [] rfl rfl (Nat.zero_le _) rfl rfl ?_
          simp (config := { maxSteps := 2000000 }) only [go_sem, reduceIte, Nat.reduceEqDiff, Nat.reduceAdd, Nat.reduceLT, Nat.reduceLeDiff, Nat.reduceBEq, Nat.reduceMul, Nat.reduceSub, Nat.reduceDiv, Int.reduceNeg, Int.reduceLT, Int.reduceLE, Int.reduceEq, Int.reduceToNat, fillC, zc, List.replicate_succ, List.replicate_zero, List.flatten_cons, List.flatten_nil, toDs, toD, chunk, placeS, srcRows, List.all_cons, List.all_nil, List.all_map, Function.comp_def, List.take_nil, List.drop_nil, List.toList_toArray, C.eqbL, eqCs, eqC, List.drop_one, List.tail_cons, lim, lk24, lk22, lk23, hs]
      · have hk' : k = l.length := by simp at h; omega
        subst hk'
        simp (config := { maxSteps := 2000000 }) only [go_sem, reduceIte, Nat.reduceEqDiff, Nat.reduceAdd, Nat.reduceLT, Nat.reduceLeDiff, Nat.reduceBEq, Nat.reduceMul, Nat.reduceSub, Nat.reduceDiv, Int.reduceNeg, Int.reduceLT, Int.reduceLE, Int.reduceEq, Int.reduceToNat, fillC, zc, List.replicate_succ, List.replicate_zero, List.flatten_cons, List.flatten_nil, toDs, toD, chunk, placeS, srcRows, List.all_cons, List.all_nil, List.all_map, Function.comp_def, List.take_nil, List.drop_nil, List.toList_toArray, C.eqbL, eqCs, eqC, List.drop_one, List.tail_cons, lim, lk24, lk22, lk23, List.take_length]
    · simp (config := { maxSteps := 2000000 }) only [go_sem, reduceIte, Nat.reduceEqDiff, Nat.reduceAdd, Nat.reduceLT, Nat.reduceLeDiff, Nat.reduceBEq, Nat.reduceMul, Nat.reduceSub, Nat.reduceDiv, Int.reduceNeg, Int.reduceLT, Int.reduceLE, Int.reduceEq, Int.reduceToNat, fillC, zc, List.replicate_succ, List.replicate_zero, List.flatten_cons, List.flatten_nil, toDs, toD, chunk, placeS, srcRows, List.all_cons, List.all_nil, List.all_map, Function.comp_def, List.take_nil, List.drop_nil, List.toList_toArray, C.eqbL, eqCs, eqC, List.drop_one, List.tail_cons, lim, lk24, lk22, lk23, wr_succ hlt (show (litL r (ind l)).length ≤ 140737488355328 by omega)]
      refine ⟨i + 1, ⟨hlt, upto_succ hall hx h⟩, by omega, ?_⟩
      refine ent_weaken [] rfl rfl (Nat.zero_le _) rfl rfl ?_
      simp (config := { maxSteps := 2000000 }) only [go_sem, reduceIte, Nat.reduceEqDiff, Nat.reduceAdd, Nat.reduceLT, Nat.reduceLeDiff, Nat.reduceBEq, Nat.reduceMul, Nat.reduceSub, Nat.reduceDiv, Int.reduceNeg, Int.reduceLT, Int.reduceLE, Int.reduceEq, Int.reduceToNat, fillC, zc, List.replicate_succ, List.replicate_zero, List.flatten_cons, List.flatten_nil, toDs, toD, chunk, placeS, srcRows, List.all_cons, List.all_nil, List.all_map, Function.comp_def, List.take_nil, List.drop_nil, List.toList_toArray, C.eqbL, eqCs, eqC, List.drop_one, List.tail_cons, lim, lk24, lk22, lk23]
  · have hi' : i = (litL r (ind l)).length := by simp at h; omega
    have hidx : idxOf (fun m => decide (m ≤ r.de)) (litL r (ind l)) = -1 := idxOf_none (fun j x hj hx => hall j x (by omega) hx)
    have e : darkA r l = (0, [], 5) := by
      unfold darkA
      rw [if_neg (by simpa using ‹okCh r l = 0›), hidx, if_pos (by decide)]
    simp (config := { maxSteps := 2000000 }) only [go_sem, reduceIte, Nat.reduceEqDiff, Nat.reduceAdd, Nat.reduceLT, Nat.reduceLeDiff, Nat.reduceBEq, Nat.reduceMul, Nat.reduceSub, Nat.reduceDiv, Int.reduceNeg, Int.reduceLT, Int.reduceLE, Int.reduceEq, Int.reduceToNat, fillC, zc, List.replicate_succ, List.replicate_zero, List.flatten_cons, List.flatten_nil, toDs, toD, chunk, placeS, srcRows, List.all_cons, List.all_nil, List.all_map, Function.comp_def, List.take_nil, List.drop_nil, List.toList_toArray, C.eqbL, eqCs, eqC, List.drop_one, List.tail_cons, lim, lk24, lk22, lk23, e, ints, List.map_nil]

/-- Whether a place is dark. -/
def okDark (r : Rd) (l : List Int) (pl : Int) (d : List Int) : Int :=
  if okCh r l ≠ 0 then okCh r l else if pl < 0 ∨ r.pl ≤ pl ∨ r.de < d.length ∨ rises d r.ps.length = false then 3
  else if d.all (fun x => l.any (fun y => decide (y = x))) = false then 3
  else if l.any (fun x => !d.any (fun y => decide (y = x)) && litB r (po r x) pl) then 14 else 0
set_option maxHeartbeats 8000000 in
theorem checkDark23 (r : Rd) (l : List Int) (pl : Int) (d : List Int) : Pure Tryd.prog 23 [roadV r, ints l, I pl, ints d] (I (okDark r l pl d)) := by
  refine pure_wkE (bad := []) (kp := kp23) (X := tx) (nt := 76) (rs := [.tmp 8]) Tryd.func23 rfl rfl rfl rfl mo (by kernel_rfl) rfl rfl (fun hf => ?_)
  have hfl := fit_ints (hf (ints l) (by simp))
  have hfd := fit_ints (hf (ints d) (by simp))
  simp (config := { maxSteps := 2000000 }) only [go_sem, reduceIte, Nat.reduceEqDiff, Nat.reduceAdd, Nat.reduceLT, Nat.reduceLeDiff, Nat.reduceBEq, Nat.reduceMul, Nat.reduceSub, Nat.reduceDiv, Int.reduceNeg, Int.reduceLT, Int.reduceLE, Int.reduceEq, Int.reduceToNat, fillC, zc, List.replicate_succ, List.replicate_zero, List.flatten_cons, List.flatten_nil, toDs, toD, chunk, placeS, srcRows, List.all_cons, List.all_nil, List.all_map, Function.comp_def, List.take_nil, List.drop_nil, List.toList_toArray, C.eqbL, eqCs, eqC, List.drop_one, List.tail_cons, lim, lk24, lk22, lk23, roadV, roadC]
  refine aops_pure' (isChoice25 r l) rfl rfl (by first | exact wk_refls _ | (repeat constructor)) ?_
  by_cases h : okCh r l = 0
  case neg =>
    have e : okDark r l pl d = okCh r l := by simp [okDark, h]
    simp (config := { maxSteps := 2000000 }) only [go_sem, reduceIte, Nat.reduceEqDiff, Nat.reduceAdd, Nat.reduceLT, Nat.reduceLeDiff, Nat.reduceBEq, Nat.reduceMul, Nat.reduceSub, Nat.reduceDiv, Int.reduceNeg, Int.reduceLT, Int.reduceLE, Int.reduceEq, Int.reduceToNat, fillC, zc, List.replicate_succ, List.replicate_zero, List.flatten_cons, List.flatten_nil, toDs, toD, chunk, placeS, srcRows, List.all_cons, List.all_nil, List.all_map, Function.comp_def, List.take_nil, List.drop_nil, List.toList_toArray, C.eqbL, eqCs, eqC, List.drop_one, List.tail_cons, lim, lk24, lk22, lk23, h]
    refine aops_pure' (isChoice25 r l) rfl rfl (by first | exact wk_refls _ | (repeat constructor)) ?_
    simp (config := { maxSteps := 2000000 }) only [go_sem, reduceIte, Nat.reduceEqDiff, Nat.reduceAdd, Nat.reduceLT, Nat.reduceLeDiff, Nat.reduceBEq, Nat.reduceMul, Nat.reduceSub, Nat.reduceDiv, Int.reduceNeg, Int.reduceLT, Int.reduceLE, Int.reduceEq, Int.reduceToNat, fillC, zc, List.replicate_succ, List.replicate_zero, List.flatten_cons, List.flatten_nil, toDs, toD, chunk, placeS, srcRows, List.all_cons, List.all_nil, List.all_map, Function.comp_def, List.take_nil, List.drop_nil, List.toList_toArray, C.eqbL, eqCs, eqC, List.drop_one, List.tail_cons, lim, lk24, lk22, lk23, e]
  obtain ⟨hr, hris⟩ := okCh_ok h
  obtain ⟨hnd, hrng⟩ := rises_ok hris
  have e0 : okDark r l pl d = if pl < 0 ∨ r.pl ≤ pl ∨ r.de < d.length ∨ rises d r.ps.length = false then 3
      else if d.all (fun x => l.any (fun y => decide (y = x))) = false then 3
      else if l.any (fun x => !d.any (fun y => decide (y = x)) && litB r (po r x) pl) then 14 else 0 := by unfold okDark; rw [if_neg (by simpa using h)]
  rw [e0]
  simp (config := { maxSteps := 2000000 }) only [go_sem, reduceIte, Nat.reduceEqDiff, Nat.reduceAdd, Nat.reduceLT, Nat.reduceLeDiff, Nat.reduceBEq, Nat.reduceMul, Nat.reduceSub, Nat.reduceDiv, Int.reduceNeg, Int.reduceLT, Int.reduceLE, Int.reduceEq, Int.reduceToNat, fillC, zc, List.replicate_succ, List.replicate_zero, List.flatten_cons, List.flatten_nil, toDs, toD, chunk, placeS, srcRows, List.all_cons, List.all_nil, List.all_map, Function.comp_def, List.take_nil, List.drop_nil, List.toList_toArray, C.eqbL, eqCs, eqC, List.drop_one, List.tail_cons, lim, lk24, lk22, lk23, h]
  by_cases a1 : pl < 0
  · simp (config := { maxSteps := 2000000 }) only [go_sem, reduceIte, Nat.reduceEqDiff, Nat.reduceAdd, Nat.reduceLT, Nat.reduceLeDiff, Nat.reduceBEq, Nat.reduceMul, Nat.reduceSub, Nat.reduceDiv, Int.reduceNeg, Int.reduceLT, Int.reduceLE, Int.reduceEq, Int.reduceToNat, fillC, zc, List.replicate_succ, List.replicate_zero, List.flatten_cons, List.flatten_nil, toDs, toD, chunk, placeS, srcRows, List.all_cons, List.all_nil, List.all_map, Function.comp_def, List.take_nil, List.drop_nil, List.toList_toArray, C.eqbL, eqCs, eqC, List.drop_one, List.tail_cons, lim, lk24, lk22, lk23, a1]
  by_cases a2 : r.pl ≤ pl
  · simp (config := { maxSteps := 2000000 }) only [go_sem, reduceIte, Nat.reduceEqDiff, Nat.reduceAdd, Nat.reduceLT, Nat.reduceLeDiff, Nat.reduceBEq, Nat.reduceMul, Nat.reduceSub, Nat.reduceDiv, Int.reduceNeg, Int.reduceLT, Int.reduceLE, Int.reduceEq, Int.reduceToNat, fillC, zc, List.replicate_succ, List.replicate_zero, List.flatten_cons, List.flatten_nil, toDs, toD, chunk, placeS, srcRows, List.all_cons, List.all_nil, List.all_map, Function.comp_def, List.take_nil, List.drop_nil, List.toList_toArray, C.eqbL, eqCs, eqC, List.drop_one, List.tail_cons, lim, lk24, lk22, lk23, a1, a2, ints]
  by_cases a3 : r.de < d.length
  · simp (config := { maxSteps := 2000000 }) only [go_sem, reduceIte, Nat.reduceEqDiff, Nat.reduceAdd, Nat.reduceLT, Nat.reduceLeDiff, Nat.reduceBEq, Nat.reduceMul, Nat.reduceSub, Nat.reduceDiv, Int.reduceNeg, Int.reduceLT, Int.reduceLE, Int.reduceEq, Int.reduceToNat, fillC, zc, List.replicate_succ, List.replicate_zero, List.flatten_cons, List.flatten_nil, toDs, toD, chunk, placeS, srcRows, List.all_cons, List.all_nil, List.all_map, Function.comp_def, List.take_nil, List.drop_nil, List.toList_toArray, C.eqbL, eqCs, eqC, List.drop_one, List.tail_cons, lim, lk24, lk22, lk23, a1, a2, a3, ints]
  simp (config := { maxSteps := 2000000 }) only [go_sem, reduceIte, Nat.reduceEqDiff, Nat.reduceAdd, Nat.reduceLT, Nat.reduceLeDiff, Nat.reduceBEq, Nat.reduceMul, Nat.reduceSub, Nat.reduceDiv, Int.reduceNeg, Int.reduceLT, Int.reduceLE, Int.reduceEq, Int.reduceToNat, fillC, zc, List.replicate_succ, List.replicate_zero, List.flatten_cons, List.flatten_nil, toDs, toD, chunk, placeS, srcRows, List.all_cons, List.all_nil, List.all_map, Function.comp_def, List.take_nil, List.drop_nil, List.toList_toArray, C.eqbL, eqCs, eqC, List.drop_one, List.tail_cons, lim, lk24, lk22, lk23, a1, a2, a3, ints]
  refine aops_pure' (rising49 d r.ps.length) rfl rfl (by first | exact wk_refls _ | (repeat constructor)) ?_
  cases a4 : rises d r.ps.length with
  | false => simp (config := { maxSteps := 2000000 }) only [go_sem, reduceIte, Nat.reduceEqDiff, Nat.reduceAdd, Nat.reduceLT, Nat.reduceLeDiff, Nat.reduceBEq, Nat.reduceMul, Nat.reduceSub, Nat.reduceDiv, Int.reduceNeg, Int.reduceLT, Int.reduceLE, Int.reduceEq, Int.reduceToNat, fillC, zc, List.replicate_succ, List.replicate_zero, List.flatten_cons, List.flatten_nil, toDs, toD, chunk, placeS, srcRows, List.all_cons, List.all_nil, List.all_map, Function.comp_def, List.take_nil, List.drop_nil, List.toList_toArray, C.eqbL, eqCs, eqC, List.drop_one, List.tail_cons, lim, lk24, lk22, lk23]
  | true =>
  simp (config := { maxSteps := 2000000 }) only [go_sem, reduceIte, Nat.reduceEqDiff, Nat.reduceAdd, Nat.reduceLT, Nat.reduceLeDiff, Nat.reduceBEq, Nat.reduceMul, Nat.reduceSub, Nat.reduceDiv, Int.reduceNeg, Int.reduceLT, Int.reduceLE, Int.reduceEq, Int.reduceToNat, fillC, zc, List.replicate_succ, List.replicate_zero, List.flatten_cons, List.flatten_nil, toDs, toD, chunk, placeS, srcRows, List.all_cons, List.all_nil, List.all_map, Function.comp_def, List.take_nil, List.drop_nil, List.toList_toArray, C.eqbL, eqCs, eqC, List.drop_one, List.tail_cons, lim, lk24, lk22, lk23]
  refine goE_loop (bad := []) (kp := kp23) (fun i : Nat => { slots := [(1, ints l), (2, I pl), (3, ints d), (4, .c (.ptr 0 0)), (9, I i)], heap := [.cells (roadC r)], marks := [] }) (fun i => i ≤ d.length ∧ ∀ j x, j < i → d[j]? = some x → l.any (fun y => decide (y = x)) = true) (fun i => d.length - i) 0 mo (by kernel_rfl) ?_ ⟨Nat.zero_le _, by intro j x hj; omega⟩ ?_
  · refine ent_weaken [] rfl rfl (Nat.zero_le _) rfl rfl ?_
    simp (config := { maxSteps := 2000000 }) only [go_sem, reduceIte, Nat.reduceEqDiff, Nat.reduceAdd, Nat.reduceLT, Nat.reduceLeDiff, Nat.reduceBEq, Nat.reduceMul, Nat.reduceSub, Nat.reduceDiv, Int.reduceNeg, Int.reduceLT, Int.reduceLE, Int.reduceEq, Int.reduceToNat, fillC, zc, List.replicate_succ, List.replicate_zero, List.flatten_cons, List.flatten_nil, toDs, toD, chunk, placeS, srcRows, List.all_cons, List.all_nil, List.all_map, Function.comp_def, List.take_nil, List.drop_nil, List.toList_toArray, C.eqbL, eqCs, eqC, List.drop_one, List.tail_cons, lim, lk24, lk22, lk23, ints, roadC]
    exact .refl _
  rintro i ⟨hi, hall⟩
  simp (config := { maxSteps := 2000000 }) only [go_sem, reduceIte, Nat.reduceEqDiff, Nat.reduceAdd, Nat.reduceLT, Nat.reduceLeDiff, Nat.reduceBEq, Nat.reduceMul, Nat.reduceSub, Nat.reduceDiv, Int.reduceNeg, Int.reduceLT, Int.reduceLE, Int.reduceEq, Int.reduceToNat, fillC, zc, List.replicate_succ, List.replicate_zero, List.flatten_cons, List.flatten_nil, toDs, toD, chunk, placeS, srcRows, List.all_cons, List.all_nil, List.all_map, Function.comp_def, List.take_nil, List.drop_nil, List.toList_toArray, C.eqbL, eqCs, eqC, List.drop_one, List.tail_cons, lim, lk24, lk22, lk23, ints, roadC]
  refine goE_if (fun h => ?_) (fun h => ?_)
  · have hlt : i < d.length := by simpa using h
    obtain ⟨x, hx⟩ := get_of_lt hlt
    have cx : (decide ((0 : Int) ≤ (i : Int)) && decide ((i : Int) < (d.length : Int))) = true := by simp; omega
    simp (config := { maxSteps := 2000000 }) only [go_sem, reduceIte, Nat.reduceEqDiff, Nat.reduceAdd, Nat.reduceLT, Nat.reduceLeDiff, Nat.reduceBEq, Nat.reduceMul, Nat.reduceSub, Nat.reduceDiv, Int.reduceNeg, Int.reduceLT, Int.reduceLE, Int.reduceEq, Int.reduceToNat, fillC, zc, List.replicate_succ, List.replicate_zero, List.flatten_cons, List.flatten_nil, toDs, toD, chunk, placeS, srcRows, List.all_cons, List.all_nil, List.all_map, Function.comp_def, List.take_nil, List.drop_nil, List.toList_toArray, C.eqbL, eqCs, eqC, List.drop_one, List.tail_cons, lim, lk24, lk22, lk23, hx, iD, cx]
    refine aops_pure' (in50 l x) rfl rfl (by first | exact wk_refls _ | (repeat constructor)) ?_
    cases hin : l.any (fun y => decide (y = x)) with
    | false =>
      have e : d.all (fun x => l.any (fun y => decide (y = x))) = false := by
        rw [List.all_eq_false]
        exact ⟨x, List.mem_of_getElem? hx, by simp only [hin]; simp⟩
      simp (config := { maxSteps := 2000000 }) only [go_sem, reduceIte, Nat.reduceEqDiff, Nat.reduceAdd, Nat.reduceLT, Nat.reduceLeDiff, Nat.reduceBEq, Nat.reduceMul, Nat.reduceSub, Nat.reduceDiv, Int.reduceNeg, Int.reduceLT, Int.reduceLE, Int.reduceEq, Int.reduceToNat, fillC, zc, List.replicate_succ, List.replicate_zero, List.flatten_cons, List.flatten_nil, toDs, toD, chunk, placeS, srcRows, List.all_cons, List.all_nil, List.all_map, Function.comp_def, List.take_nil, List.drop_nil, List.toList_toArray, C.eqbL, eqCs, eqC, List.drop_one, List.tail_cons, lim, lk24, lk22, lk23, e]
    | true =>
      simp (config := { maxSteps := 2000000 }) only [go_sem, reduceIte, Nat.reduceEqDiff, Nat.reduceAdd, Nat.reduceLT, Nat.reduceLeDiff, Nat.reduceBEq, Nat.reduceMul, Nat.reduceSub, Nat.reduceDiv, Int.reduceNeg, Int.reduceLT, Int.reduceLE, Int.reduceEq, Int.reduceToNat, fillC, zc, List.replicate_succ, List.replicate_zero, List.flatten_cons, List.flatten_nil, toDs, toD, chunk, placeS, srcRows, List.all_cons, List.all_nil, List.all_map, Function.comp_def, List.take_nil, List.drop_nil, List.toList_toArray, C.eqbL, eqCs, eqC, List.drop_one, List.tail_cons, lim, lk24, lk22, lk23, wr_succ hlt hfd]
      refine ⟨i + 1, ⟨hlt, upto_succ hall hx hin⟩, by omega, ?_⟩
      refine ent_weaken [] rfl rfl (Nat.zero_le _) rfl rfl ?_
      simp (config := { maxSteps := 2000000 }) only [go_sem, reduceIte, Nat.reduceEqDiff, Nat.reduceAdd, Nat.reduceLT, Nat.reduceLeDiff, Nat.reduceBEq, Nat.reduceMul, Nat.reduceSub, Nat.reduceDiv, Int.reduceNeg, Int.reduceLT, Int.reduceLE, Int.reduceEq, Int.reduceToNat, fillC, zc, List.replicate_succ, List.replicate_zero, List.flatten_cons, List.flatten_nil, toDs, toD, chunk, placeS, srcRows, List.all_cons, List.all_nil, List.all_map, Function.comp_def, List.take_nil, List.drop_nil, List.toList_toArray, C.eqbL, eqCs, eqC, List.drop_one, List.tail_cons, lim, lk24, lk22, lk23]
  have hi' : i = d.length := by simp at h; omega
  have e1 : d.all (fun x => l.any (fun y => decide (y = x))) = true := by
    rw [List.all_eq_true]
    intro x hx
    obtain ⟨j, hj⟩ := List.getElem?_of_mem hx
    exact hall j x (by have := (List.getElem?_eq_some_iff.1 hj).1; omega) hj
  clear h hall hi hi'
  simp (config := { maxSteps := 2000000 }) only [go_sem, reduceIte, Nat.reduceEqDiff, Nat.reduceAdd, Nat.reduceLT, Nat.reduceLeDiff, Nat.reduceBEq, Nat.reduceMul, Nat.reduceSub, Nat.reduceDiv, Int.reduceNeg, Int.reduceLT, Int.reduceLE, Int.reduceEq, Int.reduceToNat, fillC, zc, List.replicate_succ, List.replicate_zero, List.flatten_cons, List.flatten_nil, toDs, toD, chunk, placeS, srcRows, List.all_cons, List.all_nil, List.all_map, Function.comp_def, List.take_nil, List.drop_nil, List.toList_toArray, C.eqbL, eqCs, eqC, List.drop_one, List.tail_cons, lim, lk24, lk22, lk23, e1]
  refine goE_loop (bad := []) (kp := kp23) (fun i : Nat => { slots := [(1, ints l), (2, I pl), (3, ints d), (4, .c (.ptr 0 0)), (10, I i)], heap := [.cells (roadC r)], marks := [] }) (fun i => i ≤ l.length ∧ ∀ j x, j < i → l[j]? = some x → (!d.any (fun y => decide (y = x)) && litB r (po r x) pl) = false) (fun i => l.length - i) 0 mo (by kernel_rfl) ?_ ⟨Nat.zero_le _, by intro j x hj; omega⟩ ?_
  · refine ent_weaken [] rfl rfl (Nat.zero_le _) rfl rfl ?_
    simp (config := { maxSteps := 2000000 }) only [go_sem, reduceIte, Nat.reduceEqDiff, Nat.reduceAdd, Nat.reduceLT, Nat.reduceLeDiff, Nat.reduceBEq, Nat.reduceMul, Nat.reduceSub, Nat.reduceDiv, Int.reduceNeg, Int.reduceLT, Int.reduceLE, Int.reduceEq, Int.reduceToNat, fillC, zc, List.replicate_succ, List.replicate_zero, List.flatten_cons, List.flatten_nil, toDs, toD, chunk, placeS, srcRows, List.all_cons, List.all_nil, List.all_map, Function.comp_def, List.take_nil, List.drop_nil, List.toList_toArray, C.eqbL, eqCs, eqC, List.drop_one, List.tail_cons, lim, lk24, lk22, lk23, ints, roadC]
    exact .refl _
  clear i
  rintro i ⟨hi, hall⟩
  simp (config := { maxSteps := 2000000 }) only [go_sem, reduceIte, Nat.reduceEqDiff, Nat.reduceAdd, Nat.reduceLT, Nat.reduceLeDiff, Nat.reduceBEq, Nat.reduceMul, Nat.reduceSub, Nat.reduceDiv, Int.reduceNeg, Int.reduceLT, Int.reduceLE, Int.reduceEq, Int.reduceToNat, fillC, zc, List.replicate_succ, List.replicate_zero, List.flatten_cons, List.flatten_nil, toDs, toD, chunk, placeS, srcRows, List.all_cons, List.all_nil, List.all_map, Function.comp_def, List.take_nil, List.drop_nil, List.toList_toArray, C.eqbL, eqCs, eqC, List.drop_one, List.tail_cons, lim, lk24, lk22, lk23, ints, roadC]
  refine goE_if (fun h => ?_) (fun h => ?_)
  · have hlt : i < l.length := by simpa using h
    obtain ⟨x, hx⟩ := get_of_lt hlt
    obtain ⟨x0, x1⟩ := hrng x (List.mem_of_getElem? hx)
    have cx : (decide ((0 : Int) ≤ (i : Int)) && decide ((i : Int) < (l.length : Int))) = true := by simp; omega
    simp (config := { maxSteps := 2000000 }) only [go_sem, reduceIte, Nat.reduceEqDiff, Nat.reduceAdd, Nat.reduceLT, Nat.reduceLeDiff, Nat.reduceBEq, Nat.reduceMul, Nat.reduceSub, Nat.reduceDiv, Int.reduceNeg, Int.reduceLT, Int.reduceLE, Int.reduceEq, Int.reduceToNat, fillC, zc, List.replicate_succ, List.replicate_zero, List.flatten_cons, List.flatten_nil, toDs, toD, chunk, placeS, srcRows, List.all_cons, List.all_nil, List.all_map, Function.comp_def, List.take_nil, List.drop_nil, List.toList_toArray, C.eqbL, eqCs, eqC, List.drop_one, List.tail_cons, lim, lk24, lk22, lk23, hx, iD, cx]
    refine dops_pure' (in50 d x) rfl rfl (by first | exact wk_refls _ | (repeat constructor)) (by kernel_rfl) ?_
    cases hin : d.any (fun y => decide (y = x)) with
    | true =>
      simp (config := { maxSteps := 2000000 }) only [go_sem, reduceIte, Nat.reduceEqDiff, Nat.reduceAdd, Nat.reduceLT, Nat.reduceLeDiff, Nat.reduceBEq, Nat.reduceMul, Nat.reduceSub, Nat.reduceDiv, Int.reduceNeg, Int.reduceLT, Int.reduceLE, Int.reduceEq, Int.reduceToNat, fillC, zc, List.replicate_succ, List.replicate_zero, List.flatten_cons, List.flatten_nil, toDs, toD, chunk, placeS, srcRows, List.all_cons, List.all_nil, List.all_map, Function.comp_def, List.take_nil, List.drop_nil, List.toList_toArray, C.eqbL, eqCs, eqC, List.drop_one, List.tail_cons, lim, lk24, lk22, lk23, wr_succ hlt hfl]
      refine ⟨i + 1, ⟨hlt, upto_succ hall hx (by rw [hin]; rfl)⟩, by omega, ?_⟩
      refine ent_weaken [] rfl rfl (Nat.zero_le _) rfl rfl ?_
      simp (config := { maxSteps := 2000000 }) only [go_sem, reduceIte, Nat.reduceEqDiff, Nat.reduceAdd, Nat.reduceLT, Nat.reduceLeDiff, Nat.reduceBEq, Nat.reduceMul, Nat.reduceSub, Nat.reduceDiv, Int.reduceNeg, Int.reduceLT, Int.reduceLE, Int.reduceEq, Int.reduceToNat, fillC, zc, List.replicate_succ, List.replicate_zero, List.flatten_cons, List.flatten_nil, toDs, toD, chunk, placeS, srcRows, List.all_cons, List.all_nil, List.all_map, Function.comp_def, List.take_nil, List.drop_nil, List.toList_toArray, C.eqbL, eqCs, eqC, List.drop_one, List.tail_cons, lim, lk24, lk22, lk23]
    | false =>
      simp (config := { maxSteps := 2000000 }) only [go_sem, reduceIte, Nat.reduceEqDiff, Nat.reduceAdd, Nat.reduceLT, Nat.reduceLeDiff, Nat.reduceBEq, Nat.reduceMul, Nat.reduceSub, Nat.reduceDiv, Int.reduceNeg, Int.reduceLT, Int.reduceLE, Int.reduceEq, Int.reduceToNat, fillC, zc, List.replicate_succ, List.replicate_zero, List.flatten_cons, List.flatten_nil, toDs, toD, chunk, placeS, srcRows, List.all_cons, List.all_nil, List.all_map, Function.comp_def, List.take_nil, List.drop_nil, List.toList_toArray, C.eqbL, eqCs, eqC, List.drop_one, List.tail_cons, lim, lk24, lk22, lk23, hx, iD, cx]
      refine dops_pure' (lights51 r x pl hr x0 x1) rfl rfl (by first | exact wk_refls _ | (repeat constructor)) (by kernel_rfl) ?_
      cases hb : litB r (po r x) pl with
      | true =>
        have e : l.any (fun x => !d.any (fun y => decide (y = x)) && litB r (po r x) pl) = true := any_of_get hx (by rw [hin, hb]; rfl)
        simp (config := { maxSteps := 2000000 }) only [go_sem, reduceIte, Nat.reduceEqDiff, Nat.reduceAdd, Nat.reduceLT, Nat.reduceLeDiff, Nat.reduceBEq, Nat.reduceMul, Nat.reduceSub, Nat.reduceDiv, Int.reduceNeg, Int.reduceLT, Int.reduceLE, Int.reduceEq, Int.reduceToNat, fillC, zc, List.replicate_succ, List.replicate_zero, List.flatten_cons, List.flatten_nil, toDs, toD, chunk, placeS, srcRows, List.all_cons, List.all_nil, List.all_map, Function.comp_def, List.take_nil, List.drop_nil, List.toList_toArray, C.eqbL, eqCs, eqC, List.drop_one, List.tail_cons, lim, lk24, lk22, lk23, e]
      | false =>
        simp (config := { maxSteps := 2000000 }) only [go_sem, reduceIte, Nat.reduceEqDiff, Nat.reduceAdd, Nat.reduceLT, Nat.reduceLeDiff, Nat.reduceBEq, Nat.reduceMul, Nat.reduceSub, Nat.reduceDiv, Int.reduceNeg, Int.reduceLT, Int.reduceLE, Int.reduceEq, Int.reduceToNat, fillC, zc, List.replicate_succ, List.replicate_zero, List.flatten_cons, List.flatten_nil, toDs, toD, chunk, placeS, srcRows, List.all_cons, List.all_nil, List.all_map, Function.comp_def, List.take_nil, List.drop_nil, List.toList_toArray, C.eqbL, eqCs, eqC, List.drop_one, List.tail_cons, lim, lk24, lk22, lk23, wr_succ hlt hfl]
        refine ⟨i + 1, ⟨hlt, upto_succ hall hx (by rw [hin, hb]; rfl)⟩, by omega, ?_⟩
        refine ent_weaken [] rfl rfl (Nat.zero_le _) rfl rfl ?_
        simp (config := { maxSteps := 2000000 }) only [go_sem, reduceIte, Nat.reduceEqDiff, Nat.reduceAdd, Nat.reduceLT, Nat.reduceLeDiff, Nat.reduceBEq, Nat.reduceMul, Nat.reduceSub, Nat.reduceDiv, Int.reduceNeg, Int.reduceLT, Int.reduceLE, Int.reduceEq, Int.reduceToNat, fillC, zc, List.replicate_succ, List.replicate_zero, List.flatten_cons, List.flatten_nil, toDs, toD, chunk, placeS, srcRows, List.all_cons, List.all_nil, List.all_map, Function.comp_def, List.take_nil, List.drop_nil, List.toList_toArray, C.eqbL, eqCs, eqC, List.drop_one, List.tail_cons, lim, lk24, lk22, lk23]
  · have hi' : i = l.length := by simp at h; omega
    have e : l.any (fun x => !d.any (fun y => decide (y = x)) && litB r (po r x) pl) = false := any_none (fun j x hj hx => hall j x (by omega) hx)
    simp (config := { maxSteps := 2000000 }) only [go_sem, reduceIte, Nat.reduceEqDiff, Nat.reduceAdd, Nat.reduceLT, Nat.reduceLeDiff, Nat.reduceBEq, Nat.reduceMul, Nat.reduceSub, Nat.reduceDiv, Int.reduceNeg, Int.reduceLT, Int.reduceLE, Int.reduceEq, Int.reduceToNat, fillC, zc, List.replicate_succ, List.replicate_zero, List.flatten_cons, List.flatten_nil, toDs, toD, chunk, placeS, srcRows, List.all_cons, List.all_nil, List.all_map, Function.comp_def, List.take_nil, List.drop_nil, List.toList_toArray, C.eqbL, eqCs, eqC, List.drop_one, List.tail_cons, lim, lk24, lk22, lk23, e]

def rem (l d : List Int) : List Int := l.filter fun x => !d.any (fun y => decide (y = x))
theorem rem_take {l d : List Int} {i : Nat} {x : Int} (hx : d[i]? = some x) (h0 : 0 ≤ x) : upd (ind (rem l (d.take i))) x.toNat 0 = ind (rem l (d.take (i + 1))) := by
  have hx2 : ((x.toNat : Nat) : Int) = x := by omega
  funext j
  rw [take_succ_eq hx]
  simp only [upd, ind, rem]
  by_cases e : j = x.toNat
  · subst e
    simp [hx2]
  · have hne : ¬ x = (j : Int) := by omega
    simp [e, hne]
theorem cnt_pos {r : Rd} {k : Int} : ∀ {l : List Int}, decide (0 < cnt r l k) = l.any (fun x => litB r (po r x) k)
  | [] => rfl
  | x :: l => by
    have ih := cnt_pos (r := r) (k := k) (l := l)
    have hb := cnt_bnd r k l
    simp only [List.any_cons, ← ih]
    simp only [cnt, List.map_cons, List.sum_cons] at hb ⊢
    cases litB r (po r x) k with
    | true => simp; omega
    | false =>
      simp only [Bool.false_eq_true, if_false, Int.zero_add, Bool.false_or]
      try exact decide_eq_decide.2 Iff.rfl
theorem rises_take : ∀ {d : List Int} {a n : Int} {i : Nat} {x : Int}, risesB d a n = true → d[i]? = some x → x ∉ d.take i
  | y :: d, a, n, 0, x, _, _ => by simp
  | y :: d, a, n, i + 1, x, h, hx => by
    simp only [risesB, Bool.and_eq_true] at h
    have hx' : d[i]? = some x := by simpa using hx
    have := (rises_rng h.2 x (List.mem_of_getElem? hx')).1
    simp only [List.take_succ_cons, List.mem_cons, not_or]
    exact ⟨by omega, rises_take h.2 hx'⟩
set_option maxHeartbeats 8000000 in
theorem checkDark22 (r : Rd) (l : List Int) (pl : Int) (d : List Int) : Pure Tryd.prog 22 [roadV r, ints l, I pl, ints d] (I (okDark r l pl d)) := by
  refine pure_wkE (bad := []) (kp := kp22) (X := tx) (nt := 71) (rs := [.tmp 8]) Tryd.func22 rfl rfl rfl rfl mo (by kernel_rfl) rfl rfl (fun hf => ?_)
  have hfl := fit_ints (hf (ints l) (by simp))
  have hfd := fit_ints (hf (ints d) (by simp))
  simp (config := { maxSteps := 2000000 }) only [go_sem, reduceIte, Nat.reduceEqDiff, Nat.reduceAdd, Nat.reduceLT, Nat.reduceLeDiff, Nat.reduceBEq, Nat.reduceMul, Nat.reduceSub, Nat.reduceDiv, Int.reduceNeg, Int.reduceLT, Int.reduceLE, Int.reduceEq, Int.reduceToNat, fillC, zc, List.replicate_succ, List.replicate_zero, List.flatten_cons, List.flatten_nil, toDs, toD, chunk, placeS, srcRows, List.all_cons, List.all_nil, List.all_map, Function.comp_def, List.take_nil, List.drop_nil, List.toList_toArray, C.eqbL, eqCs, eqC, List.drop_one, List.tail_cons, lim, lk24, lk22, lk23, roadV, roadC]
  by_cases h : okCh r l = 0
  case neg =>
    have e : okDark r l pl d = okCh r l := by simp [okDark, h]
    refine aops_pure' (open40_bad r l h) rfl rfl (by first | exact wk_refls _ | (repeat constructor)) ?_
    simp (config := { maxSteps := 2000000 }) only [go_sem, reduceIte, Nat.reduceEqDiff, Nat.reduceAdd, Nat.reduceLT, Nat.reduceLeDiff, Nat.reduceBEq, Nat.reduceMul, Nat.reduceSub, Nat.reduceDiv, Int.reduceNeg, Int.reduceLT, Int.reduceLE, Int.reduceEq, Int.reduceToNat, fillC, zc, List.replicate_succ, List.replicate_zero, List.flatten_cons, List.flatten_nil, toDs, toD, chunk, placeS, srcRows, List.all_cons, List.all_nil, List.all_map, Function.comp_def, List.take_nil, List.drop_nil, List.toList_toArray, C.eqbL, eqCs, eqC, List.drop_one, List.tail_cons, lim, lk24, lk22, lk23, h, e]
  obtain ⟨hr, hris⟩ := okCh_ok h
  obtain ⟨hnd, hrng⟩ := rises_ok hris
  have h1 := hr.p1
  have h40 := hr.p40
  have hlen := hr.len
  have e0 : okDark r l pl d = if pl < 0 ∨ r.pl ≤ pl ∨ r.de < d.length ∨ rises d r.ps.length = false then 3
      else if d.all (fun x => l.any (fun y => decide (y = x))) = false then 3
      else if l.any (fun x => !d.any (fun y => decide (y = x)) && litB r (po r x) pl) then 14 else 0 := by unfold okDark; rw [if_neg (by simpa using h)]
  rw [e0]
  refine aops_gen (open40b r l h (one (.tup [.c (.ptr 3 0), I 0]) ([AB.cells (roadC r)] ++ Hop r (ind l))) ⟨rfl, rfl⟩) rfl rfl (by first | exact wk_refls _ | (repeat constructor)) (fun y H' hyp => ?_)
  obtain ⟨rfl, rfl⟩ := hyp
  have wp : wr .i64 (r.pl - 1) = r.pl - 1 := wr_id (by omega) (by omega)
  simp (config := { maxSteps := 2000000 }) only [go_sem, reduceIte, Nat.reduceEqDiff, Nat.reduceAdd, Nat.reduceLT, Nat.reduceLeDiff, Nat.reduceBEq, Nat.reduceMul, Nat.reduceSub, Nat.reduceDiv, Int.reduceNeg, Int.reduceLT, Int.reduceLE, Int.reduceEq, Int.reduceToNat, fillC, zc, List.replicate_succ, List.replicate_zero, List.flatten_cons, List.flatten_nil, toDs, toD, chunk, placeS, srcRows, List.all_cons, List.all_nil, List.all_map, Function.comp_def, List.take_nil, List.drop_nil, List.toList_toArray, C.eqbL, eqCs, eqC, List.drop_one, List.tail_cons, lim, lk24, lk22, lk23, Hop, roadC, wp]
  have hw := within46 0 (r.pl - 1) [pl]
  simp only [ints, List.map_cons, List.map_nil, iD] at hw
  refine aops_pure' (hw) rfl rfl (by first | exact wk_refls _ | (repeat constructor)) ?_
  rw [inR1]
  by_cases a1 : 0 ≤ pl ∧ pl ≤ r.pl - 1
  case neg =>
    rw [if_pos (by omega)]
    simp (config := { maxSteps := 2000000 }) only [go_sem, reduceIte, Nat.reduceEqDiff, Nat.reduceAdd, Nat.reduceLT, Nat.reduceLeDiff, Nat.reduceBEq, Nat.reduceMul, Nat.reduceSub, Nat.reduceDiv, Int.reduceNeg, Int.reduceLT, Int.reduceLE, Int.reduceEq, Int.reduceToNat, fillC, zc, List.replicate_succ, List.replicate_zero, List.flatten_cons, List.flatten_nil, toDs, toD, chunk, placeS, srcRows, List.all_cons, List.all_nil, List.all_map, Function.comp_def, List.take_nil, List.drop_nil, List.toList_toArray, C.eqbL, eqCs, eqC, List.drop_one, List.tail_cons, lim, lk24, lk22, lk23, a1]
  by_cases a3 : r.de < d.length
  case pos =>
    rw [if_pos (by omega)]
    simp (config := { maxSteps := 2000000 }) only [go_sem, reduceIte, Nat.reduceEqDiff, Nat.reduceAdd, Nat.reduceLT, Nat.reduceLeDiff, Nat.reduceBEq, Nat.reduceMul, Nat.reduceSub, Nat.reduceDiv, Int.reduceNeg, Int.reduceLT, Int.reduceLE, Int.reduceEq, Int.reduceToNat, fillC, zc, List.replicate_succ, List.replicate_zero, List.flatten_cons, List.flatten_nil, toDs, toD, chunk, placeS, srcRows, List.all_cons, List.all_nil, List.all_map, Function.comp_def, List.take_nil, List.drop_nil, List.toList_toArray, C.eqbL, eqCs, eqC, List.drop_one, List.tail_cons, lim, lk24, lk22, lk23, a1, a3, ints]
  simp (config := { maxSteps := 2000000 }) only [go_sem, reduceIte, Nat.reduceEqDiff, Nat.reduceAdd, Nat.reduceLT, Nat.reduceLeDiff, Nat.reduceBEq, Nat.reduceMul, Nat.reduceSub, Nat.reduceDiv, Int.reduceNeg, Int.reduceLT, Int.reduceLE, Int.reduceEq, Int.reduceToNat, fillC, zc, List.replicate_succ, List.replicate_zero, List.flatten_cons, List.flatten_nil, toDs, toD, chunk, placeS, srcRows, List.all_cons, List.all_nil, List.all_map, Function.comp_def, List.take_nil, List.drop_nil, List.toList_toArray, C.eqbL, eqCs, eqC, List.drop_one, List.tail_cons, lim, lk24, lk22, lk23, a1, a3, ints]
  refine aops_pure' (rising48 d r.ps.length) rfl rfl (by first | exact wk_refls _ | (repeat constructor)) ?_
  cases a4 : rises d r.ps.length with
  | false =>
    rw [if_pos (by simp)]
    simp (config := { maxSteps := 2000000 }) only [go_sem, reduceIte, Nat.reduceEqDiff, Nat.reduceAdd, Nat.reduceLT, Nat.reduceLeDiff, Nat.reduceBEq, Nat.reduceMul, Nat.reduceSub, Nat.reduceDiv, Int.reduceNeg, Int.reduceLT, Int.reduceLE, Int.reduceEq, Int.reduceToNat, fillC, zc, List.replicate_succ, List.replicate_zero, List.flatten_cons, List.flatten_nil, toDs, toD, chunk, placeS, srcRows, List.all_cons, List.all_nil, List.all_map, Function.comp_def, List.take_nil, List.drop_nil, List.toList_toArray, C.eqbL, eqCs, eqC, List.drop_one, List.tail_cons, lim, lk24, lk22, lk23]
  | true =>
  rw [if_neg (by simp; omega)]
  obtain ⟨hdn, hdr⟩ := rises_ok a4
  have hrem0 : ind (rem l (d.take 0)) = ind l := ind_ext (fun x => by simp [rem])
  simp (config := { maxSteps := 2000000 }) only [go_sem, reduceIte, Nat.reduceEqDiff, Nat.reduceAdd, Nat.reduceLT, Nat.reduceLeDiff, Nat.reduceBEq, Nat.reduceMul, Nat.reduceSub, Nat.reduceDiv, Int.reduceNeg, Int.reduceLT, Int.reduceLE, Int.reduceEq, Int.reduceToNat, fillC, zc, List.replicate_succ, List.replicate_zero, List.flatten_cons, List.flatten_nil, toDs, toD, chunk, placeS, srcRows, List.all_cons, List.all_nil, List.all_map, Function.comp_def, List.take_nil, List.drop_nil, List.toList_toArray, C.eqbL, eqCs, eqC, List.drop_one, List.tail_cons, lim, lk24, lk22, lk23]
  refine AWP.post ?_
  refine goE_loop (bad := []) (kp := kp22) (fun i : Nat => { slots := [(2, I pl), (9, .c (.ptr 3 0)), (46, ints d), (47, I d.length), (48, I i)], heap := [AB.cells (roadC r)] ++ Hop r (ind (rem l (d.take i))), marks := [] }) (fun i => i ≤ d.length ∧ ∀ j x, j < i → d[j]? = some x → l.any (fun y => decide (y = x)) = true) (fun i => d.length - i) 0 mo (by kernel_rfl) ?_ ⟨Nat.zero_le _, by intro j x hj; omega⟩ ?_
  · refine ent_weaken [] (by simp only [hrem0, Hop, List.cons_append, List.nil_append, List.append_nil, roadC]) rfl (Nat.zero_le _) (by simp only [Hop, List.cons_append, List.nil_append, List.all_cons, List.all_nil, AB.low, netC_low, roadC_low, Bool.and_self]) rfl ?_
    simp (config := { maxSteps := 2000000 }) only [go_sem, reduceIte, Nat.reduceEqDiff, Nat.reduceAdd, Nat.reduceLT, Nat.reduceLeDiff, Nat.reduceBEq, Nat.reduceMul, Nat.reduceSub, Nat.reduceDiv, Int.reduceNeg, Int.reduceLT, Int.reduceLE, Int.reduceEq, Int.reduceToNat, fillC, zc, List.replicate_succ, List.replicate_zero, List.flatten_cons, List.flatten_nil, toDs, toD, chunk, placeS, srcRows, List.all_cons, List.all_nil, List.all_map, Function.comp_def, List.take_nil, List.drop_nil, List.toList_toArray, C.eqbL, eqCs, eqC, List.drop_one, List.tail_cons, lim, lk24, lk22, lk23, ints, Hop]
    exact .refl _
  rintro i ⟨hi, hall⟩
  simp (config := { maxSteps := 2000000 }) only [go_sem, reduceIte, Nat.reduceEqDiff, Nat.reduceAdd, Nat.reduceLT, Nat.reduceLeDiff, Nat.reduceBEq, Nat.reduceMul, Nat.reduceSub, Nat.reduceDiv, Int.reduceNeg, Int.reduceLT, Int.reduceLE, Int.reduceEq, Int.reduceToNat, fillC, zc, List.replicate_succ, List.replicate_zero, List.flatten_cons, List.flatten_nil, toDs, toD, chunk, placeS, srcRows, List.all_cons, List.all_nil, List.all_map, Function.comp_def, List.take_nil, List.drop_nil, List.toList_toArray, C.eqbL, eqCs, eqC, List.drop_one, List.tail_cons, lim, lk24, lk22, lk23, ints, Hop, roadC]
  refine goE_if (fun h => ?_) (fun h => ?_)
  · have hlt : i < d.length := by simpa using h
    obtain ⟨x, hx⟩ := get_of_lt hlt
    obtain ⟨x0, x1⟩ := hdr x (List.mem_of_getElem? hx)
    have hx2 : ((x.toNat : Nat) : Int) = x := by omega
    have hnt := rises_take a4 hx
    have cx : (decide ((0 : Int) ≤ (i : Int)) && decide ((i : Int) < (d.length : Int))) = true := by simp; omega
    have c2 : (decide ((0 : Int) ≤ x) && decide (x < ((24 : Nat) : Int))) = true := by rw [decide_eq_true x0, decide_eq_true (show x < ((24 : Nat) : Int) by omega)]; rfl
    have c3 : decide (4 + x.toNat + 1 ≤ 68) = true := decide_eq_true (by omega)
    have c4 : decide (4 + x.toNat ≤ 67) = true := decide_eq_true (by omega)
    have nl := netC_len' r (ind (rem l (d.take i))) zf
    have ng : (netC r (ind (rem l (d.take i))) zf)[4 + x.toNat]? = some (.d (.int .i64 (ind (rem l (d.take i)) x.toNat))) := by
      rw [Nat.add_comm 4]
      show ((numsD 24 _ ++ numsD 40 zf).map C.d)[x.toNat]? = _
      rw [List.getElem?_map, net_st (by omega)]; rfl
    have ns := netD_set r (ind (rem l (d.take i))) zf (i := x.toNat) (by omega) 0
    have hst := rem_take (l := l) hx x0
    cases hin : l.any (fun y => decide (y = x)) with
    | false =>
      have e : d.all (fun x => l.any (fun y => decide (y = x))) = false := by
        rw [List.all_eq_false]
        exact ⟨x, List.mem_of_getElem? hx, by simp only [hin]; simp⟩
      have hv : ind (rem l (d.take i)) x.toNat = 0 := by
        have : x ∉ l := fun hm => by
          have := List.any_eq_false.1 hin x hm
          simp at this
        simp [ind, rem, hx2, this]
      simp (config := { maxSteps := 2000000 }) only [go_sem, reduceIte, Nat.reduceEqDiff, Nat.reduceAdd, Nat.reduceLT, Nat.reduceLeDiff, Nat.reduceBEq, Nat.reduceMul, Nat.reduceSub, Nat.reduceDiv, Int.reduceNeg, Int.reduceLT, Int.reduceLE, Int.reduceEq, Int.reduceToNat, fillC, zc, List.replicate_succ, List.replicate_zero, List.flatten_cons, List.flatten_nil, toDs, toD, chunk, placeS, srcRows, List.all_cons, List.all_nil, List.all_map, Function.comp_def, List.take_nil, List.drop_nil, List.toList_toArray, C.eqbL, eqCs, eqC, List.drop_one, List.tail_cons, lim, lk24, lk22, lk23, hx, iD, cx, c2, c3, c4, nl, ng, hv, e, Nat.mul_one]
      refine ⟨_, Ent.refl, ?_⟩
      simp (config := { maxSteps := 2000000 }) only [go_sem, reduceIte, Nat.reduceEqDiff, Nat.reduceAdd, Nat.reduceLT, Nat.reduceLeDiff, Nat.reduceBEq, Nat.reduceMul, Nat.reduceSub, Nat.reduceDiv, Int.reduceNeg, Int.reduceLT, Int.reduceLE, Int.reduceEq, Int.reduceToNat, fillC, zc, List.replicate_succ, List.replicate_zero, List.flatten_cons, List.flatten_nil, toDs, toD, chunk, placeS, srcRows, List.all_cons, List.all_nil, List.all_map, Function.comp_def, List.take_nil, List.drop_nil, List.toList_toArray, C.eqbL, eqCs, eqC, List.drop_one, List.tail_cons, lim, lk24, lk22, lk23]
    | true =>
      have hv : ind (rem l (d.take i)) x.toNat = 1 := by
        obtain ⟨y, hy, he⟩ := List.any_eq_true.1 hin
        simp at he
        subst he
        simp only [ind, rem, hx2, List.mem_filter]
        rw [if_pos]
        refine ⟨hy, ?_⟩
        simp only [Bool.not_eq_true', List.any_eq_false, decide_eq_true_eq]
        intro z hz e
        exact hnt (e ▸ hz)
      simp (config := { maxSteps := 2000000 }) only [go_sem, reduceIte, Nat.reduceEqDiff, Nat.reduceAdd, Nat.reduceLT, Nat.reduceLeDiff, Nat.reduceBEq, Nat.reduceMul, Nat.reduceSub, Nat.reduceDiv, Int.reduceNeg, Int.reduceLT, Int.reduceLE, Int.reduceEq, Int.reduceToNat, fillC, zc, List.replicate_succ, List.replicate_zero, List.flatten_cons, List.flatten_nil, toDs, toD, chunk, placeS, srcRows, List.all_cons, List.all_nil, List.all_map, Function.comp_def, List.take_nil, List.drop_nil, List.toList_toArray, C.eqbL, eqCs, eqC, List.drop_one, List.tail_cons, lim, lk24, lk22, lk23, hx, iD, cx, c2, c3, c4, nl, ng, hv, ns, hst, Nat.mul_one, wr_succ hlt hfd]
      refine ⟨i + 1, ⟨hlt, upto_succ hall hx hin⟩, by omega, ?_⟩
      refine ent_weaken [] (by simp only [Hop, List.cons_append, List.nil_append, List.append_nil, roadC]) rfl (Nat.zero_le _) (by simp only [Hop, List.cons_append, List.nil_append, List.all_cons, List.all_nil, AB.low, netC_low, roadC_low, C.lowL, C.low, Bool.and_self]) rfl ?_
      simp (config := { maxSteps := 2000000 }) only [go_sem, reduceIte, Nat.reduceEqDiff, Nat.reduceAdd, Nat.reduceLT, Nat.reduceLeDiff, Nat.reduceBEq, Nat.reduceMul, Nat.reduceSub, Nat.reduceDiv, Int.reduceNeg, Int.reduceLT, Int.reduceLE, Int.reduceEq, Int.reduceToNat, fillC, zc, List.replicate_succ, List.replicate_zero, List.flatten_cons, List.flatten_nil, toDs, toD, chunk, placeS, srcRows, List.all_cons, List.all_nil, List.all_map, Function.comp_def, List.take_nil, List.drop_nil, List.toList_toArray, C.eqbL, eqCs, eqC, List.drop_one, List.tail_cons, lim, lk24, lk22, lk23, Hop]
  · have hi' : i = d.length := by simp at h; omega
    subst hi'
    rw [List.take_length]
    have e1 : d.all (fun x => l.any (fun y => decide (y = x))) = true := by
      rw [List.all_eq_true]
      intro x hx
      obtain ⟨j, hj⟩ := List.getElem?_of_mem hx
      exact hall j x (by have := (List.getElem?_eq_some_iff.1 hj).1; omega) hj
    have hremn : (rem l d).Nodup := hnd.sublist List.filter_sublist
    have hremr : ∀ x ∈ rem l d, 0 ≤ x ∧ x < r.ps.length := fun x hx => hrng x (List.mem_filter.1 hx).1
    have hlk : (litL r (ind (rem l d)))[pl.toNat]? = some (cnt r (rem l d) pl) := by
      have hpl : ((pl.toNat : Nat) : Int) = pl := by omega
      rw [← litP_cnt pl (rem l d) hremn hremr]
      simp only [litL, List.getElem?_map]
      rw [List.getElem?_range (by omega)]
      simp [hpl]
    have hll := litL_len r (ind (rem l d))
    have cx : (decide ((0 : Int) ≤ pl) && decide (pl < ((litL r (ind (rem l d))).length : Int))) = true := by rw [decide_eq_true a1.1, decide_eq_true (by omega)]; rfl
    have hany : decide (0 < cnt r (rem l d) pl) = l.any (fun x => !d.any (fun y => decide (y = x)) && litB r (po r x) pl) := by rw [cnt_pos, rem, List.any_filter]
    have hfr : AB.cells (netC r (ind (rem l d)) zf) = AB.cells (netC r (ind (rem l d)) zf) := rfl
    simp (config := { maxSteps := 2000000 }) only [go_sem, reduceIte, Nat.reduceEqDiff, Nat.reduceAdd, Nat.reduceLT, Nat.reduceLeDiff, Nat.reduceBEq, Nat.reduceMul, Nat.reduceSub, Nat.reduceDiv, Int.reduceNeg, Int.reduceLT, Int.reduceLE, Int.reduceEq, Int.reduceToNat, fillC, zc, List.replicate_succ, List.replicate_zero, List.flatten_cons, List.flatten_nil, toDs, toD, chunk, placeS, srcRows, List.all_cons, List.all_nil, List.all_map, Function.comp_def, List.take_nil, List.drop_nil, List.toList_toArray, C.eqbL, eqCs, eqC, List.drop_one, List.tail_cons, lim, lk24, lk22, lk23]
    refine ⟨{ slots := [(2, I pl), (9, .c (.dp (netD r (ind (rem l d)) zf)))], heap := [AB.cells (roadC r), AB.cells (roadC r), AB.cells (roadC r), AB.gone], marks := [] }, ent_freeze 3 (cs := netC r (ind (rem l d)) zf) (ds := netD r (ind (rem l d)) zf) rfl (toDs_net _ _ _) rfl rfl ⟨.same _, .c (.ptr 0 (Nat.zero_le _)), trivial⟩, ?_⟩
    simp (config := { maxSteps := 2000000 }) only [go_sem, reduceIte, Nat.reduceEqDiff, Nat.reduceAdd, Nat.reduceLT, Nat.reduceLeDiff, Nat.reduceBEq, Nat.reduceMul, Nat.reduceSub, Nat.reduceDiv, Int.reduceNeg, Int.reduceLT, Int.reduceLE, Int.reduceEq, Int.reduceToNat, fillC, zc, List.replicate_succ, List.replicate_zero, List.flatten_cons, List.flatten_nil, toDs, toD, chunk, placeS, srcRows, List.all_cons, List.all_nil, List.all_map, Function.comp_def, List.take_nil, List.drop_nil, List.toList_toArray, C.eqbL, eqCs, eqC, List.drop_one, List.tail_cons, lim, lk24, lk22, lk23]
    refine aops_pure' (lit41 r (ind (rem l d)) zf hr (ind_bnd _)) rfl rfl (by first | exact wk_refls _ | (repeat constructor)) ?_
    simp (config := { maxSteps := 2000000 }) only [go_sem, reduceIte, Nat.reduceEqDiff, Nat.reduceAdd, Nat.reduceLT, Nat.reduceLeDiff, Nat.reduceBEq, Nat.reduceMul, Nat.reduceSub, Nat.reduceDiv, Int.reduceNeg, Int.reduceLT, Int.reduceLE, Int.reduceEq, Int.reduceToNat, fillC, zc, List.replicate_succ, List.replicate_zero, List.flatten_cons, List.flatten_nil, toDs, toD, chunk, placeS, srcRows, List.all_cons, List.all_nil, List.all_map, Function.comp_def, List.take_nil, List.drop_nil, List.toList_toArray, C.eqbL, eqCs, eqC, List.drop_one, List.tail_cons, lim, lk24, lk22, lk23, ints, hlk, iD, cx, hany, e1]
    refine goE_if (fun h => ?_) (fun h => ?_)
    · simp (config := { maxSteps := 2000000 }) only [go_sem, reduceIte, Nat.reduceEqDiff, Nat.reduceAdd, Nat.reduceLT, Nat.reduceLeDiff, Nat.reduceBEq, Nat.reduceMul, Nat.reduceSub, Nat.reduceDiv, Int.reduceNeg, Int.reduceLT, Int.reduceLE, Int.reduceEq, Int.reduceToNat, fillC, zc, List.replicate_succ, List.replicate_zero, List.flatten_cons, List.flatten_nil, toDs, toD, chunk, placeS, srcRows, List.all_cons, List.all_nil, List.all_map, Function.comp_def, List.take_nil, List.drop_nil, List.toList_toArray, C.eqbL, eqCs, eqC, List.drop_one, List.tail_cons, lim, lk24, lk22, lk23, h]
    · simp (config := { maxSteps := 2000000 }) only [go_sem, reduceIte, Nat.reduceEqDiff, Nat.reduceAdd, Nat.reduceLT, Nat.reduceLeDiff, Nat.reduceBEq, Nat.reduceMul, Nat.reduceSub, Nat.reduceDiv, Int.reduceNeg, Int.reduceLT, Int.reduceLE, Int.reduceEq, Int.reduceToNat, fillC, zc, List.replicate_succ, List.replicate_zero, List.flatten_cons, List.flatten_nil, toDs, toD, chunk, placeS, srcRows, List.all_cons, List.all_nil, List.all_map, Function.comp_def, List.take_nil, List.drop_nil, List.toList_toArray, C.eqbL, eqCs, eqC, List.drop_one, List.tail_cons, lim, lk24, lk22, lk23, h]
end Go.Proofs.YteamgbndnfjoaaaDoor
