/- The law StreetEither. -/
import Derived.Test.YteamgbndnfjoaaaDoorS20
set_option linter.unusedSimpArgs false
set_option linter.unusedVariables false
set_option maxRecDepth 100000
namespace Go.Proofs.YteamgbndnfjoaaaDoor
open Go Go.Abs Go.Proofs
def kp8 : List (Nat × List Nat) := [(0, [1, 3, 4, 6]), (1, [1, 3, 4, 6, 19]), (2, [8]), (3, [3, 4, 6, 9]), (4, [3, 4, 6, 9, 10, 11, 12]), (5, [3, 4, 6, 9, 10, 11, 12, 14]), (6, [3, 4, 6, 9, 10, 11, 12, 14, 38]), (7, [8]), (8, [3, 4, 6, 9, 77]), (9, [8]), (10, [3, 4, 6, 9, 15]), (11, [3, 4, 6, 9, 15, 16]), (12, [3, 4, 6, 9, 15, 16, 81]), (13, [3, 4, 6, 9, 15, 16]), (14, [3, 4, 6, 9, 15, 16, 108]), (15, [3, 4, 6, 9, 15, 16]), (16, [8])]
theorem lk8 : lookK kp8 0 = some [1, 3, 4, 6] ∧ lookK kp8 1 = some [1, 3, 4, 6, 19] ∧ lookK kp8 2 = some [8] ∧ lookK kp8 3 = some [3, 4, 6, 9] ∧ lookK kp8 4 = some [3, 4, 6, 9, 10, 11, 12] ∧ lookK kp8 5 = some [3, 4, 6, 9, 10, 11, 12, 14] ∧ lookK kp8 6 = some [3, 4, 6, 9, 10, 11, 12, 14, 38] ∧ lookK kp8 7 = some [8] ∧ lookK kp8 8 = some [3, 4, 6, 9, 77] ∧ lookK kp8 9 = some [8] ∧ lookK kp8 10 = some [3, 4, 6, 9, 15] ∧ lookK kp8 11 = some [3, 4, 6, 9, 15, 16] ∧ lookK kp8 12 = some [3, 4, 6, 9, 15, 16, 81] ∧ lookK kp8 13 = some [3, 4, 6, 9, 15, 16] ∧ lookK kp8 14 = some [3, 4, 6, 9, 15, 16, 108] ∧ lookK kp8 15 = some [3, 4, 6, 9, 15, 16] ∧ lookK kp8 16 = some [8] := ⟨rfl, rfl, rfl, rfl, rfl, rfl, rfl, rfl, rfl, rfl, rfl, rfl, rfl, rfl, rfl, rfl, rfl⟩

set_option maxHeartbeats 8000000 in
theorem eitherLaw (r : Rd) (b a0 a1 p : Int) (ha0 : 0 ≤ a0 ∧ a0 ≤ 255) (ha1 : 0 ≤ a1 ∧ a1 ≤ 255) (hp : 0 ≤ p ∧ p ≤ 255) :
    ACall Tryd.prog 8 [roadV r, .c (.d (.int .u32 b)), .agg [.d (.int .u8 a0), .d (.int .u8 a1)], .c (.d (.int .u8 p))] GH (one (B true) GH) := by
  refine acall_atE (bad := [16]) (kp := kp8) (X := tx) (nt := 129) (rs := [.tmp 8]) Tryd.func8 rfl rfl rfl rfl mo (by kernel_rfl) rfl rfl (fun hf => ?_)
  have wa : ∀ T, ACall Tryd.prog 14 [] (.gl 0 noneD :: .cells (roadC r) :: T) (one (B true) (.gl 0 noneD :: .cells (roadC r) :: T)) := fun T => works_at _
  simp only [roadC] at wa
  simp (config := { maxSteps := 2000000 }) only [go_sem, reduceIte, Nat.reduceEqDiff, Nat.reduceAdd, Nat.reduceLT, Nat.reduceLeDiff, Nat.reduceBEq, Nat.reduceMul, Nat.reduceSub, Nat.reduceDiv, Int.reduceNeg, Int.reduceLT, Int.reduceLE, Int.reduceEq, Int.reduceToNat, fillC, zc, List.replicate_succ, List.replicate_zero, List.flatten_cons, List.flatten_nil, toDs, toD, chunk, placeS, srcRows, List.all_cons, List.all_nil, List.all_map, Function.comp_def, List.take_nil, List.drop_nil, List.toList_toArray, C.eqbL, eqCs, eqC, List.drop_one, List.tail_cons, lim, lk8, GH, roadV, roadC]
  refine aops_pure' (fine32 r) rfl rfl (by first | exact wk_refls _ | (repeat constructor)) ?_
  cases hfi : fineB r with
  | false =>
    simp (config := { maxSteps := 2000000 }) only [go_sem, reduceIte, Nat.reduceEqDiff, Nat.reduceAdd, Nat.reduceLT, Nat.reduceLeDiff, Nat.reduceBEq, Nat.reduceMul, Nat.reduceSub, Nat.reduceDiv, Int.reduceNeg, Int.reduceLT, Int.reduceLE, Int.reduceEq, Int.reduceToNat, fillC, zc, List.replicate_succ, List.replicate_zero, List.flatten_cons, List.flatten_nil, toDs, toD, chunk, placeS, srcRows, List.all_cons, List.all_nil, List.all_map, Function.comp_def, List.take_nil, List.drop_nil, List.toList_toArray, C.eqbL, eqCs, eqC, List.drop_one, List.tail_cons, lim, lk8]
    refine aops_at (wa _) rfl rfl (by first | exact wk_refls _ | (repeat constructor)) ?_
    simp (config := { maxSteps := 2000000 }) only [go_sem, reduceIte, Nat.reduceEqDiff, Nat.reduceAdd, Nat.reduceLT, Nat.reduceLeDiff, Nat.reduceBEq, Nat.reduceMul, Nat.reduceSub, Nat.reduceDiv, Int.reduceNeg, Int.reduceLT, Int.reduceLE, Int.reduceEq, Int.reduceToNat, fillC, zc, List.replicate_succ, List.replicate_zero, List.flatten_cons, List.flatten_nil, toDs, toD, chunk, placeS, srcRows, List.all_cons, List.all_nil, List.all_map, Function.comp_def, List.take_nil, List.drop_nil, List.toList_toArray, C.eqbL, eqCs, eqC, List.drop_one, List.tail_cons, lim, lk8]
    exact ⟨_, rfl⟩
  | true =>
  have hok := fine_ok hfi
  have hr := okRoad_ok hok
  have hlen := hr.len
  have hch := okCh_chN hok b
  have hcl := chN_len b r.ps.length
  have d0 := hr.d0
  have d2 := hr.d2
  have p1 := hr.p1
  have p40 := hr.p40
  simp (config := { maxSteps := 2000000 }) only [go_sem, reduceIte, Nat.reduceEqDiff, Nat.reduceAdd, Nat.reduceLT, Nat.reduceLeDiff, Nat.reduceBEq, Nat.reduceMul, Nat.reduceSub, Nat.reduceDiv, Int.reduceNeg, Int.reduceLT, Int.reduceLE, Int.reduceEq, Int.reduceToNat, fillC, zc, List.replicate_succ, List.replicate_zero, List.flatten_cons, List.flatten_nil, toDs, toD, chunk, placeS, srcRows, List.all_cons, List.all_nil, List.all_map, Function.comp_def, List.take_nil, List.drop_nil, List.toList_toArray, C.eqbL, eqCs, eqC, List.drop_one, List.tail_cons, lim, lk8]
  refine aops_pure' (choice35 r b hlen) rfl rfl (by first | exact wk_refls _ | (repeat constructor)) ?_
  simp (config := { maxSteps := 2000000 }) only [go_sem, reduceIte, Nat.reduceEqDiff, Nat.reduceAdd, Nat.reduceLT, Nat.reduceLeDiff, Nat.reduceBEq, Nat.reduceMul, Nat.reduceSub, Nat.reduceDiv, Int.reduceNeg, Int.reduceLT, Int.reduceLE, Int.reduceEq, Int.reduceToNat, fillC, zc, List.replicate_succ, List.replicate_zero, List.flatten_cons, List.flatten_nil, toDs, toD, chunk, placeS, srcRows, List.all_cons, List.all_nil, List.all_map, Function.comp_def, List.take_nil, List.drop_nil, List.toList_toArray, C.eqbL, eqCs, eqC, List.drop_one, List.tail_cons, lim, lk8]
  refine aops_pure' (dark24 r (chN b r.ps.length)) rfl rfl (by first | exact wk_refls _ | (repeat constructor)) ?_
  simp (config := { maxSteps := 2000000 }) only [go_sem, reduceIte, Nat.reduceEqDiff, Nat.reduceAdd, Nat.reduceLT, Nat.reduceLeDiff, Nat.reduceBEq, Nat.reduceMul, Nat.reduceSub, Nat.reduceDiv, Int.reduceNeg, Int.reduceLT, Int.reduceLE, Int.reduceEq, Int.reduceToNat, fillC, zc, List.replicate_succ, List.replicate_zero, List.flatten_cons, List.flatten_nil, toDs, toD, chunk, placeS, srcRows, List.all_cons, List.all_nil, List.all_map, Function.comp_def, List.take_nil, List.drop_nil, List.toList_toArray, C.eqbL, eqCs, eqC, List.drop_one, List.tail_cons, lim, lk8]
  refine aops_pure' (check17 r (chN b r.ps.length)) rfl rfl (by first | exact wk_refls _ | (repeat constructor)) ?_
  cases hh : holdsB r (chN b r.ps.length) with
  | false =>
    obtain ⟨e1, e2⟩ := dark_found hch hh
    have eh : okHold r (chN b r.ps.length) = 18 := by simp [okHold, hch, hh]
    have h22 := checkDark22 r (chN b r.ps.length) (darkA r (chN b r.ps.length)).1 (darkA r (chN b r.ps.length)).2.1
    have h23 := checkDark23 r (chN b r.ps.length) (darkA r (chN b r.ps.length)).1 (darkA r (chN b r.ps.length)).2.1
    have h26 := holds26 r (chN b r.ps.length) hch
    rw [e2] at h22 h23
    rw [hh] at h26
    simp (config := { maxSteps := 2000000 }) only [go_sem, reduceIte, Nat.reduceEqDiff, Nat.reduceAdd, Nat.reduceLT, Nat.reduceLeDiff, Nat.reduceBEq, Nat.reduceMul, Nat.reduceSub, Nat.reduceDiv, Int.reduceNeg, Int.reduceLT, Int.reduceLE, Int.reduceEq, Int.reduceToNat, fillC, zc, List.replicate_succ, List.replicate_zero, List.flatten_cons, List.flatten_nil, toDs, toD, chunk, placeS, srcRows, List.all_cons, List.all_nil, List.all_map, Function.comp_def, List.take_nil, List.drop_nil, List.toList_toArray, C.eqbL, eqCs, eqC, List.drop_one, List.tail_cons, lim, lk8, e1, eh]
    refine aops_pure' (h22) rfl rfl (by first | exact wk_refls _ | (repeat constructor)) ?_
    simp (config := { maxSteps := 2000000 }) only [go_sem, reduceIte, Nat.reduceEqDiff, Nat.reduceAdd, Nat.reduceLT, Nat.reduceLeDiff, Nat.reduceBEq, Nat.reduceMul, Nat.reduceSub, Nat.reduceDiv, Int.reduceNeg, Int.reduceLT, Int.reduceLE, Int.reduceEq, Int.reduceToNat, fillC, zc, List.replicate_succ, List.replicate_zero, List.flatten_cons, List.flatten_nil, toDs, toD, chunk, placeS, srcRows, List.all_cons, List.all_nil, List.all_map, Function.comp_def, List.take_nil, List.drop_nil, List.toList_toArray, C.eqbL, eqCs, eqC, List.drop_one, List.tail_cons, lim, lk8]
    refine aops_pure' (h23) rfl rfl (by first | exact wk_refls _ | (repeat constructor)) ?_
    simp (config := { maxSteps := 2000000 }) only [go_sem, reduceIte, Nat.reduceEqDiff, Nat.reduceAdd, Nat.reduceLT, Nat.reduceLeDiff, Nat.reduceBEq, Nat.reduceMul, Nat.reduceSub, Nat.reduceDiv, Int.reduceNeg, Int.reduceLT, Int.reduceLE, Int.reduceEq, Int.reduceToNat, fillC, zc, List.replicate_succ, List.replicate_zero, List.flatten_cons, List.flatten_nil, toDs, toD, chunk, placeS, srcRows, List.all_cons, List.all_nil, List.all_map, Function.comp_def, List.take_nil, List.drop_nil, List.toList_toArray, C.eqbL, eqCs, eqC, List.drop_one, List.tail_cons, lim, lk8]
    refine aops_pure' (h26) rfl rfl (by first | exact wk_refls _ | (repeat constructor)) ?_
    simp (config := { maxSteps := 2000000 }) only [go_sem, reduceIte, Nat.reduceEqDiff, Nat.reduceAdd, Nat.reduceLT, Nat.reduceLeDiff, Nat.reduceBEq, Nat.reduceMul, Nat.reduceSub, Nat.reduceDiv, Int.reduceNeg, Int.reduceLT, Int.reduceLE, Int.reduceEq, Int.reduceToNat, fillC, zc, List.replicate_succ, List.replicate_zero, List.flatten_cons, List.flatten_nil, toDs, toD, chunk, placeS, srcRows, List.all_cons, List.all_nil, List.all_map, Function.comp_def, List.take_nil, List.drop_nil, List.toList_toArray, C.eqbL, eqCs, eqC, List.drop_one, List.tail_cons, lim, lk8]
    refine aops_at (wa _) rfl rfl (by first | exact wk_refls _ | (repeat constructor)) ?_
    simp (config := { maxSteps := 2000000 }) only [go_sem, reduceIte, Nat.reduceEqDiff, Nat.reduceAdd, Nat.reduceLT, Nat.reduceLeDiff, Nat.reduceBEq, Nat.reduceMul, Nat.reduceSub, Nat.reduceDiv, Int.reduceNeg, Int.reduceLT, Int.reduceLE, Int.reduceEq, Int.reduceToNat, fillC, zc, List.replicate_succ, List.replicate_zero, List.flatten_cons, List.flatten_nil, toDs, toD, chunk, placeS, srcRows, List.all_cons, List.all_nil, List.all_map, Function.comp_def, List.take_nil, List.drop_nil, List.toList_toArray, C.eqbL, eqCs, eqC, List.drop_one, List.tail_cons, lim, lk8]
    exact ⟨_, rfl⟩
  | true =>
  have h26 := holds26 r (chN b r.ps.length) hch
  rw [hh] at h26
  have eh : okHold r (chN b r.ps.length) = 0 := by simp [okHold, hch, hh]
  rw [dark_hold hch hh, eh]
  simp (config := { maxSteps := 2000000 }) only [go_sem, reduceIte, Nat.reduceEqDiff, Nat.reduceAdd, Nat.reduceLT, Nat.reduceLeDiff, Nat.reduceBEq, Nat.reduceMul, Nat.reduceSub, Nat.reduceDiv, Int.reduceNeg, Int.reduceLT, Int.reduceLE, Int.reduceEq, Int.reduceToNat, fillC, zc, List.replicate_succ, List.replicate_zero, List.flatten_cons, List.flatten_nil, toDs, toD, chunk, placeS, srcRows, List.all_cons, List.all_nil, List.all_map, Function.comp_def, List.take_nil, List.drop_nil, List.toList_toArray, C.eqbL, eqCs, eqC, List.drop_one, List.tail_cons, lim, lk8]
  refine aops_pure' (h26) rfl rfl (by first | exact wk_refls _ | (repeat constructor)) ?_
  simp (config := { maxSteps := 2000000 }) only [go_sem, reduceIte, Nat.reduceEqDiff, Nat.reduceAdd, Nat.reduceLT, Nat.reduceLeDiff, Nat.reduceBEq, Nat.reduceMul, Nat.reduceSub, Nat.reduceDiv, Int.reduceNeg, Int.reduceLT, Int.reduceLE, Int.reduceEq, Int.reduceToNat, fillC, zc, List.replicate_succ, List.replicate_zero, List.flatten_cons, List.flatten_nil, toDs, toD, chunk, placeS, srcRows, List.all_cons, List.all_nil, List.all_map, Function.comp_def, List.take_nil, List.drop_nil, List.toList_toArray, C.eqbL, eqCs, eqC, List.drop_one, List.tail_cons, lim, lk8, ints]
  have wi : ∀ i : Nat, i < (chN b r.ps.length).length → wr .i64 ((i : Int) + 1) = ((i + 1 : Nat) : Int) := fun i hi => wr_succ hi (by omega)
  have wa0 : wr .i64 a0 = a0 := wr_id (by omega) (by omega)
  have wa1 : wr .i64 a1 = a1 := wr_id (by omega) (by omega)
  have wp : wr .i64 p = p := wr_id (by omega) (by omega)
  generalize hgen : chN b r.ps.length = ch at *
  have hlow : ∀ n, [AB.gl 0 noneD, .cells (roadC r), .cells [.d (.int .u8 a0), .d (.int .u8 a1)], .grow n 1].all (AB.low 4) = true := fun n => by
    simp only [List.all_cons, List.all_nil, AB.low, roadC_low, Bool.and_self]; rfl
  refine goE_loop (bad := [16]) (kp := kp8) (fun a : Nat × List Int => { slots := [(3, .c (.d (.int .u8 p))), (4, .c (.ptr 1 0)), (6, .c (.ptr 2 0)), (9, ints ch), (15, .c (.own 3 (a.2.map iD))), (16, I (a.1 : Int))], heap := [.gl 0 noneD, .cells (roadC r), .cells [.d (.int .u8 a0), .d (.int .u8 a1)], .grow a.2.length 1], marks := [] })
    (fun a => a.1 ≤ ch.length ∧ a.2.Sublist (ch.take a.1) ∧ (a.2.length : Int) ≤ r.de) (fun a => ch.length - a.1) (0, []) mo (by kernel_rfl) ?_ ⟨Nat.zero_le _, by simp, by simp; omega⟩ ?_
  · refine Ent.trans (ent_own 15 1 rfl) ?_
    refine ent_weaken [] (by simp only [List.append_nil, roadC]; rfl) rfl (show 1 ≤ 4 by decide) (hlow _) rfl ?_
    simp (config := { maxSteps := 2000000 }) only [go_sem, reduceIte, Nat.reduceEqDiff, Nat.reduceAdd, Nat.reduceLT, Nat.reduceLeDiff, Nat.reduceBEq, Nat.reduceMul, Nat.reduceSub, Nat.reduceDiv, Int.reduceNeg, Int.reduceLT, Int.reduceLE, Int.reduceEq, Int.reduceToNat, fillC, zc, List.replicate_succ, List.replicate_zero, List.flatten_cons, List.flatten_nil, toDs, toD, chunk, placeS, srcRows, List.all_cons, List.all_nil, List.all_map, Function.comp_def, List.take_nil, List.drop_nil, List.toList_toArray, C.eqbL, eqCs, eqC, List.drop_one, List.tail_cons, lim, lk8, roadC, ints, List.map_nil]
    exact .refl _
  have z2 : ((2 : Nat) : Int) = 2 := rfl
  rintro ⟨i, out⟩ ⟨hi, hsub, hol⟩
  simp only at hi hsub hol
  simp (config := { maxSteps := 2000000 }) only [go_sem, reduceIte, Nat.reduceEqDiff, Nat.reduceAdd, Nat.reduceLT, Nat.reduceLeDiff, Nat.reduceBEq, Nat.reduceMul, Nat.reduceSub, Nat.reduceDiv, Int.reduceNeg, Int.reduceLT, Int.reduceLE, Int.reduceEq, Int.reduceToNat, fillC, zc, List.replicate_succ, List.replicate_zero, List.flatten_cons, List.flatten_nil, toDs, toD, chunk, placeS, srcRows, List.all_cons, List.all_nil, List.all_map, Function.comp_def, List.take_nil, List.drop_nil, List.toList_toArray, C.eqbL, eqCs, eqC, List.drop_one, List.tail_cons, lim, lk8, ints, roadC]
  refine goE_if (fun h => ?_) (fun h => ?_)
  · have hlt : i < ch.length := by simpa using h
    obtain ⟨x, hx⟩ := get_of_lt hlt
    have cn : (!decide ((ch.length : Int) = 0)) = true := by simp; intro e; simp [e] at hlt
    have cx : (decide ((0 : Int) ≤ (i : Int)) && decide ((i : Int) < (ch.length : Int))) = true := by simp; omega
    have hskip : out.Sublist (ch.take (i + 1)) := by rw [take_succ_eq hx]; exact hsub.trans (List.sublist_append_left _ _)
    have hadd : (out ++ [x]).Sublist (ch.take (i + 1)) := by rw [take_succ_eq hx]; exact hsub.append (List.Sublist.refl _)
    by_cases h1 : (out.length : Int) < r.de
    · by_cases h2 : (i : Int) = a0.tmod ch.length
      · simp (config := { maxSteps := 2000000 }) only [go_sem, reduceIte, Nat.reduceEqDiff, Nat.reduceAdd, Nat.reduceLT, Nat.reduceLeDiff, Nat.reduceBEq, Nat.reduceMul, Nat.reduceSub, Nat.reduceDiv, Int.reduceNeg, Int.reduceLT, Int.reduceLE, Int.reduceEq, Int.reduceToNat, fillC, zc, List.replicate_succ, List.replicate_zero, List.flatten_cons, List.flatten_nil, toDs, toD, chunk, placeS, srcRows, List.all_cons, List.all_nil, List.all_map, Function.comp_def, List.take_nil, List.drop_nil, List.toList_toArray, C.eqbL, eqCs, eqC, List.drop_one, List.tail_cons, lim, lk8, h1, wa0, cn, ← h2, hx, iD, cx, bound, z2]
        refine ⟨by simp [iD]; omega, ?_⟩
        simp (config := { maxSteps := 2000000 }) only [go_sem, reduceIte, Nat.reduceEqDiff, Nat.reduceAdd, Nat.reduceLT, Nat.reduceLeDiff, Nat.reduceBEq, Nat.reduceMul, Nat.reduceSub, Nat.reduceDiv, Int.reduceNeg, Int.reduceLT, Int.reduceLE, Int.reduceEq, Int.reduceToNat, fillC, zc, List.replicate_succ, List.replicate_zero, List.flatten_cons, List.flatten_nil, toDs, toD, chunk, placeS, srcRows, List.all_cons, List.all_nil, List.all_map, Function.comp_def, List.take_nil, List.drop_nil, List.toList_toArray, C.eqbL, eqCs, eqC, List.drop_one, List.tail_cons, lim, lk8, wi i hlt]
        refine ⟨(i + 1, out ++ [x]), ⟨hlt, hadd, by simp; omega⟩, by simp only []; omega, ?_⟩
        refine ent_weaken [] (by simp only [List.append_nil, List.length_append, roadC]; rfl) rfl (show 1 ≤ 4 by decide) (hlow _) rfl ?_
        simp (config := { maxSteps := 2000000 }) only [go_sem, reduceIte, Nat.reduceEqDiff, Nat.reduceAdd, Nat.reduceLT, Nat.reduceLeDiff, Nat.reduceBEq, Nat.reduceMul, Nat.reduceSub, Nat.reduceDiv, Int.reduceNeg, Int.reduceLT, Int.reduceLE, Int.reduceEq, Int.reduceToNat, fillC, zc, List.replicate_succ, List.replicate_zero, List.flatten_cons, List.flatten_nil, toDs, toD, chunk, placeS, srcRows, List.all_cons, List.all_nil, List.all_map, Function.comp_def, List.take_nil, List.drop_nil, List.toList_toArray, C.eqbL, eqCs, eqC, List.drop_one, List.tail_cons, lim, lk8, List.map_append, iD]
        try exact .refl _
      · by_cases h3 : (i : Int) = a1.tmod ch.length
        · simp (config := { maxSteps := 2000000 }) only [go_sem, reduceIte, Nat.reduceEqDiff, Nat.reduceAdd, Nat.reduceLT, Nat.reduceLeDiff, Nat.reduceBEq, Nat.reduceMul, Nat.reduceSub, Nat.reduceDiv, Int.reduceNeg, Int.reduceLT, Int.reduceLE, Int.reduceEq, Int.reduceToNat, fillC, zc, List.replicate_succ, List.replicate_zero, List.flatten_cons, List.flatten_nil, toDs, toD, chunk, placeS, srcRows, List.all_cons, List.all_nil, List.all_map, Function.comp_def, List.take_nil, List.drop_nil, List.toList_toArray, C.eqbL, eqCs, eqC, List.drop_one, List.tail_cons, lim, lk8, h1, wa0, wa1, cn, h2, ← h3, hx, iD, cx, bound, z2]
          refine ⟨by simp [iD]; omega, ?_⟩
          simp (config := { maxSteps := 2000000 }) only [go_sem, reduceIte, Nat.reduceEqDiff, Nat.reduceAdd, Nat.reduceLT, Nat.reduceLeDiff, Nat.reduceBEq, Nat.reduceMul, Nat.reduceSub, Nat.reduceDiv, Int.reduceNeg, Int.reduceLT, Int.reduceLE, Int.reduceEq, Int.reduceToNat, fillC, zc, List.replicate_succ, List.replicate_zero, List.flatten_cons, List.flatten_nil, toDs, toD, chunk, placeS, srcRows, List.all_cons, List.all_nil, List.all_map, Function.comp_def, List.take_nil, List.drop_nil, List.toList_toArray, C.eqbL, eqCs, eqC, List.drop_one, List.tail_cons, lim, lk8, wi i hlt]
          refine ⟨(i + 1, out ++ [x]), ⟨hlt, hadd, by simp; omega⟩, by simp only []; omega, ?_⟩
          refine ent_weaken [] (by simp only [List.append_nil, List.length_append, roadC]; rfl) rfl (show 1 ≤ 4 by decide) (hlow _) rfl ?_
          simp (config := { maxSteps := 2000000 }) only [go_sem, reduceIte, Nat.reduceEqDiff, Nat.reduceAdd, Nat.reduceLT, Nat.reduceLeDiff, Nat.reduceBEq, Nat.reduceMul, Nat.reduceSub, Nat.reduceDiv, Int.reduceNeg, Int.reduceLT, Int.reduceLE, Int.reduceEq, Int.reduceToNat, fillC, zc, List.replicate_succ, List.replicate_zero, List.flatten_cons, List.flatten_nil, toDs, toD, chunk, placeS, srcRows, List.all_cons, List.all_nil, List.all_map, Function.comp_def, List.take_nil, List.drop_nil, List.toList_toArray, C.eqbL, eqCs, eqC, List.drop_one, List.tail_cons, lim, lk8, List.map_append, iD]
          try exact .refl _
        · simp (config := { maxSteps := 2000000 }) only [go_sem, reduceIte, Nat.reduceEqDiff, Nat.reduceAdd, Nat.reduceLT, Nat.reduceLeDiff, Nat.reduceBEq, Nat.reduceMul, Nat.reduceSub, Nat.reduceDiv, Int.reduceNeg, Int.reduceLT, Int.reduceLE, Int.reduceEq, Int.reduceToNat, fillC, zc, List.replicate_succ, List.replicate_zero, List.flatten_cons, List.flatten_nil, toDs, toD, chunk, placeS, srcRows, List.all_cons, List.all_nil, List.all_map, Function.comp_def, List.take_nil, List.drop_nil, List.toList_toArray, C.eqbL, eqCs, eqC, List.drop_one, List.tail_cons, lim, lk8, h1, wa0, wa1, cn, h2, h3, wi i hlt, z2]
          refine ⟨(i + 1, out), ⟨hlt, hskip, hol⟩, by simp only []; omega, ?_⟩
          refine ent_weaken [] (by simp only [List.append_nil, roadC]) rfl (show 1 ≤ 4 by decide) (hlow _) rfl ?_
          simp (config := { maxSteps := 2000000 }) only [go_sem, reduceIte, Nat.reduceEqDiff, Nat.reduceAdd, Nat.reduceLT, Nat.reduceLeDiff, Nat.reduceBEq, Nat.reduceMul, Nat.reduceSub, Nat.reduceDiv, Int.reduceNeg, Int.reduceLT, Int.reduceLE, Int.reduceEq, Int.reduceToNat, fillC, zc, List.replicate_succ, List.replicate_zero, List.flatten_cons, List.flatten_nil, toDs, toD, chunk, placeS, srcRows, List.all_cons, List.all_nil, List.all_map, Function.comp_def, List.take_nil, List.drop_nil, List.toList_toArray, C.eqbL, eqCs, eqC, List.drop_one, List.tail_cons, lim, lk8]
    · simp (config := { maxSteps := 2000000 }) only [go_sem, reduceIte, Nat.reduceEqDiff, Nat.reduceAdd, Nat.reduceLT, Nat.reduceLeDiff, Nat.reduceBEq, Nat.reduceMul, Nat.reduceSub, Nat.reduceDiv, Int.reduceNeg, Int.reduceLT, Int.reduceLE, Int.reduceEq, Int.reduceToNat, fillC, zc, List.replicate_succ, List.replicate_zero, List.flatten_cons, List.flatten_nil, toDs, toD, chunk, placeS, srcRows, List.all_cons, List.all_nil, List.all_map, Function.comp_def, List.take_nil, List.drop_nil, List.toList_toArray, C.eqbL, eqCs, eqC, List.drop_one, List.tail_cons, lim, lk8, h1, wi i hlt]
      refine ⟨(i + 1, out), ⟨hlt, hskip, hol⟩, by simp only []; omega, ?_⟩
      refine ent_weaken [] (by simp only [List.append_nil, roadC]) rfl (show 1 ≤ 4 by decide) (hlow _) rfl ?_
      simp (config := { maxSteps := 2000000 }) only [go_sem, reduceIte, Nat.reduceEqDiff, Nat.reduceAdd, Nat.reduceLT, Nat.reduceLeDiff, Nat.reduceBEq, Nat.reduceMul, Nat.reduceSub, Nat.reduceDiv, Int.reduceNeg, Int.reduceLT, Int.reduceLE, Int.reduceEq, Int.reduceToNat, fillC, zc, List.replicate_succ, List.replicate_zero, List.flatten_cons, List.flatten_nil, toDs, toD, chunk, placeS, srcRows, List.all_cons, List.all_nil, List.all_map, Function.comp_def, List.take_nil, List.drop_nil, List.toList_toArray, C.eqbL, eqCs, eqC, List.drop_one, List.tail_cons, lim, lk8]
  · have hi' : i = ch.length := by simp at h; omega
    subst hi'
    rw [List.take_length] at hsub
    have cpl : (!decide (r.pl = 0)) = true := by simp; omega
    have ht0 : 0 ≤ p.tmod r.pl := Int.tmod_nonneg _ (by omega)
    have ht1 : p.tmod r.pl < r.pl := Int.tmod_lt_of_pos _ (by omega)
    have h22 := checkDark22 r ch (p.tmod r.pl) out
    rw [hold_dead hch hh hsub hol ht0 ht1] at h22
    have h22' := pure_to h22 rfl
    simp only [ints] at h22'
    simp (config := { maxSteps := 2000000 }) only [go_sem, reduceIte, Nat.reduceEqDiff, Nat.reduceAdd, Nat.reduceLT, Nat.reduceLeDiff, Nat.reduceBEq, Nat.reduceMul, Nat.reduceSub, Nat.reduceDiv, Int.reduceNeg, Int.reduceLT, Int.reduceLE, Int.reduceEq, Int.reduceToNat, fillC, zc, List.replicate_succ, List.replicate_zero, List.flatten_cons, List.flatten_nil, toDs, toD, chunk, placeS, srcRows, List.all_cons, List.all_nil, List.all_map, Function.comp_def, List.take_nil, List.drop_nil, List.toList_toArray, C.eqbL, eqCs, eqC, List.drop_one, List.tail_cons, lim, lk8, wp, cpl]
    refine de_pure (h22') rfl rfl (by first | exact wk_refls _ | (repeat constructor)) ?_
    simp (config := { maxSteps := 2000000 }) only [go_sem, reduceIte, Nat.reduceEqDiff, Nat.reduceAdd, Nat.reduceLT, Nat.reduceLeDiff, Nat.reduceBEq, Nat.reduceMul, Nat.reduceSub, Nat.reduceDiv, Int.reduceNeg, Int.reduceLT, Int.reduceLE, Int.reduceEq, Int.reduceToNat, fillC, zc, List.replicate_succ, List.replicate_zero, List.flatten_cons, List.flatten_nil, toDs, toD, chunk, placeS, srcRows, List.all_cons, List.all_nil, List.all_map, Function.comp_def, List.take_nil, List.drop_nil, List.toList_toArray, C.eqbL, eqCs, eqC, List.drop_one, List.tail_cons, lim, lk8]
    refine de_at (wa _) rfl rfl (by first | exact wk_refls _ | (repeat constructor)) ?_
    simp (config := { maxSteps := 2000000 }) only [go_sem, reduceIte, Nat.reduceEqDiff, Nat.reduceAdd, Nat.reduceLT, Nat.reduceLeDiff, Nat.reduceBEq, Nat.reduceMul, Nat.reduceSub, Nat.reduceDiv, Int.reduceNeg, Int.reduceLT, Int.reduceLE, Int.reduceEq, Int.reduceToNat, fillC, zc, List.replicate_succ, List.replicate_zero, List.flatten_cons, List.flatten_nil, toDs, toD, chunk, placeS, srcRows, List.all_cons, List.all_nil, List.all_map, Function.comp_def, List.take_nil, List.drop_nil, List.toList_toArray, C.eqbL, eqCs, eqC, List.drop_one, List.tail_cons, lim, lk8]
    exact ⟨pairsOk_ord (by kernel_rfl), _, rfl⟩
end Go.Proofs.YteamgbndnfjoaaaDoor
