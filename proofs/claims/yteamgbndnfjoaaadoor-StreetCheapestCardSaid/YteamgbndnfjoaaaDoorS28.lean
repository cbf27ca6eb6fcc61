/- The reference's least cost over all choices. -/
import Derived.Test.YteamgbndnfjoaaaDoorS20
import Derived.Test.YteamgbndnfjoaaaDoorS25
set_option linter.unusedSimpArgs false
set_option linter.unusedVariables false
set_option maxRecDepth 100000
namespace Go.Proofs.YteamgbndnfjoaaaDoor
open Go Go.Abs Go.Proofs
def kp28 : List (Nat × List Nat) := [(0, [1]), (1, [1, 4, 5]), (2, [1, 4, 5, 6]), (3, [1, 4, 5, 6, 14]), (4, [1, 4, 5, 6]), (5, [1, 4, 5, 6, 7]), (6, [1, 4, 5, 6, 7, 8]), (7, [1, 4, 5, 6, 7, 8, 21]), (8, [1, 4, 5, 6, 7, 8]), (9, [1, 4, 5, 6, 7, 8, 28]), (10, [1, 4, 5, 6, 7, 8]), (11, [1, 4, 5, 6, 7, 46]), (12, [1, 4, 5, 6]), (13, [2, 3])]
theorem lk28 : lookK kp28 0 = some [1] ∧ lookK kp28 1 = some [1, 4, 5] ∧ lookK kp28 2 = some [1, 4, 5, 6] ∧ lookK kp28 3 = some [1, 4, 5, 6, 14] ∧ lookK kp28 4 = some [1, 4, 5, 6] ∧ lookK kp28 5 = some [1, 4, 5, 6, 7] ∧ lookK kp28 6 = some [1, 4, 5, 6, 7, 8] ∧ lookK kp28 7 = some [1, 4, 5, 6, 7, 8, 21] ∧ lookK kp28 8 = some [1, 4, 5, 6, 7, 8] ∧ lookK kp28 9 = some [1, 4, 5, 6, 7, 8, 28] ∧ lookK kp28 10 = some [1, 4, 5, 6, 7, 8] ∧ lookK kp28 11 = some [1, 4, 5, 6, 7, 46] ∧ lookK kp28 12 = some [1, 4, 5, 6] ∧ lookK kp28 13 = some [2, 3] := ⟨rfl, rfl, rfl, rfl, rfl, rfl, rfl, rfl, rfl, rfl, rfl, rfl, rfl, rfl⟩
def bitI (b i : Nat) : Bool := (b / 2 ^ i) % 2 == 1
def chB (b : Nat) : Nat → List Int
  | 0 => []
  | m + 1 => chB b m ++ (if bitI b m then [(m : Int)] else [])
theorem bit_eq (j i : Nat) (h : i ≤ 9) : decide (((j : Int).fdiv (2 ^ min i 64)).tmod 2 = 1) = bitI j i := by
  have e : min i 64 = i := by omega
  have e2 : ((2 : Int) ^ i) = ((2 ^ i : Nat) : Int) := by push_cast; rfl
  rw [e, e2, Int.fdiv_eq_ediv_of_nonneg _ (Int.natCast_nonneg _), ← Int.natCast_ediv, Int.tmod_eq_emod_of_nonneg (Int.natCast_nonneg _)]
  unfold bitI
  generalize j / 2 ^ i = q
  rw [Bool.eq_iff_iff]
  simp
  omega
theorem chB_len (b : Nat) : ∀ m, (chB b m).length ≤ m
  | 0 => by simp [chB]
  | m + 1 => by have := chB_len b m; simp only [chB, List.length_append]; split <;> simp <;> omega
theorem chB_rises (b : Nat) : ∀ m : Nat, rises (chB b m) m = true
  | 0 => rfl
  | m + 1 => by
    have ih := chB_rises b m
    simp only [chB]
    split
    · have := risesB_snoc (m := (m : Int)) ih (by omega) (Int.le_refl _) (by omega)
      exact this
    · rw [List.append_nil]; exact risesB_more ih (by omega)
/-- What is known after j choices: the least cost of those that hold. -/
def lstN (r : Rd) : Nat → Int × Bool
  | 0 => (0, false)
  | j + 1 => if holdsB r (chB j r.ps.length) = true ∧ ((lstN r j).2 = false ∨ costL r (chB j r.ps.length) < (lstN r j).1) then (costL r (chB j r.ps.length), true) else lstN r j
theorem okCh_chB {r : Rd} (h : okRoad r = 0) (b : Nat) : okCh r (chB b r.ps.length) = 0 := by
  unfold okCh
  rw [if_neg (by simpa using h), chB_rises]; rfl
set_option maxHeartbeats 4000000 in
theorem least28 (r : Rd) (hr : OkR r) (h9 : r.ps.length ≤ 9) : Pure Tryd.prog 28 [roadV r] (.tup [I (lstN r (2 ^ r.ps.length)).1, B (lstN r (2 ^ r.ps.length)).2]) := by
  refine pure_wkE (bad := []) (kp := kp28) (X := tx) (nt := 52) (rs := [.tmp 2, .tmp 3]) Tryd.func28 rfl rfl rfl rfl mo (by kernel_rfl) rfl rfl (fun hf => ?_)
  simp (config := { maxSteps := 2000000 }) only [go_sem, reduceIte, Nat.reduceEqDiff, Nat.reduceAdd, Nat.reduceLT, Nat.reduceLeDiff, Nat.reduceBEq, Nat.reduceMul, Nat.reduceSub, Nat.reduceDiv, Int.reduceNeg, Int.reduceLT, Int.reduceLE, Int.reduceEq, Int.reduceToNat, fillC, zc, List.replicate_succ, List.replicate_zero, List.flatten_cons, List.flatten_nil, toDs, toD, chunk, placeS, srcRows, List.all_cons, List.all_nil, List.all_map, Function.comp_def, List.take_nil, List.drop_nil, List.toList_toArray, C.eqbL, eqCs, eqC, List.drop_one, List.tail_cons, lim, lk28, roadV, roadC, lk28]
  refine goE_loop (bad := []) (kp := kp28) (fun i : Nat => { slots := [(1, .c (.ptr 0 0)), (4, I (lstN r i).1), (5, B (lstN r i).2), (6, I i)], heap := [.cells (roadC r)], marks := [] }) (fun i => i ≤ 2 ^ r.ps.length) (fun i => 2 ^ r.ps.length - i) 0 mo (by kernel_rfl) ?_ (Nat.zero_le _) ?_
  · refine ent_weaken [] rfl rfl (Nat.zero_le _) rfl rfl ?_
    simp (config := { maxSteps := 2000000 }) only [go_sem, reduceIte, Nat.reduceEqDiff, Nat.reduceAdd, Nat.reduceLT, Nat.reduceLeDiff, Nat.reduceBEq, Nat.reduceMul, Nat.reduceSub, Nat.reduceDiv, Int.reduceNeg, Int.reduceLT, Int.reduceLE, Int.reduceEq, Int.reduceToNat, fillC, zc, List.replicate_succ, List.replicate_zero, List.flatten_cons, List.flatten_nil, toDs, toD, chunk, placeS, srcRows, List.all_cons, List.all_nil, List.all_map, Function.comp_def, List.take_nil, List.drop_nil, List.toList_toArray, C.eqbL, eqCs, eqC, List.drop_one, List.tail_cons, lim, lk28, roadC, lstN]
    try exact .refl _
  rintro j hj
  have hp : 2 ^ r.ps.length ≤ 2 ^ 9 := Nat.pow_le_pow_right (by omega) h9
  have h64 : min r.ps.length 64 = r.ps.length := by omega
  have wp : wr .i64 (1 * 2 ^ r.ps.length) = ((2 ^ r.ps.length : Nat) : Int) := by
    have e : ((2 : Int) ^ r.ps.length) = ((2 ^ r.ps.length : Nat) : Int) := by push_cast; rfl
    have hp' : 2 ^ r.ps.length ≤ 512 := hp
    rw [Int.one_mul, e]
    generalize 2 ^ r.ps.length = q at *
    exact wr_id (by omega) (by omega)
  have c0 : decide ((0 : Int) ≤ (r.ps.length : Int)) = true := by simp
  simp (config := { maxSteps := 2000000 }) only [go_sem, reduceIte, Nat.reduceEqDiff, Nat.reduceAdd, Nat.reduceLT, Nat.reduceLeDiff, Nat.reduceBEq, Nat.reduceMul, Nat.reduceSub, Nat.reduceDiv, Int.reduceNeg, Int.reduceLT, Int.reduceLE, Int.reduceEq, Int.reduceToNat, fillC, zc, List.replicate_succ, List.replicate_zero, List.flatten_cons, List.flatten_nil, toDs, toD, chunk, placeS, srcRows, List.all_cons, List.all_nil, List.all_map, Function.comp_def, List.take_nil, List.drop_nil, List.toList_toArray, C.eqbL, eqCs, eqC, List.drop_one, List.tail_cons, lim, lk28, roadC, c0, h64, wp, lk28]
  refine goE_if (fun h => ?_) (fun h => ?_)
  · have hlt : j < 2 ^ r.ps.length := by have := of_decide_eq_true h; exact_mod_cast this
    simp (config := { maxSteps := 2000000 }) only [go_sem, reduceIte, Nat.reduceEqDiff, Nat.reduceAdd, Nat.reduceLT, Nat.reduceLeDiff, Nat.reduceBEq, Nat.reduceMul, Nat.reduceSub, Nat.reduceDiv, Int.reduceNeg, Int.reduceLT, Int.reduceLE, Int.reduceEq, Int.reduceToNat, fillC, zc, List.replicate_succ, List.replicate_zero, List.flatten_cons, List.flatten_nil, toDs, toD, chunk, placeS, srcRows, List.all_cons, List.all_nil, List.all_map, Function.comp_def, List.take_nil, List.drop_nil, List.toList_toArray, C.eqbL, eqCs, eqC, List.drop_one, List.tail_cons, lim, lk28, lk28]
    refine goE_loop (bad := []) (kp := kp28) (fun i : Nat => { slots := [(1, .c (.ptr 0 0)), (4, I (lstN r j).1), (5, B (lstN r j).2), (6, I j), (7, .c (.own 1 ((chB j i).map iD))), (8, I i)], heap := [.cells (roadC r), .grow (chB j i).length 1], marks := [] }) (fun i => i ≤ r.ps.length) (fun i => r.ps.length - i) 0 mo (by kernel_rfl) ?_ (Nat.zero_le _) ?_
    · refine Ent.trans (ent_own 7 1 rfl) ?_
      refine ent_weaken [] rfl rfl (Nat.zero_le _) rfl rfl ?_
      simp (config := { maxSteps := 2000000 }) only [go_sem, reduceIte, Nat.reduceEqDiff, Nat.reduceAdd, Nat.reduceLT, Nat.reduceLeDiff, Nat.reduceBEq, Nat.reduceMul, Nat.reduceSub, Nat.reduceDiv, Int.reduceNeg, Int.reduceLT, Int.reduceLE, Int.reduceEq, Int.reduceToNat, fillC, zc, List.replicate_succ, List.replicate_zero, List.flatten_cons, List.flatten_nil, toDs, toD, chunk, placeS, srcRows, List.all_cons, List.all_nil, List.all_map, Function.comp_def, List.take_nil, List.drop_nil, List.toList_toArray, C.eqbL, eqCs, eqC, List.drop_one, List.tail_cons, lim, lk28, roadC, chB, List.map_nil]
      exact .refl _
    rintro i hi
    simp (config := { maxSteps := 2000000 }) only [go_sem, reduceIte, Nat.reduceEqDiff, Nat.reduceAdd, Nat.reduceLT, Nat.reduceLeDiff, Nat.reduceBEq, Nat.reduceMul, Nat.reduceSub, Nat.reduceDiv, Int.reduceNeg, Int.reduceLT, Int.reduceLE, Int.reduceEq, Int.reduceToNat, fillC, zc, List.replicate_succ, List.replicate_zero, List.flatten_cons, List.flatten_nil, toDs, toD, chunk, placeS, srcRows, List.all_cons, List.all_nil, List.all_map, Function.comp_def, List.take_nil, List.drop_nil, List.toList_toArray, C.eqbL, eqCs, eqC, List.drop_one, List.tail_cons, lim, lk28, roadC, lk28]
    refine goE_if (fun h => ?_) (fun h => ?_)
    · have hli : i < r.ps.length := by simpa using h
      have cc : decide ((0 : Int) ≤ (i : Int)) = true := by simp
      have hb := bit_eq j i (by omega)
      have hcl := chB_len j i
      cases hbb : bitI j i with
      | true =>
        rw [hbb] at hb
        have hs : chB j (i + 1) = chB j i ++ [(i : Int)] := by simp [chB, hbb]
        simp (config := { maxSteps := 2000000 }) only [go_sem, reduceIte, Nat.reduceEqDiff, Nat.reduceAdd, Nat.reduceLT, Nat.reduceLeDiff, Nat.reduceBEq, Nat.reduceMul, Nat.reduceSub, Nat.reduceDiv, Int.reduceNeg, Int.reduceLT, Int.reduceLE, Int.reduceEq, Int.reduceToNat, fillC, zc, List.replicate_succ, List.replicate_zero, List.flatten_cons, List.flatten_nil, toDs, toD, chunk, placeS, srcRows, List.all_cons, List.all_nil, List.all_map, Function.comp_def, List.take_nil, List.drop_nil, List.toList_toArray, C.eqbL, eqCs, eqC, List.drop_one, List.tail_cons, lim, lk28, cc, hb, bound, iD, lk28]
        refine ⟨by simp; omega, ?_⟩
        simp (config := { maxSteps := 2000000 }) only [go_sem, reduceIte, Nat.reduceEqDiff, Nat.reduceAdd, Nat.reduceLT, Nat.reduceLeDiff, Nat.reduceBEq, Nat.reduceMul, Nat.reduceSub, Nat.reduceDiv, Int.reduceNeg, Int.reduceLT, Int.reduceLE, Int.reduceEq, Int.reduceToNat, fillC, zc, List.replicate_succ, List.replicate_zero, List.flatten_cons, List.flatten_nil, toDs, toD, chunk, placeS, srcRows, List.all_cons, List.all_nil, List.all_map, Function.comp_def, List.take_nil, List.drop_nil, List.toList_toArray, C.eqbL, eqCs, eqC, List.drop_one, List.tail_cons, lim, lk28, wr_succ hli (show r.ps.length ≤ 140737488355328 by omega), lk28]
        refine ⟨i + 1, hli, by omega, ?_⟩
        refine ent_weaken [] (by simp only [hs, List.append_nil, List.length_append, roadC]; rfl) rfl (Nat.zero_le _) rfl rfl ?_
        simp (config := { maxSteps := 2000000 }) only [go_sem, reduceIte, Nat.reduceEqDiff, Nat.reduceAdd, Nat.reduceLT, Nat.reduceLeDiff, Nat.reduceBEq, Nat.reduceMul, Nat.reduceSub, Nat.reduceDiv, Int.reduceNeg, Int.reduceLT, Int.reduceLE, Int.reduceEq, Int.reduceToNat, fillC, zc, List.replicate_succ, List.replicate_zero, List.flatten_cons, List.flatten_nil, toDs, toD, chunk, placeS, srcRows, List.all_cons, List.all_nil, List.all_map, Function.comp_def, List.take_nil, List.drop_nil, List.toList_toArray, C.eqbL, eqCs, eqC, List.drop_one, List.tail_cons, lim, lk28, hs, List.map_append, iD]
        try exact .refl _
      | false =>
        rw [hbb] at hb
        have hs : chB j (i + 1) = chB j i := by simp [chB, hbb]
        simp (config := { maxSteps := 2000000 }) only [go_sem, reduceIte, Nat.reduceEqDiff, Nat.reduceAdd, Nat.reduceLT, Nat.reduceLeDiff, Nat.reduceBEq, Nat.reduceMul, Nat.reduceSub, Nat.reduceDiv, Int.reduceNeg, Int.reduceLT, Int.reduceLE, Int.reduceEq, Int.reduceToNat, fillC, zc, List.replicate_succ, List.replicate_zero, List.flatten_cons, List.flatten_nil, toDs, toD, chunk, placeS, srcRows, List.all_cons, List.all_nil, List.all_map, Function.comp_def, List.take_nil, List.drop_nil, List.toList_toArray, C.eqbL, eqCs, eqC, List.drop_one, List.tail_cons, lim, lk28, cc, hb, wr_succ hli (show r.ps.length ≤ 140737488355328 by omega), lk28]
        refine ⟨i + 1, hli, by omega, ?_⟩
        refine ent_weaken [] (by simp only [hs, List.append_nil, roadC]) rfl (Nat.zero_le _) rfl rfl ?_
        simp (config := { maxSteps := 2000000 }) only [go_sem, reduceIte, Nat.reduceEqDiff, Nat.reduceAdd, Nat.reduceLT, Nat.reduceLeDiff, Nat.reduceBEq, Nat.reduceMul, Nat.reduceSub, Nat.reduceDiv, Int.reduceNeg, Int.reduceLT, Int.reduceLE, Int.reduceEq, Int.reduceToNat, fillC, zc, List.replicate_succ, List.replicate_zero, List.flatten_cons, List.flatten_nil, toDs, toD, chunk, placeS, srcRows, List.all_cons, List.all_nil, List.all_map, Function.comp_def, List.take_nil, List.drop_nil, List.toList_toArray, C.eqbL, eqCs, eqC, List.drop_one, List.tail_cons, lim, lk28, hs]
        try exact .refl _
    · have hi' : i = r.ps.length := by simp at h; omega
      subst hi'
      have hh := okCh_chB hr.zero j
      have h26 := holds26 r (chB j r.ps.length) hh
      have h36 := cost36 r (chB j r.ps.length) hh
      rw [← costL_eq hh] at h36
      have hw : wr .i64 ((j : Int) + 1) = ((j + 1 : Nat) : Int) := wr_succ hlt (show 2 ^ r.ps.length ≤ 140737488355328 from Nat.le_trans hp (by decide))
      simp (config := { maxSteps := 2000000 }) only [go_sem, reduceIte, Nat.reduceEqDiff, Nat.reduceAdd, Nat.reduceLT, Nat.reduceLeDiff, Nat.reduceBEq, Nat.reduceMul, Nat.reduceSub, Nat.reduceDiv, Int.reduceNeg, Int.reduceLT, Int.reduceLE, Int.reduceEq, Int.reduceToNat, fillC, zc, List.replicate_succ, List.replicate_zero, List.flatten_cons, List.flatten_nil, toDs, toD, chunk, placeS, srcRows, List.all_cons, List.all_nil, List.all_map, Function.comp_def, List.take_nil, List.drop_nil, List.toList_toArray, C.eqbL, eqCs, eqC, List.drop_one, List.tail_cons, lim, lk28, lk28]
      refine aops_pure' (h26) rfl rfl (by first | exact wk_refls _ | (repeat constructor)) ?_
      cases hho : holdsB r (chB j r.ps.length) with
      | false =>
        have hl : lstN r (j + 1) = lstN r j := by rw [lstN, if_neg (by simp [hho])]
        simp (config := { maxSteps := 2000000 }) only [go_sem, reduceIte, Nat.reduceEqDiff, Nat.reduceAdd, Nat.reduceLT, Nat.reduceLeDiff, Nat.reduceBEq, Nat.reduceMul, Nat.reduceSub, Nat.reduceDiv, Int.reduceNeg, Int.reduceLT, Int.reduceLE, Int.reduceEq, Int.reduceToNat, fillC, zc, List.replicate_succ, List.replicate_zero, List.flatten_cons, List.flatten_nil, toDs, toD, chunk, placeS, srcRows, List.all_cons, List.all_nil, List.all_map, Function.comp_def, List.take_nil, List.drop_nil, List.toList_toArray, C.eqbL, eqCs, eqC, List.drop_one, List.tail_cons, lim, lk28, lk28]
        refine ⟨j + 1, hlt, by omega, ?_⟩
        refine ent_weaken [.grow (chB j r.ps.length).length 1] (by simp only [List.cons_append, List.nil_append, roadC]) rfl (Nat.zero_le _) rfl rfl ?_
        simp (config := { maxSteps := 2000000 }) only [go_sem, reduceIte, Nat.reduceEqDiff, Nat.reduceAdd, Nat.reduceLT, Nat.reduceLeDiff, Nat.reduceBEq, Nat.reduceMul, Nat.reduceSub, Nat.reduceDiv, Int.reduceNeg, Int.reduceLT, Int.reduceLE, Int.reduceEq, Int.reduceToNat, fillC, zc, List.replicate_succ, List.replicate_zero, List.flatten_cons, List.flatten_nil, toDs, toD, chunk, placeS, srcRows, List.all_cons, List.all_nil, List.all_map, Function.comp_def, List.take_nil, List.drop_nil, List.toList_toArray, C.eqbL, eqCs, eqC, List.drop_one, List.tail_cons, lim, lk28, hw, hl]
        try exact .refl _
      | true =>
        cases h2 : (lstN r j).2 with
        | false =>
          have hl : lstN r (j + 1) = (costL r (chB j r.ps.length), true) := by rw [lstN, if_pos ⟨hho, .inl h2⟩]
          simp (config := { maxSteps := 2000000 }) only [go_sem, reduceIte, Nat.reduceEqDiff, Nat.reduceAdd, Nat.reduceLT, Nat.reduceLeDiff, Nat.reduceBEq, Nat.reduceMul, Nat.reduceSub, Nat.reduceDiv, Int.reduceNeg, Int.reduceLT, Int.reduceLE, Int.reduceEq, Int.reduceToNat, fillC, zc, List.replicate_succ, List.replicate_zero, List.flatten_cons, List.flatten_nil, toDs, toD, chunk, placeS, srcRows, List.all_cons, List.all_nil, List.all_map, Function.comp_def, List.take_nil, List.drop_nil, List.toList_toArray, C.eqbL, eqCs, eqC, List.drop_one, List.tail_cons, lim, lk28, lk28]
          refine aops_pure' (h36) rfl rfl (by first | exact wk_refls _ | (repeat constructor)) ?_
          simp (config := { maxSteps := 2000000 }) only [go_sem, reduceIte, Nat.reduceEqDiff, Nat.reduceAdd, Nat.reduceLT, Nat.reduceLeDiff, Nat.reduceBEq, Nat.reduceMul, Nat.reduceSub, Nat.reduceDiv, Int.reduceNeg, Int.reduceLT, Int.reduceLE, Int.reduceEq, Int.reduceToNat, fillC, zc, List.replicate_succ, List.replicate_zero, List.flatten_cons, List.flatten_nil, toDs, toD, chunk, placeS, srcRows, List.all_cons, List.all_nil, List.all_map, Function.comp_def, List.take_nil, List.drop_nil, List.toList_toArray, C.eqbL, eqCs, eqC, List.drop_one, List.tail_cons, lim, lk28, lk28]
          refine ⟨j + 1, hlt, by omega, ?_⟩
          refine ent_weaken [.grow (chB j r.ps.length).length 1] (by simp only [List.cons_append, List.nil_append, roadC]) rfl (Nat.zero_le _) rfl rfl ?_
          simp (config := { maxSteps := 2000000 }) only [go_sem, reduceIte, Nat.reduceEqDiff, Nat.reduceAdd, Nat.reduceLT, Nat.reduceLeDiff, Nat.reduceBEq, Nat.reduceMul, Nat.reduceSub, Nat.reduceDiv, Int.reduceNeg, Int.reduceLT, Int.reduceLE, Int.reduceEq, Int.reduceToNat, fillC, zc, List.replicate_succ, List.replicate_zero, List.flatten_cons, List.flatten_nil, toDs, toD, chunk, placeS, srcRows, List.all_cons, List.all_nil, List.all_map, Function.comp_def, List.take_nil, List.drop_nil, List.toList_toArray, C.eqbL, eqCs, eqC, List.drop_one, List.tail_cons, lim, lk28, hw, hl]
          try exact .refl _
        | true =>
          simp (config := { maxSteps := 2000000 }) only [go_sem, reduceIte, Nat.reduceEqDiff, Nat.reduceAdd, Nat.reduceLT, Nat.reduceLeDiff, Nat.reduceBEq, Nat.reduceMul, Nat.reduceSub, Nat.reduceDiv, Int.reduceNeg, Int.reduceLT, Int.reduceLE, Int.reduceEq, Int.reduceToNat, fillC, zc, List.replicate_succ, List.replicate_zero, List.flatten_cons, List.flatten_nil, toDs, toD, chunk, placeS, srcRows, List.all_cons, List.all_nil, List.all_map, Function.comp_def, List.take_nil, List.drop_nil, List.toList_toArray, C.eqbL, eqCs, eqC, List.drop_one, List.tail_cons, lim, lk28, lk28]
          refine aops_pure' (h36) rfl rfl (by first | exact wk_refls _ | (repeat constructor)) ?_
          simp (config := { maxSteps := 2000000 }) only [go_sem, reduceIte, Nat.reduceEqDiff, Nat.reduceAdd, Nat.reduceLT, Nat.reduceLeDiff, Nat.reduceBEq, Nat.reduceMul, Nat.reduceSub, Nat.reduceDiv, Int.reduceNeg, Int.reduceLT, Int.reduceLE, Int.reduceEq, Int.reduceToNat, fillC, zc, List.replicate_succ, List.replicate_zero, List.flatten_cons, List.flatten_nil, toDs, toD, chunk, placeS, srcRows, List.all_cons, List.all_nil, List.all_map, Function.comp_def, List.take_nil, List.drop_nil, List.toList_toArray, C.eqbL, eqCs, eqC, List.drop_one, List.tail_cons, lim, lk28, lk28]
          refine goE_if (fun h => ?_) (fun h => ?_)
          · have h3 := of_decide_eq_true h
            have hl : lstN r (j + 1) = (costL r (chB j r.ps.length), true) := by rw [lstN, if_pos ⟨hho, .inr h3⟩]
            simp (config := { maxSteps := 2000000 }) only [go_sem, reduceIte, Nat.reduceEqDiff, Nat.reduceAdd, Nat.reduceLT, Nat.reduceLeDiff, Nat.reduceBEq, Nat.reduceMul, Nat.reduceSub, Nat.reduceDiv, Int.reduceNeg, Int.reduceLT, Int.reduceLE, Int.reduceEq, Int.reduceToNat, fillC, zc, List.replicate_succ, List.replicate_zero, List.flatten_cons, List.flatten_nil, toDs, toD, chunk, placeS, srcRows, List.all_cons, List.all_nil, List.all_map, Function.comp_def, List.take_nil, List.drop_nil, List.toList_toArray, C.eqbL, eqCs, eqC, List.drop_one, List.tail_cons, lim, lk28, lk28]
            refine aops_pure' (h36) rfl rfl (by first | exact wk_refls _ | (repeat constructor)) ?_
            simp (config := { maxSteps := 2000000 }) only [go_sem, reduceIte, Nat.reduceEqDiff, Nat.reduceAdd, Nat.reduceLT, Nat.reduceLeDiff, Nat.reduceBEq, Nat.reduceMul, Nat.reduceSub, Nat.reduceDiv, Int.reduceNeg, Int.reduceLT, Int.reduceLE, Int.reduceEq, Int.reduceToNat, fillC, zc, List.replicate_succ, List.replicate_zero, List.flatten_cons, List.flatten_nil, toDs, toD, chunk, placeS, srcRows, List.all_cons, List.all_nil, List.all_map, Function.comp_def, List.take_nil, List.drop_nil, List.toList_toArray, C.eqbL, eqCs, eqC, List.drop_one, List.tail_cons, lim, lk28, lk28]
            refine ⟨j + 1, hlt, by omega, ?_⟩
            refine ent_weaken [.grow (chB j r.ps.length).length 1] (by simp only [List.cons_append, List.nil_append, roadC]) rfl (Nat.zero_le _) rfl rfl ?_
            simp (config := { maxSteps := 2000000 }) only [go_sem, reduceIte, Nat.reduceEqDiff, Nat.reduceAdd, Nat.reduceLT, Nat.reduceLeDiff, Nat.reduceBEq, Nat.reduceMul, Nat.reduceSub, Nat.reduceDiv, Int.reduceNeg, Int.reduceLT, Int.reduceLE, Int.reduceEq, Int.reduceToNat, fillC, zc, List.replicate_succ, List.replicate_zero, List.flatten_cons, List.flatten_nil, toDs, toD, chunk, placeS, srcRows, List.all_cons, List.all_nil, List.all_map, Function.comp_def, List.take_nil, List.drop_nil, List.toList_toArray, C.eqbL, eqCs, eqC, List.drop_one, List.tail_cons, lim, lk28, hw, hl]
            try exact .refl _
          · have h3 := of_decide_eq_false h
            have hl : lstN r (j + 1) = lstN r j := by rw [lstN, if_neg (by simp [h2, h3])]
            simp (config := { maxSteps := 2000000 }) only [go_sem, reduceIte, Nat.reduceEqDiff, Nat.reduceAdd, Nat.reduceLT, Nat.reduceLeDiff, Nat.reduceBEq, Nat.reduceMul, Nat.reduceSub, Nat.reduceDiv, Int.reduceNeg, Int.reduceLT, Int.reduceLE, Int.reduceEq, Int.reduceToNat, fillC, zc, List.replicate_succ, List.replicate_zero, List.flatten_cons, List.flatten_nil, toDs, toD, chunk, placeS, srcRows, List.all_cons, List.all_nil, List.all_map, Function.comp_def, List.take_nil, List.drop_nil, List.toList_toArray, C.eqbL, eqCs, eqC, List.drop_one, List.tail_cons, lim, lk28, lk28]
            refine ⟨j + 1, hlt, by omega, ?_⟩
            refine ent_weaken [.grow (chB j r.ps.length).length 1] (by simp only [List.cons_append, List.nil_append, roadC]) rfl (Nat.zero_le _) rfl rfl ?_
            simp (config := { maxSteps := 2000000 }) only [go_sem, reduceIte, Nat.reduceEqDiff, Nat.reduceAdd, Nat.reduceLT, Nat.reduceLeDiff, Nat.reduceBEq, Nat.reduceMul, Nat.reduceSub, Nat.reduceDiv, Int.reduceNeg, Int.reduceLT, Int.reduceLE, Int.reduceEq, Int.reduceToNat, fillC, zc, List.replicate_succ, List.replicate_zero, List.flatten_cons, List.flatten_nil, toDs, toD, chunk, placeS, srcRows, List.all_cons, List.all_nil, List.all_map, Function.comp_def, List.take_nil, List.drop_nil, List.toList_toArray, C.eqbL, eqCs, eqC, List.drop_one, List.tail_cons, lim, lk28, hw, hl, h2]
            try exact .refl _
  · have hj' : j = 2 ^ r.ps.length := by
      have := of_decide_eq_false h
      have : ¬ j < 2 ^ r.ps.length := fun x => this (by exact_mod_cast x)
      omega
    subst hj'
    simp (config := { maxSteps := 2000000 }) only [go_sem, reduceIte, Nat.reduceEqDiff, Nat.reduceAdd, Nat.reduceLT, Nat.reduceLeDiff, Nat.reduceBEq, Nat.reduceMul, Nat.reduceSub, Nat.reduceDiv, Int.reduceNeg, Int.reduceLT, Int.reduceLE, Int.reduceEq, Int.reduceToNat, fillC, zc, List.replicate_succ, List.replicate_zero, List.flatten_cons, List.flatten_nil, toDs, toD, chunk, placeS, srcRows, List.all_cons, List.all_nil, List.all_map, Function.comp_def, List.take_nil, List.drop_nil, List.toList_toArray, C.eqbL, eqCs, eqC, List.drop_one, List.tail_cons, lim, lk28, lk28]
end Go.Proofs.YteamgbndnfjoaaaDoor
