/- The law StreetJoined. -/
import Derived.Test.YteamgbndnfjoaaaDoorS26
set_option linter.unusedSimpArgs false
set_option linter.unusedVariables false
set_option maxRecDepth 100000
namespace Go.Proofs.YteamgbndnfjoaaaDoor
open Go Go.Abs Go.Proofs
def kp11 : List (Nat × List Nat) := [(0, [2, 3]), (1, [2, 3, 24]), (2, [4]), (3, [2, 3]), (4, [2, 3, 5]), (5, [2, 3, 5]), (6, [2, 3, 5, 6]), (7, [2, 3, 5, 6, 48]), (8, [2, 3, 5, 6]), (9, [2, 3, 5, 6, 7]), (10, [2, 3, 5, 6]), (11, [2, 3, 5, 76]), (12, [4]), (13, [3, 5, 9, 10]), (14, [5, 9, 10, 12, 13]), (15, [9, 10, 12, 13, 15, 16]), (16, [9, 10, 12, 13, 15, 16, 101]), (17, [4]), (18, [4])]
theorem lk11 : lookK kp11 0 = some [2, 3] ∧ lookK kp11 1 = some [2, 3, 24] ∧ lookK kp11 2 = some [4] ∧ lookK kp11 3 = some [2, 3] ∧ lookK kp11 4 = some [2, 3, 5] ∧ lookK kp11 5 = some [2, 3, 5] ∧ lookK kp11 6 = some [2, 3, 5, 6] ∧ lookK kp11 7 = some [2, 3, 5, 6, 48] ∧ lookK kp11 8 = some [2, 3, 5, 6] ∧ lookK kp11 9 = some [2, 3, 5, 6, 7] ∧ lookK kp11 10 = some [2, 3, 5, 6] ∧ lookK kp11 11 = some [2, 3, 5, 76] ∧ lookK kp11 12 = some [4] ∧ lookK kp11 13 = some [3, 5, 9, 10] ∧ lookK kp11 14 = some [5, 9, 10, 12, 13] ∧ lookK kp11 15 = some [9, 10, 12, 13, 15, 16] ∧ lookK kp11 16 = some [9, 10, 12, 13, 15, 16, 101] ∧ lookK kp11 17 = some [4] ∧ lookK kp11 18 = some [4] := ⟨rfl, rfl, rfl, rfl, rfl, rfl, rfl, rfl, rfl, rfl, rfl, rfl, rfl, rfl, rfl, rfl, rfl, rfl, rfl⟩

def joinT (r s : Rd) : List AB := [.cells (roadC r), .cells (roadC (likeR r s)), .grow (r.ps.length + s.ps.length) 3, .cells [.d (.int .i64 (r.pl + s.pl)), .d (.int .i64 r.de), .d (.int .i64 r.di), .own 3 (List.map pD (r.ps ++ List.map (shiftP r.pl) s.ps))]]
set_option maxHeartbeats 8000000 in
theorem joinedLaw (r s : Rd) : ACall Tryd.prog 11 [roadV r, roadV s] GH (one (B true) GH) := by
  refine acall_atE (bad := [3, 4]) (kp := kp11) (X := tx) (nt := 135) (rs := [.tmp 4]) Tryd.func11 rfl rfl rfl rfl mo (by kernel_rfl) rfl rfl (fun hf => ?_)
  have wa : ∀ T, ACall Tryd.prog 14 [] (.gl 0 noneD :: .cells (roadC r) :: T) (one (B true) (.gl 0 noneD :: .cells (roadC r) :: T)) := fun T => works_at _
  simp only [roadC] at wa
  simp (config := { maxSteps := 2000000 }) only [go_sem, reduceIte, Nat.reduceEqDiff, Nat.reduceAdd, Nat.reduceLT, Nat.reduceLeDiff, Nat.reduceBEq, Nat.reduceMul, Nat.reduceSub, Nat.reduceDiv, Int.reduceNeg, Int.reduceLT, Int.reduceLE, Int.reduceEq, Int.reduceToNat, fillC, zc, List.replicate_succ, List.replicate_zero, List.flatten_cons, List.flatten_nil, toDs, toD, chunk, placeS, srcRows, List.all_cons, List.all_nil, List.all_map, Function.comp_def, List.take_nil, List.drop_nil, List.toList_toArray, C.eqbL, eqCs, eqC, List.drop_one, List.tail_cons, lim, lk11, GH, roadV, roadC]
  refine aops_pure' (fine32 r) rfl rfl (by first | exact wk_refls _ | (repeat constructor)) ?_
  cases hfi : fineB r with
  | false =>
    simp (config := { maxSteps := 2000000 }) only [go_sem, reduceIte, Nat.reduceEqDiff, Nat.reduceAdd, Nat.reduceLT, Nat.reduceLeDiff, Nat.reduceBEq, Nat.reduceMul, Nat.reduceSub, Nat.reduceDiv, Int.reduceNeg, Int.reduceLT, Int.reduceLE, Int.reduceEq, Int.reduceToNat, fillC, zc, List.replicate_succ, List.replicate_zero, List.flatten_cons, List.flatten_nil, toDs, toD, chunk, placeS, srcRows, List.all_cons, List.all_nil, List.all_map, Function.comp_def, List.take_nil, List.drop_nil, List.toList_toArray, C.eqbL, eqCs, eqC, List.drop_one, List.tail_cons, lim, lk11]
    refine aops_at (wa _) rfl rfl (by first | exact wk_refls _ | (repeat constructor)) ?_
    simp (config := { maxSteps := 2000000 }) only [go_sem, reduceIte, Nat.reduceEqDiff, Nat.reduceAdd, Nat.reduceLT, Nat.reduceLeDiff, Nat.reduceBEq, Nat.reduceMul, Nat.reduceSub, Nat.reduceDiv, Int.reduceNeg, Int.reduceLT, Int.reduceLE, Int.reduceEq, Int.reduceToNat, fillC, zc, List.replicate_succ, List.replicate_zero, List.flatten_cons, List.flatten_nil, toDs, toD, chunk, placeS, srcRows, List.all_cons, List.all_nil, List.all_map, Function.comp_def, List.take_nil, List.drop_nil, List.toList_toArray, C.eqbL, eqCs, eqC, List.drop_one, List.tail_cons, lim, lk11]
    exact ⟨_, rfl⟩
  | true =>
  simp (config := { maxSteps := 2000000 }) only [go_sem, reduceIte, Nat.reduceEqDiff, Nat.reduceAdd, Nat.reduceLT, Nat.reduceLeDiff, Nat.reduceBEq, Nat.reduceMul, Nat.reduceSub, Nat.reduceDiv, Int.reduceNeg, Int.reduceLT, Int.reduceLE, Int.reduceEq, Int.reduceToNat, fillC, zc, List.replicate_succ, List.replicate_zero, List.flatten_cons, List.flatten_nil, toDs, toD, chunk, placeS, srcRows, List.all_cons, List.all_nil, List.all_map, Function.comp_def, List.take_nil, List.drop_nil, List.toList_toArray, C.eqbL, eqCs, eqC, List.drop_one, List.tail_cons, lim, lk11]
  refine aops_pure' (fine32 s) rfl rfl (by first | exact wk_refls _ | (repeat constructor)) ?_
  cases hfs : fineB s with
  | false =>
    simp (config := { maxSteps := 2000000 }) only [go_sem, reduceIte, Nat.reduceEqDiff, Nat.reduceAdd, Nat.reduceLT, Nat.reduceLeDiff, Nat.reduceBEq, Nat.reduceMul, Nat.reduceSub, Nat.reduceDiv, Int.reduceNeg, Int.reduceLT, Int.reduceLE, Int.reduceEq, Int.reduceToNat, fillC, zc, List.replicate_succ, List.replicate_zero, List.flatten_cons, List.flatten_nil, toDs, toD, chunk, placeS, srcRows, List.all_cons, List.all_nil, List.all_map, Function.comp_def, List.take_nil, List.drop_nil, List.toList_toArray, C.eqbL, eqCs, eqC, List.drop_one, List.tail_cons, lim, lk11]
    refine aops_at (wa _) rfl rfl (by first | exact wk_refls _ | (repeat constructor)) ?_
    simp (config := { maxSteps := 2000000 }) only [go_sem, reduceIte, Nat.reduceEqDiff, Nat.reduceAdd, Nat.reduceLT, Nat.reduceLeDiff, Nat.reduceBEq, Nat.reduceMul, Nat.reduceSub, Nat.reduceDiv, Int.reduceNeg, Int.reduceLT, Int.reduceLE, Int.reduceEq, Int.reduceToNat, fillC, zc, List.replicate_succ, List.replicate_zero, List.flatten_cons, List.flatten_nil, toDs, toD, chunk, placeS, srcRows, List.all_cons, List.all_nil, List.all_map, Function.comp_def, List.take_nil, List.drop_nil, List.toList_toArray, C.eqbL, eqCs, eqC, List.drop_one, List.tail_cons, lim, lk11]
    exact ⟨_, rfl⟩
  | true =>
  have hr := okRoad_ok (fine_ok hfi)
  have hs := okRoad_ok (fine_ok hfs)
  have hrl := hr.len
  have hsl := hs.len
  have hall : (r.ps.all fun x => (pD x).length == 3) = true := List.all_eq_true.2 fun _ _ => rfl
  have hsz : decide ((r.ps.length + r.ps.length / 4 + 256) * 24 ≤ 281474976710656) = true := by simp; omega
  have hln : decide (r.ps.length ≤ 140737488355328) = true := by simp; omega
  have r1 := hr.p1
  have r40 := hr.p40
  have s1 := hs.p1
  have s40 := hs.p40
  have wpl : wr .i64 (r.pl + s.pl) = r.pl + s.pl := wr_id (by omega) (by omega)
  simp (config := { maxSteps := 2000000 }) only [go_sem, reduceIte, Nat.reduceEqDiff, Nat.reduceAdd, Nat.reduceLT, Nat.reduceLeDiff, Nat.reduceBEq, Nat.reduceMul, Nat.reduceSub, Nat.reduceDiv, Int.reduceNeg, Int.reduceLT, Int.reduceLE, Int.reduceEq, Int.reduceToNat, fillC, zc, List.replicate_succ, List.replicate_zero, List.flatten_cons, List.flatten_nil, toDs, toD, chunk, placeS, srcRows, List.all_cons, List.all_nil, List.all_map, Function.comp_def, List.take_nil, List.drop_nil, List.toList_toArray, C.eqbL, eqCs, eqC, List.drop_one, List.tail_cons, lim, lk11, hall, hsz, hln, lk11]
  refine ⟨pairsOk_ord (by kernel_rfl), ?_⟩
  refine de_own 3 r.ps.length 3 (fun H h => with37o r r.ps 3 r.ps.length 3 H h) rfl rfl rfl (by first | exact wk_refls _ | (repeat constructor)) ?_
  simp (config := { maxSteps := 2000000 }) only [go_sem, reduceIte, Nat.reduceEqDiff, Nat.reduceAdd, Nat.reduceLT, Nat.reduceLeDiff, Nat.reduceBEq, Nat.reduceMul, Nat.reduceSub, Nat.reduceDiv, Int.reduceNeg, Int.reduceLT, Int.reduceLE, Int.reduceEq, Int.reduceToNat, fillC, zc, List.replicate_succ, List.replicate_zero, List.flatten_cons, List.flatten_nil, toDs, toD, chunk, placeS, srcRows, List.all_cons, List.all_nil, List.all_map, Function.comp_def, List.take_nil, List.drop_nil, List.toList_toArray, C.eqbL, eqCs, eqC, List.drop_one, List.tail_cons, lim, lk11, roadOV]
  refine ⟨pairsOk_ord (by kernel_rfl), ?_⟩
  simp (config := { maxSteps := 2000000 }) only [go_sem, reduceIte, Nat.reduceEqDiff, Nat.reduceAdd, Nat.reduceLT, Nat.reduceLeDiff, Nat.reduceBEq, Nat.reduceMul, Nat.reduceSub, Nat.reduceDiv, Int.reduceNeg, Int.reduceLT, Int.reduceLE, Int.reduceEq, Int.reduceToNat, fillC, zc, List.replicate_succ, List.replicate_zero, List.flatten_cons, List.flatten_nil, toDs, toD, chunk, placeS, srcRows, List.all_cons, List.all_nil, List.all_map, Function.comp_def, List.take_nil, List.drop_nil, List.toList_toArray, C.eqbL, eqCs, eqC, List.drop_one, List.tail_cons, lim, lk11, wpl, lk11]
  have hlow : ∀ n l, [AB.gl 0 noneD, .cells (roadC r), .cells (roadC (likeR r s)), .grow n 3, .cells [.d (.int .i64 (r.pl + s.pl)), .d (.int .i64 r.de), .d (.int .i64 r.di), .own 3 l]].all (AB.low 5) = true := fun n l => by
    simp only [List.all_cons, List.all_nil, AB.low, roadC_low, Bool.and_self, C.lowL, C.low]; rfl
  refine goE_loop (bad := [3, 4]) (kp := kp11) (fun i : Nat => { slots := [(2, .c (.ptr 1 0)), (3, .c (.ptr 2 0)), (5, .c (.ptr 4 0)), (6, I i)], heap := [.gl 0 noneD, .cells (roadC r), .cells (roadC (likeR r s)), .grow (r.ps.length + i) 3, .cells [.d (.int .i64 (r.pl + s.pl)), .d (.int .i64 r.de), .d (.int .i64 r.di), .own 3 ((r.ps ++ (s.ps.take i).map (shiftP r.pl)).map pD)]], marks := [] }) (fun i => i ≤ s.ps.length) (fun i => s.ps.length - i) 0 mo (by kernel_rfl) ?_ (Nat.zero_le _) ?_
  · refine ent_weaken [] (by simp only [List.append_nil, roadC, likeR, List.take_zero, List.map_nil, Nat.add_zero]) rfl (show 1 ≤ 5 by decide) (hlow _ _) rfl ?_
    simp (config := { maxSteps := 2000000 }) only [go_sem, reduceIte, Nat.reduceEqDiff, Nat.reduceAdd, Nat.reduceLT, Nat.reduceLeDiff, Nat.reduceBEq, Nat.reduceMul, Nat.reduceSub, Nat.reduceDiv, Int.reduceNeg, Int.reduceLT, Int.reduceLE, Int.reduceEq, Int.reduceToNat, fillC, zc, List.replicate_succ, List.replicate_zero, List.flatten_cons, List.flatten_nil, toDs, toD, chunk, placeS, srcRows, List.all_cons, List.all_nil, List.all_map, Function.comp_def, List.take_nil, List.drop_nil, List.toList_toArray, C.eqbL, eqCs, eqC, List.drop_one, List.tail_cons, lim, lk11, roadC, likeR, List.take_zero, List.map_nil, List.append_nil, Nat.add_zero]
    try exact .refl _
  rintro i hi
  simp (config := { maxSteps := 2000000 }) only [go_sem, reduceIte, Nat.reduceEqDiff, Nat.reduceAdd, Nat.reduceLT, Nat.reduceLeDiff, Nat.reduceBEq, Nat.reduceMul, Nat.reduceSub, Nat.reduceDiv, Int.reduceNeg, Int.reduceLT, Int.reduceLE, Int.reduceEq, Int.reduceToNat, fillC, zc, List.replicate_succ, List.replicate_zero, List.flatten_cons, List.flatten_nil, toDs, toD, chunk, placeS, srcRows, List.all_cons, List.all_nil, List.all_map, Function.comp_def, List.take_nil, List.drop_nil, List.toList_toArray, C.eqbL, eqCs, eqC, List.drop_one, List.tail_cons, lim, lk11, roadC, likeR, lk11]
  refine goE_if (fun h => ?_) (fun h => ?_)
  · have hlt : i < s.ps.length := by simpa using h
    obtain ⟨p, hp⟩ := get_of_lt hlt
    obtain ⟨f0, f1, f2, f3, f4⟩ := hs.ok p (List.mem_of_getElem? hp)
    have hpm : (s.ps.map pD)[i]? = some [.int .i64 p.fr, .int .i64 p.to, .int .i64 p.co] := by rw [List.getElem?_map, hp]; rfl
    have cx : (decide ((0 : Int) ≤ (i : Int)) && decide ((i : Int) < (s.ps.length : Int))) = true := by simp; omega
    have w1 : wr .i64 (p.fr + r.pl) = p.fr + r.pl := wr_id (by omega) (by omega)
    have w2 : wr .i64 (p.to + r.pl) = p.to + r.pl := wr_id (by omega) (by omega)
    have htk : (s.ps.take i).length = i := by simp; omega
    simp (config := { maxSteps := 2000000 }) only [go_sem, reduceIte, Nat.reduceEqDiff, Nat.reduceAdd, Nat.reduceLT, Nat.reduceLeDiff, Nat.reduceBEq, Nat.reduceMul, Nat.reduceSub, Nat.reduceDiv, Int.reduceNeg, Int.reduceLT, Int.reduceLE, Int.reduceEq, Int.reduceToNat, fillC, zc, List.replicate_succ, List.replicate_zero, List.flatten_cons, List.flatten_nil, toDs, toD, chunk, placeS, srcRows, List.all_cons, List.all_nil, List.all_map, Function.comp_def, List.take_nil, List.drop_nil, List.toList_toArray, C.eqbL, eqCs, eqC, List.drop_one, List.tail_cons, lim, lk11, hpm, cx, w1, w2, htk, lk11]
    refine ⟨by simp [pD]; omega, ?_⟩
    simp (config := { maxSteps := 2000000 }) only [go_sem, reduceIte, Nat.reduceEqDiff, Nat.reduceAdd, Nat.reduceLT, Nat.reduceLeDiff, Nat.reduceBEq, Nat.reduceMul, Nat.reduceSub, Nat.reduceDiv, Int.reduceNeg, Int.reduceLT, Int.reduceLE, Int.reduceEq, Int.reduceToNat, fillC, zc, List.replicate_succ, List.replicate_zero, List.flatten_cons, List.flatten_nil, toDs, toD, chunk, placeS, srcRows, List.all_cons, List.all_nil, List.all_map, Function.comp_def, List.take_nil, List.drop_nil, List.toList_toArray, C.eqbL, eqCs, eqC, List.drop_one, List.tail_cons, lim, lk11, wr_succ hlt (show s.ps.length ≤ 140737488355328 by omega), htk, lk11]
    refine ⟨i + 1, hlt, by omega, ?_⟩
    have hgl : (r.ps ++ List.map (shiftP r.pl) (List.take i s.ps)).length + 1 = r.ps.length + (i + 1) := by simp; omega
    refine ent_weaken [.cells [.d (.int .i64 p.fr), .d (.int .i64 p.to), .d (.int .i64 p.co)]] (by simp only [hgl, List.cons_append, List.nil_append, roadC, likeR, take_succ_eq hp, List.map_append, List.map_cons, List.map_nil, List.append_assoc, pD, shiftP]) rfl (show 1 ≤ 5 by decide) (hlow _ _) rfl ?_
    simp (config := { maxSteps := 2000000 }) only [go_sem, reduceIte, Nat.reduceEqDiff, Nat.reduceAdd, Nat.reduceLT, Nat.reduceLeDiff, Nat.reduceBEq, Nat.reduceMul, Nat.reduceSub, Nat.reduceDiv, Int.reduceNeg, Int.reduceLT, Int.reduceLE, Int.reduceEq, Int.reduceToNat, fillC, zc, List.replicate_succ, List.replicate_zero, List.flatten_cons, List.flatten_nil, toDs, toD, chunk, placeS, srcRows, List.all_cons, List.all_nil, List.all_map, Function.comp_def, List.take_nil, List.drop_nil, List.toList_toArray, C.eqbL, eqCs, eqC, List.drop_one, List.tail_cons, lim, lk11, wr_succ hlt (show s.ps.length ≤ 140737488355328 by omega)]
    try exact .refl _
  · have hi' : i = s.ps.length := by simp at h; omega
    subst hi'
    have hx := fine32 (joinR r s)
    simp (config := { maxSteps := 2000000 }) only [go_sem, reduceIte, Nat.reduceEqDiff, Nat.reduceAdd, Nat.reduceLT, Nat.reduceLeDiff, Nat.reduceBEq, Nat.reduceMul, Nat.reduceSub, Nat.reduceDiv, Int.reduceNeg, Int.reduceLT, Int.reduceLE, Int.reduceEq, Int.reduceToNat, fillC, zc, List.replicate_succ, List.replicate_zero, List.flatten_cons, List.flatten_nil, toDs, toD, chunk, placeS, srcRows, List.all_cons, List.all_nil, List.all_map, Function.comp_def, List.take_nil, List.drop_nil, List.toList_toArray, C.eqbL, eqCs, eqC, List.drop_one, List.tail_cons, lim, lk11, List.take_length, lk11]
    generalize hfx : fineB (joinR r s) = bx at *
    simp only [roadV, roadC, joinR] at hx
    refine aops_pure' (hx) rfl rfl (by first | exact wk_refls _ | (repeat constructor)) ?_
    cases bx with
    | false =>
      simp (config := { maxSteps := 2000000 }) only [go_sem, reduceIte, Nat.reduceEqDiff, Nat.reduceAdd, Nat.reduceLT, Nat.reduceLeDiff, Nat.reduceBEq, Nat.reduceMul, Nat.reduceSub, Nat.reduceDiv, Int.reduceNeg, Int.reduceLT, Int.reduceLE, Int.reduceEq, Int.reduceToNat, fillC, zc, List.replicate_succ, List.replicate_zero, List.flatten_cons, List.flatten_nil, toDs, toD, chunk, placeS, srcRows, List.all_cons, List.all_nil, List.all_map, Function.comp_def, List.take_nil, List.drop_nil, List.toList_toArray, C.eqbL, eqCs, eqC, List.drop_one, List.tail_cons, lim, lk11]
      refine aops_at (wa _) rfl rfl (by first | exact wk_refls _ | (repeat constructor)) ?_
      simp (config := { maxSteps := 2000000 }) only [go_sem, reduceIte, Nat.reduceEqDiff, Nat.reduceAdd, Nat.reduceLT, Nat.reduceLeDiff, Nat.reduceBEq, Nat.reduceMul, Nat.reduceSub, Nat.reduceDiv, Int.reduceNeg, Int.reduceLT, Int.reduceLE, Int.reduceEq, Int.reduceToNat, fillC, zc, List.replicate_succ, List.replicate_zero, List.flatten_cons, List.flatten_nil, toDs, toD, chunk, placeS, srcRows, List.all_cons, List.all_nil, List.all_map, Function.comp_def, List.take_nil, List.drop_nil, List.toList_toArray, C.eqbL, eqCs, eqC, List.drop_one, List.tail_cons, lim, lk11]
      exact ⟨_, rfl⟩
    | true =>
    have hxx := okRoad_ok (fine_ok hfx)
    have hl := like_ok hr hs
    simp (config := { maxSteps := 2000000 }) only [go_sem, reduceIte, Nat.reduceEqDiff, Nat.reduceAdd, Nat.reduceLT, Nat.reduceLeDiff, Nat.reduceBEq, Nat.reduceMul, Nat.reduceSub, Nat.reduceDiv, Int.reduceNeg, Int.reduceLT, Int.reduceLE, Int.reduceEq, Int.reduceToNat, fillC, zc, List.replicate_succ, List.replicate_zero, List.flatten_cons, List.flatten_nil, toDs, toD, chunk, placeS, srcRows, List.all_cons, List.all_nil, List.all_map, Function.comp_def, List.take_nil, List.drop_nil, List.toList_toArray, C.eqbL, eqCs, eqC, List.drop_one, List.tail_cons, lim, lk11, lk11]
    rcases told_least hr with ⟨c1, n1, pr1, t1, b1, l1⟩ | ⟨t1, l1⟩
    · rcases told_least hl with ⟨c2, n2, pr2, t2, b2, l2⟩ | ⟨t2, l2⟩
      · have l3 := least_join hr hs l1 l2
        rcases told_least hxx with ⟨c3, n3, pr3, t3, b3, l4⟩ | ⟨t3, l4⟩
        · obtain rfl := l3.uniq l4
          have g1 := costP_bound hr (ind_bnd c1) r.ps.length (Nat.le_refl _)
          have g2 := costP_bound hl (ind_bnd c2) s.ps.length (Nat.le_refl _)
          have g3 : costP r (ind c1) r.ps.length = n1 := b1.cost
          have g4 : costP (likeR r s) (ind c2) s.ps.length = n2 := b2.cost
          rw [g3] at g1
          rw [g4] at g2
          have wn : wr .i64 (n1 + n2) = n1 + n2 := wr_id (by omega) (by omega)
          have p1 := t1.che.frame rfl rfl rfl (joinT r s)
          have p2 := t2.che.frame rfl rfl rfl (joinT r s)
          have p3 := t3.che.frame rfl rfl rfl (joinT r s)
          simp only [GH, joinT, roadV, roadC, likeR, joinR, List.cons_append, List.nil_append] at p1 p2 p3
          refine aops_at (p1) rfl rfl (by first | exact wk_refls _ | (repeat constructor)) ?_
          simp (config := { maxSteps := 2000000 }) only [go_sem, reduceIte, Nat.reduceEqDiff, Nat.reduceAdd, Nat.reduceLT, Nat.reduceLeDiff, Nat.reduceBEq, Nat.reduceMul, Nat.reduceSub, Nat.reduceDiv, Int.reduceNeg, Int.reduceLT, Int.reduceLE, Int.reduceEq, Int.reduceToNat, fillC, zc, List.replicate_succ, List.replicate_zero, List.flatten_cons, List.flatten_nil, toDs, toD, chunk, placeS, srcRows, List.all_cons, List.all_nil, List.all_map, Function.comp_def, List.take_nil, List.drop_nil, List.toList_toArray, C.eqbL, eqCs, eqC, List.drop_one, List.tail_cons, lim, lk11]
          refine aops_at (p2) rfl rfl (by first | exact wk_refls _ | (repeat constructor)) ?_
          simp (config := { maxSteps := 2000000 }) only [go_sem, reduceIte, Nat.reduceEqDiff, Nat.reduceAdd, Nat.reduceLT, Nat.reduceLeDiff, Nat.reduceBEq, Nat.reduceMul, Nat.reduceSub, Nat.reduceDiv, Int.reduceNeg, Int.reduceLT, Int.reduceLE, Int.reduceEq, Int.reduceToNat, fillC, zc, List.replicate_succ, List.replicate_zero, List.flatten_cons, List.flatten_nil, toDs, toD, chunk, placeS, srcRows, List.all_cons, List.all_nil, List.all_map, Function.comp_def, List.take_nil, List.drop_nil, List.toList_toArray, C.eqbL, eqCs, eqC, List.drop_one, List.tail_cons, lim, lk11]
          refine aops_at (p3) rfl rfl (by first | exact wk_refls _ | (repeat constructor)) ?_
          simp (config := { maxSteps := 2000000 }) only [go_sem, reduceIte, Nat.reduceEqDiff, Nat.reduceAdd, Nat.reduceLT, Nat.reduceLeDiff, Nat.reduceBEq, Nat.reduceMul, Nat.reduceSub, Nat.reduceDiv, Int.reduceNeg, Int.reduceLT, Int.reduceLE, Int.reduceEq, Int.reduceToNat, fillC, zc, List.replicate_succ, List.replicate_zero, List.flatten_cons, List.flatten_nil, toDs, toD, chunk, placeS, srcRows, List.all_cons, List.all_nil, List.all_map, Function.comp_def, List.take_nil, List.drop_nil, List.toList_toArray, C.eqbL, eqCs, eqC, List.drop_one, List.tail_cons, lim, lk11, wn]
          refine aops_at (wa _) rfl rfl (by first | exact wk_refls _ | (repeat constructor)) ?_
          simp (config := { maxSteps := 2000000 }) only [go_sem, reduceIte, Nat.reduceEqDiff, Nat.reduceAdd, Nat.reduceLT, Nat.reduceLeDiff, Nat.reduceBEq, Nat.reduceMul, Nat.reduceSub, Nat.reduceDiv, Int.reduceNeg, Int.reduceLT, Int.reduceLE, Int.reduceEq, Int.reduceToNat, fillC, zc, List.replicate_succ, List.replicate_zero, List.flatten_cons, List.flatten_nil, toDs, toD, chunk, placeS, srcRows, List.all_cons, List.all_nil, List.all_map, Function.comp_def, List.take_nil, List.drop_nil, List.toList_toArray, C.eqbL, eqCs, eqC, List.drop_one, List.tail_cons, lim, lk11]
          exact ⟨_, rfl⟩
        · obtain ⟨st, h01, h, _⟩ := l3.some
          exact absurd h (l4 st h01)
      · rcases told_least hxx with ⟨c3, n3, pr3, t3, b3, l4⟩ | ⟨t3, l4⟩
        · obtain ⟨st, h01, h, _⟩ := l4.some
          exact absurd ((hold_join hr hs st).1 h).2 (l2 _ (fun i => h01 _))
        · skip
          have p1 := t1.che.frame rfl rfl rfl (joinT r s)
          have p2 := t2.che.frame rfl rfl rfl (joinT r s)
          have p3 := t3.che.frame rfl rfl rfl (joinT r s)
          simp only [GH, joinT, roadV, roadC, likeR, joinR, List.cons_append, List.nil_append] at p1 p2 p3
          refine aops_at (p1) rfl rfl (by first | exact wk_refls _ | (repeat constructor)) ?_
          simp (config := { maxSteps := 2000000 }) only [go_sem, reduceIte, Nat.reduceEqDiff, Nat.reduceAdd, Nat.reduceLT, Nat.reduceLeDiff, Nat.reduceBEq, Nat.reduceMul, Nat.reduceSub, Nat.reduceDiv, Int.reduceNeg, Int.reduceLT, Int.reduceLE, Int.reduceEq, Int.reduceToNat, fillC, zc, List.replicate_succ, List.replicate_zero, List.flatten_cons, List.flatten_nil, toDs, toD, chunk, placeS, srcRows, List.all_cons, List.all_nil, List.all_map, Function.comp_def, List.take_nil, List.drop_nil, List.toList_toArray, C.eqbL, eqCs, eqC, List.drop_one, List.tail_cons, lim, lk11]
          refine aops_at (p2) rfl rfl (by first | exact wk_refls _ | (repeat constructor)) ?_
          simp (config := { maxSteps := 2000000 }) only [go_sem, reduceIte, Nat.reduceEqDiff, Nat.reduceAdd, Nat.reduceLT, Nat.reduceLeDiff, Nat.reduceBEq, Nat.reduceMul, Nat.reduceSub, Nat.reduceDiv, Int.reduceNeg, Int.reduceLT, Int.reduceLE, Int.reduceEq, Int.reduceToNat, fillC, zc, List.replicate_succ, List.replicate_zero, List.flatten_cons, List.flatten_nil, toDs, toD, chunk, placeS, srcRows, List.all_cons, List.all_nil, List.all_map, Function.comp_def, List.take_nil, List.drop_nil, List.toList_toArray, C.eqbL, eqCs, eqC, List.drop_one, List.tail_cons, lim, lk11]
          refine aops_at (p3) rfl rfl (by first | exact wk_refls _ | (repeat constructor)) ?_
          simp (config := { maxSteps := 2000000 }) only [go_sem, reduceIte, Nat.reduceEqDiff, Nat.reduceAdd, Nat.reduceLT, Nat.reduceLeDiff, Nat.reduceBEq, Nat.reduceMul, Nat.reduceSub, Nat.reduceDiv, Int.reduceNeg, Int.reduceLT, Int.reduceLE, Int.reduceEq, Int.reduceToNat, fillC, zc, List.replicate_succ, List.replicate_zero, List.flatten_cons, List.flatten_nil, toDs, toD, chunk, placeS, srcRows, List.all_cons, List.all_nil, List.all_map, Function.comp_def, List.take_nil, List.drop_nil, List.toList_toArray, C.eqbL, eqCs, eqC, List.drop_one, List.tail_cons, lim, lk11]
          refine aops_at (wa _) rfl rfl (by first | exact wk_refls _ | (repeat constructor)) ?_
          simp (config := { maxSteps := 2000000 }) only [go_sem, reduceIte, Nat.reduceEqDiff, Nat.reduceAdd, Nat.reduceLT, Nat.reduceLeDiff, Nat.reduceBEq, Nat.reduceMul, Nat.reduceSub, Nat.reduceDiv, Int.reduceNeg, Int.reduceLT, Int.reduceLE, Int.reduceEq, Int.reduceToNat, fillC, zc, List.replicate_succ, List.replicate_zero, List.flatten_cons, List.flatten_nil, toDs, toD, chunk, placeS, srcRows, List.all_cons, List.all_nil, List.all_map, Function.comp_def, List.take_nil, List.drop_nil, List.toList_toArray, C.eqbL, eqCs, eqC, List.drop_one, List.tail_cons, lim, lk11]
          exact ⟨_, rfl⟩
    · rcases told_least hxx with ⟨c3, n3, pr3, t3, b3, l4⟩ | ⟨t3, l4⟩
      · obtain ⟨st, h01, h, _⟩ := l4.some
        exact absurd ((hold_join hr hs st).1 h).1 (l1 _ h01)
      · rcases told_least hl with ⟨c2, n2, pr2, t2, b2, l2⟩ | ⟨t2, l2⟩
        · skip
          have p1 := t1.che.frame rfl rfl rfl (joinT r s)
          have p2 := t2.che.frame rfl rfl rfl (joinT r s)
          have p3 := t3.che.frame rfl rfl rfl (joinT r s)
          simp only [GH, joinT, roadV, roadC, likeR, joinR, List.cons_append, List.nil_append] at p1 p2 p3
          refine aops_at (p1) rfl rfl (by first | exact wk_refls _ | (repeat constructor)) ?_
          simp (config := { maxSteps := 2000000 }) only [go_sem, reduceIte, Nat.reduceEqDiff, Nat.reduceAdd, Nat.reduceLT, Nat.reduceLeDiff, Nat.reduceBEq, Nat.reduceMul, Nat.reduceSub, Nat.reduceDiv, Int.reduceNeg, Int.reduceLT, Int.reduceLE, Int.reduceEq, Int.reduceToNat, fillC, zc, List.replicate_succ, List.replicate_zero, List.flatten_cons, List.flatten_nil, toDs, toD, chunk, placeS, srcRows, List.all_cons, List.all_nil, List.all_map, Function.comp_def, List.take_nil, List.drop_nil, List.toList_toArray, C.eqbL, eqCs, eqC, List.drop_one, List.tail_cons, lim, lk11]
          refine aops_at (p2) rfl rfl (by first | exact wk_refls _ | (repeat constructor)) ?_
          simp (config := { maxSteps := 2000000 }) only [go_sem, reduceIte, Nat.reduceEqDiff, Nat.reduceAdd, Nat.reduceLT, Nat.reduceLeDiff, Nat.reduceBEq, Nat.reduceMul, Nat.reduceSub, Nat.reduceDiv, Int.reduceNeg, Int.reduceLT, Int.reduceLE, Int.reduceEq, Int.reduceToNat, fillC, zc, List.replicate_succ, List.replicate_zero, List.flatten_cons, List.flatten_nil, toDs, toD, chunk, placeS, srcRows, List.all_cons, List.all_nil, List.all_map, Function.comp_def, List.take_nil, List.drop_nil, List.toList_toArray, C.eqbL, eqCs, eqC, List.drop_one, List.tail_cons, lim, lk11]
          refine aops_at (p3) rfl rfl (by first | exact wk_refls _ | (repeat constructor)) ?_
          simp (config := { maxSteps := 2000000 }) only [go_sem, reduceIte, Nat.reduceEqDiff, Nat.reduceAdd, Nat.reduceLT, Nat.reduceLeDiff, Nat.reduceBEq, Nat.reduceMul, Nat.reduceSub, Nat.reduceDiv, Int.reduceNeg, Int.reduceLT, Int.reduceLE, Int.reduceEq, Int.reduceToNat, fillC, zc, List.replicate_succ, List.replicate_zero, List.flatten_cons, List.flatten_nil, toDs, toD, chunk, placeS, srcRows, List.all_cons, List.all_nil, List.all_map, Function.comp_def, List.take_nil, List.drop_nil, List.toList_toArray, C.eqbL, eqCs, eqC, List.drop_one, List.tail_cons, lim, lk11]
          refine aops_at (wa _) rfl rfl (by first | exact wk_refls _ | (repeat constructor)) ?_
          simp (config := { maxSteps := 2000000 }) only [go_sem, reduceIte, Nat.reduceEqDiff, Nat.reduceAdd, Nat.reduceLT, Nat.reduceLeDiff, Nat.reduceBEq, Nat.reduceMul, Nat.reduceSub, Nat.reduceDiv, Int.reduceNeg, Int.reduceLT, Int.reduceLE, Int.reduceEq, Int.reduceToNat, fillC, zc, List.replicate_succ, List.replicate_zero, List.flatten_cons, List.flatten_nil, toDs, toD, chunk, placeS, srcRows, List.all_cons, List.all_nil, List.all_map, Function.comp_def, List.take_nil, List.drop_nil, List.toList_toArray, C.eqbL, eqCs, eqC, List.drop_one, List.tail_cons, lim, lk11]
          exact ⟨_, rfl⟩
        · skip
          have p1 := t1.che.frame rfl rfl rfl (joinT r s)
          have p2 := t2.che.frame rfl rfl rfl (joinT r s)
          have p3 := t3.che.frame rfl rfl rfl (joinT r s)
          simp only [GH, joinT, roadV, roadC, likeR, joinR, List.cons_append, List.nil_append] at p1 p2 p3
          refine aops_at (p1) rfl rfl (by first | exact wk_refls _ | (repeat constructor)) ?_
          simp (config := { maxSteps := 2000000 }) only [go_sem, reduceIte, Nat.reduceEqDiff, Nat.reduceAdd, Nat.reduceLT, Nat.reduceLeDiff, Nat.reduceBEq, Nat.reduceMul, Nat.reduceSub, Nat.reduceDiv, Int.reduceNeg, Int.reduceLT, Int.reduceLE, Int.reduceEq, Int.reduceToNat, fillC, zc, List.replicate_succ, List.replicate_zero, List.flatten_cons, List.flatten_nil, toDs, toD, chunk, placeS, srcRows, List.all_cons, List.all_nil, List.all_map, Function.comp_def, List.take_nil, List.drop_nil, List.toList_toArray, C.eqbL, eqCs, eqC, List.drop_one, List.tail_cons, lim, lk11]
          refine aops_at (p2) rfl rfl (by first | exact wk_refls _ | (repeat constructor)) ?_
          simp (config := { maxSteps := 2000000 }) only [go_sem, reduceIte, Nat.reduceEqDiff, Nat.reduceAdd, Nat.reduceLT, Nat.reduceLeDiff, Nat.reduceBEq, Nat.reduceMul, Nat.reduceSub, Nat.reduceDiv, Int.reduceNeg, Int.reduceLT, Int.reduceLE, Int.reduceEq, Int.reduceToNat, fillC, zc, List.replicate_succ, List.replicate_zero, List.flatten_cons, List.flatten_nil, toDs, toD, chunk, placeS, srcRows, List.all_cons, List.all_nil, List.all_map, Function.comp_def, List.take_nil, List.drop_nil, List.toList_toArray, C.eqbL, eqCs, eqC, List.drop_one, List.tail_cons, lim, lk11]
          refine aops_at (p3) rfl rfl (by first | exact wk_refls _ | (repeat constructor)) ?_
          simp (config := { maxSteps := 2000000 }) only [go_sem, reduceIte, Nat.reduceEqDiff, Nat.reduceAdd, Nat.reduceLT, Nat.reduceLeDiff, Nat.reduceBEq, Nat.reduceMul, Nat.reduceSub, Nat.reduceDiv, Int.reduceNeg, Int.reduceLT, Int.reduceLE, Int.reduceEq, Int.reduceToNat, fillC, zc, List.replicate_succ, List.replicate_zero, List.flatten_cons, List.flatten_nil, toDs, toD, chunk, placeS, srcRows, List.all_cons, List.all_nil, List.all_map, Function.comp_def, List.take_nil, List.drop_nil, List.toList_toArray, C.eqbL, eqCs, eqC, List.drop_one, List.tail_cons, lim, lk11]
          refine aops_at (wa _) rfl rfl (by first | exact wk_refls _ | (repeat constructor)) ?_
          simp (config := { maxSteps := 2000000 }) only [go_sem, reduceIte, Nat.reduceEqDiff, Nat.reduceAdd, Nat.reduceLT, Nat.reduceLeDiff, Nat.reduceBEq, Nat.reduceMul, Nat.reduceSub, Nat.reduceDiv, Int.reduceNeg, Int.reduceLT, Int.reduceLE, Int.reduceEq, Int.reduceToNat, fillC, zc, List.replicate_succ, List.replicate_zero, List.flatten_cons, List.flatten_nil, toDs, toD, chunk, placeS, srcRows, List.all_cons, List.all_nil, List.all_map, Function.comp_def, List.take_nil, List.drop_nil, List.toList_toArray, C.eqbL, eqCs, eqC, List.drop_one, List.tail_cons, lim, lk11]
          exact ⟨_, rfl⟩
end Go.Proofs.YteamgbndnfjoaaaDoor
