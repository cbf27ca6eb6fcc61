/- The law AtlasMade. -/
import Derived.Test.YtklmpopomokglaaY13
import Derived.Test.YtklmpopomokglaaW1
import Derived.Test.YtklmpopomokglaaV1
import Derived.Test.YtklmpopomokglaaV2
import Derived.Test.YtklmpopomokglaaV3
import Derived.Test.YtklmpopomokglaaV4
import Derived.Test.YtklmpopomokglaaV5
set_option linter.unusedSimpArgs false
set_option linter.unusedVariables false
namespace Go.Proofs.Ytklmpopomokglaa
open Go Go.Abs Go.Proofs
def kp8 : List (Nat × List Nat) := [(0, [0, 1]), (1, [1, 5]), (2, [1, 5, 6, 7]), (3, [1, 5, 6, 7, 8, 9]), (4, [1, 5, 6, 7, 8, 9, 29]), (5, [4]), (6, [1, 6, 78]), (7, [4]), (8, [1, 6, 7]), (9, [6, 7, 10]), (10, [6, 7, 9, 10, 11]), (11, [7, 9, 10, 12, 13]), (12, [4])]
theorem lk8 : lookK kp8 0 = some [0, 1] ∧ lookK kp8 1 = some [1, 5] ∧ lookK kp8 2 = some [1, 5, 6, 7] ∧ lookK kp8 3 = some [1, 5, 6, 7, 8, 9] ∧ lookK kp8 4 = some [1, 5, 6, 7, 8, 9, 29] ∧ lookK kp8 5 = some [4] ∧ lookK kp8 6 = some [1, 6, 78] ∧ lookK kp8 7 = some [4] ∧ lookK kp8 8 = some [1, 6, 7] ∧ lookK kp8 9 = some [6, 7, 10] ∧ lookK kp8 10 = some [6, 7, 9, 10, 11] ∧ lookK kp8 11 = some [7, 9, 10, 12, 13] ∧ lookK kp8 12 = some [4] := ⟨rfl, rfl, rfl, rfl, rfl, rfl, rfl, rfl, rfl, rfl, rfl, rfl, rfl⟩
theorem fewE_ok2 {n : Int} {rows : List (List Int)} (hp : OkP n rows) : fewE n = if n < 3 then 5 else 0 := by
  have := hp.n1
  have := hp.n39
  exact if_neg (by omega)
theorem made_of {n : Nat} (h : madeB n = true) : Abs.Pure Try.prog 35 [I n] (.tup [planV n (mkR n), I 0]) :=
  pure_res (X := tx) vkL ktT 3000 mo vkOk (isV_eq h) rfl
theorem made_some (n : Nat) (h1 : 3 ≤ n) (h2 : n ≤ 39) : madeB n = true := by
  have h : n = 3 ∨ n = 4 ∨ n = 5 ∨ n = 6 ∨ n = 7 ∨ n = 8 ∨ n = 9 ∨ n = 10 ∨ n = 11 ∨ n = 12 ∨ n = 13 ∨ n = 14 ∨ n = 15 ∨ n = 16 ∨ n = 17 ∨ n = 18 ∨ n = 19 ∨ n = 20 ∨ n = 21 ∨ n = 22 ∨ n = 23 ∨ n = 24 ∨ n = 25 ∨ n = 26 ∨ n = 27 ∨ n = 28 ∨ n = 29 ∨ n = 30 ∨ n = 31 ∨ n = 32 ∨ n = 33 ∨ n = 34 ∨ n = 35 ∨ n = 36 ∨ n = 37 ∨ n = 38 ∨ n = 39 := by omega
  rcases h with rfl | rfl | rfl | rfl | rfl | rfl | rfl | rfl | rfl | rfl | rfl | rfl | rfl | rfl | rfl | rfl | rfl | rfl | rfl | rfl | rfl | rfl | rfl | rfl | rfl | rfl | rfl | rfl | rfl | rfl | rfl | rfl | rfl | rfl | rfl | rfl | rfl
  · exact made3
  · exact made4
  · exact made5
  · exact made6
  · exact made7
  · exact made8
  · exact made9
  · exact made10
  · exact made11
  · exact made12
  · exact made13
  · exact made14
  · exact made15
  · exact made16
  · exact made17
  · exact made18
  · exact made19
  · exact made20
  · exact made21
  · exact made22
  · exact made23
  · exact made24
  · exact made25
  · exact made26
  · exact made27
  · exact made28
  · exact made29
  · exact made30
  · exact made31
  · exact made32
  · exact made33
  · exact made34
  · exact made35
  · exact made36
  · exact made37
  · exact made38
  · exact made39
def goodB (n : Nat) : Bool := decide (okPlan n (mkR n) = 0) && (!greatP (mkR n)) && tellsB (mkR n) n && decide (((mkR n).length : Int) = fewV n)
theorem good_all : ((List.range 40).drop 3).all goodB = true := by kernel_rfl
theorem good_at (n : Nat) (h1 : 3 ≤ n) (h2 : n ≤ 39) : goodB n = true := by
  refine List.all_eq_true.1 good_all n ?_
  rw [List.mem_iff_getElem?]
  exact ⟨n - 3, by rw [List.getElem?_drop, List.getElem?_range (by omega)]; congr 1; omega⟩
set_option maxHeartbeats 8000000 in
set_option maxRecDepth 100000 in
theorem madeLaw_pure (c b : Int) (h0 : 0 ≤ c) (h1 : c ≤ 255) (hb0 : 0 ≤ b) (hb : b ≤ 255) : Pure Try.prog 8 [.c (.d (.int .u8 c)), .c (.d (.int .u8 b))] (B true) := by
  refine pure_wkE (bad := []) (kp := kp8) (X := tx) (nt := 125) (rs := [.tmp 4]) Try.func8 rfl rfl rfl rfl mo (by kernel_rfl) rfl rfl (fun hf => ?_)
  have hw : wr .i64 c = c := by rw [wr_i64] <;> omega
  obtain ⟨n, hn⟩ : ∃ n : Nat, n = 1 + c.toNat % 39 := ⟨_, rfl⟩
  have hm : Int.tmod c 39 = (c.toNat % 39 : Nat) := by
    rw [Int.tmod_eq_emod_of_nonneg h0]; omega
  have hn1 : 1 ≤ n := by omega
  have hn39 : n ≤ 39 := by have := Nat.mod_lt c.toNat (show 0 < 39 by decide); omega
  have ha : wr .i64 (1 + ((c.toNat % 39 : Nat) : Int)) = (n : Int) := by rw [wr_i64] <;> omega
  simp (config := { maxSteps := 2000000 }) only [go_sem, reduceIte, Nat.reduceEqDiff, Nat.reduceAdd, Nat.reduceLT, Nat.reduceLeDiff, Nat.reduceBEq, Nat.reduceMul, Nat.reduceSub, Nat.reduceDiv, Int.reduceNeg, Int.reduceLT, Int.reduceLE, Int.reduceEq, Int.reduceToNat, fillC, zc, List.replicate_succ, List.replicate_zero, List.flatten_cons, List.flatten_nil, toDs, toD, chunk, placeS, srcRows, List.all_cons, List.all_nil, List.all_map, Function.comp_def, List.take_nil, List.drop_nil, List.toList_toArray, C.eqbL, eqCs, eqC, List.drop_one, List.tail_cons, lim, goE, contE_at, goE_t, goE_f, dE_nil, dE_cons, de_t, de_f, holed, m3of, countMk, makeOp, makes, appOp, appOwn, Option.isNone_none, Option.isNone_some, mutOp, storeOp, mkOf, MkK.at, AB.newB, C.freeL, C.free, effOf, footOf, quietOp, addN, Nat.le_refl, Bool.or_true, Bool.true_or, Bool.or_false, Bool.false_or, Bool.and_false, Bool.false_and, and_self, List.contains_cons, List.contains_nil, lk8, trimK, trimL, tt3, tt4, tt5, tt22, tt24, tt29, tt26, tt30, tt36, ti3, ti22, ti29, ti26, eq26, hw, hm, ha]
  by_cases h3 : n < 3
  · have hE : ∃ q : V, q = .tup [.agg [.d (.int .i64 0), .full []], I 5] ∧ Abs.Pure Try.prog 35 [I n] q := by
      have h12 : n = 1 ∨ n = 2 := by omega
      rcases h12 with e | e
      · subst e; exact ⟨_, rfl, pure_res (X := tx) vkL ktT 3000 mo vkOk (isV_eq made1) rfl⟩
      · subst e; exact ⟨_, rfl, pure_res (X := tx) vkL ktT 3000 mo vkOk (isV_eq made2) rfl⟩
    obtain ⟨q, rfl, hq⟩ := hE
    have hf1 : fewE (n : Int) = 5 := by
      have h12 : n = 1 ∨ n = 2 := by omega
      rcases h12 with e | e <;> subst e <;> rfl
    have hlt : decide ((n : Int) < 3) = true := by simp; omega
    have k0 : ((0 : Nat) : Int) = 0 := rfl
    refine aops_pure' (hq) rfl rfl (by first | exact wk_refls _ | (repeat constructor)) ?_
    simp (config := { maxSteps := 2000000 }) only [go_sem, reduceIte, Nat.reduceEqDiff, Nat.reduceAdd, Nat.reduceLT, Nat.reduceLeDiff, Nat.reduceBEq, Nat.reduceMul, Nat.reduceSub, Nat.reduceDiv, Int.reduceNeg, Int.reduceLT, Int.reduceLE, Int.reduceEq, Int.reduceToNat, fillC, zc, List.replicate_succ, List.replicate_zero, List.flatten_cons, List.flatten_nil, toDs, toD, chunk, placeS, srcRows, List.all_cons, List.all_nil, List.all_map, Function.comp_def, List.take_nil, List.drop_nil, List.toList_toArray, C.eqbL, eqCs, eqC, List.drop_one, List.tail_cons, lim, goE, contE_at, goE_t, goE_f, dE_nil, dE_cons, de_t, de_f, holed, m3of, countMk, makeOp, makes, appOp, appOwn, Option.isNone_none, Option.isNone_some, mutOp, storeOp, mkOf, MkK.at, AB.newB, C.freeL, C.free, effOf, footOf, quietOp, addN, Nat.le_refl, Bool.or_true, Bool.true_or, Bool.or_false, Bool.false_or, Bool.and_false, Bool.false_and, and_self, List.contains_cons, List.contains_nil, lk8, trimK, trimL, tt3, tt4, tt5, tt22, tt24, tt29, tt26, tt30, tt36, ti3, ti22, ti29, ti26, eq26]
    refine aops_pure' (few30 n) rfl rfl (by first | exact wk_refls _ | (repeat constructor)) ?_
    simp (config := { maxSteps := 2000000 }) only [go_sem, reduceIte, Nat.reduceEqDiff, Nat.reduceAdd, Nat.reduceLT, Nat.reduceLeDiff, Nat.reduceBEq, Nat.reduceMul, Nat.reduceSub, Nat.reduceDiv, Int.reduceNeg, Int.reduceLT, Int.reduceLE, Int.reduceEq, Int.reduceToNat, fillC, zc, List.replicate_succ, List.replicate_zero, List.flatten_cons, List.flatten_nil, toDs, toD, chunk, placeS, srcRows, List.all_cons, List.all_nil, List.all_map, Function.comp_def, List.take_nil, List.drop_nil, List.toList_toArray, C.eqbL, eqCs, eqC, List.drop_one, List.tail_cons, lim, goE, contE_at, goE_t, goE_f, dE_nil, dE_cons, de_t, de_f, holed, m3of, countMk, makeOp, makes, appOp, appOwn, Option.isNone_none, Option.isNone_some, mutOp, storeOp, mkOf, MkK.at, AB.newB, C.freeL, C.free, effOf, footOf, quietOp, addN, Nat.le_refl, Bool.or_true, Bool.true_or, Bool.or_false, Bool.false_or, Bool.and_false, Bool.false_and, and_self, List.contains_cons, List.contains_nil, lk8, trimK, trimL, tt3, tt4, tt5, tt22, tt24, tt29, tt26, tt30, tt36, ti3, ti22, ti29, ti26, eq26, two, hf1, hlt, k0]
    refine aops_pure' (works_pure) rfl rfl (by first | exact wk_refls _ | (repeat constructor)) ?_
    simp (config := { maxSteps := 2000000 }) only [go_sem, reduceIte, Nat.reduceEqDiff, Nat.reduceAdd, Nat.reduceLT, Nat.reduceLeDiff, Nat.reduceBEq, Nat.reduceMul, Nat.reduceSub, Nat.reduceDiv, Int.reduceNeg, Int.reduceLT, Int.reduceLE, Int.reduceEq, Int.reduceToNat, fillC, zc, List.replicate_succ, List.replicate_zero, List.flatten_cons, List.flatten_nil, toDs, toD, chunk, placeS, srcRows, List.all_cons, List.all_nil, List.all_map, Function.comp_def, List.take_nil, List.drop_nil, List.toList_toArray, C.eqbL, eqCs, eqC, List.drop_one, List.tail_cons, lim, goE, contE_at, goE_t, goE_f, dE_nil, dE_cons, de_t, de_f, holed, m3of, countMk, makeOp, makes, appOp, appOwn, Option.isNone_none, Option.isNone_some, mutOp, storeOp, mkOf, MkK.at, AB.newB, C.freeL, C.free, effOf, footOf, quietOp, addN, Nat.le_refl, Bool.or_true, Bool.true_or, Bool.or_false, Bool.false_or, Bool.and_false, Bool.false_and, and_self, List.contains_cons, List.contains_nil, lk8, trimK, trimL, tt3, tt4, tt5, tt22, tt24, tt29, tt26, tt30, tt36, ti3, ti22, ti29, ti26, eq26]
  · have hg := good_at n (by omega) hn39
    simp only [goodB, Bool.and_eq_true, decide_eq_true_eq, Bool.not_eq_true'] at hg
    obtain ⟨⟨⟨g1, g2⟩, g3⟩, g4⟩ := hg
    have hp := okPlan_ok g1
    have hfe : fewE (n : Int) = 0 := by rw [fewE_ok2 hp]; exact if_neg (by omega)
    have hfi : (!greatP (mkR n) && decide (okPlan n (mkR n) = 0)) = true := by rw [g2, g1]; rfl
    have hlt : decide ((n : Int) < 3) = false := by simp; omega
    have ht : tellsB (mkR n) (n : Int).toNat = true := by rw [Int.toNat_natCast]; exact g3
    have hm := faded_mem n b
    have hc := isCase_all hp hm
    have hr := rngB_seen hp (okC_all hp hm)
    have hone := tells_one ht hm
    have k1 : ((1 : Nat) : Int) = 1 := rfl
    have hpe : (decide ((faded n b).1 = (faded n b).1) && decide ((faded n b).2 = (faded n b).2)) = true := by simp
    refine aops_pure' (made_of (made_some n (by omega) hn39)) rfl rfl (by first | exact wk_refls _ | (repeat constructor)) ?_
    simp (config := { maxSteps := 2000000 }) only [go_sem, reduceIte, Nat.reduceEqDiff, Nat.reduceAdd, Nat.reduceLT, Nat.reduceLeDiff, Nat.reduceBEq, Nat.reduceMul, Nat.reduceSub, Nat.reduceDiv, Int.reduceNeg, Int.reduceLT, Int.reduceLE, Int.reduceEq, Int.reduceToNat, fillC, zc, List.replicate_succ, List.replicate_zero, List.flatten_cons, List.flatten_nil, toDs, toD, chunk, placeS, srcRows, List.all_cons, List.all_nil, List.all_map, Function.comp_def, List.take_nil, List.drop_nil, List.toList_toArray, C.eqbL, eqCs, eqC, List.drop_one, List.tail_cons, lim, goE, contE_at, goE_t, goE_f, dE_nil, dE_cons, de_t, de_f, holed, m3of, countMk, makeOp, makes, appOp, appOwn, Option.isNone_none, Option.isNone_some, mutOp, storeOp, mkOf, MkK.at, AB.newB, C.freeL, C.free, effOf, footOf, quietOp, addN, Nat.le_refl, Bool.or_true, Bool.true_or, Bool.or_false, Bool.false_or, Bool.and_false, Bool.false_and, and_self, List.contains_cons, List.contains_nil, lk8, trimK, trimL, tt3, tt4, tt5, tt22, tt24, tt29, tt26, tt30, tt36, ti3, ti22, ti29, ti26, eq26, planV, planC]
    refine aops_pure' (few30 n) rfl rfl (by first | exact wk_refls _ | (repeat constructor)) ?_
    simp (config := { maxSteps := 2000000 }) only [go_sem, reduceIte, Nat.reduceEqDiff, Nat.reduceAdd, Nat.reduceLT, Nat.reduceLeDiff, Nat.reduceBEq, Nat.reduceMul, Nat.reduceSub, Nat.reduceDiv, Int.reduceNeg, Int.reduceLT, Int.reduceLE, Int.reduceEq, Int.reduceToNat, fillC, zc, List.replicate_succ, List.replicate_zero, List.flatten_cons, List.flatten_nil, toDs, toD, chunk, placeS, srcRows, List.all_cons, List.all_nil, List.all_map, Function.comp_def, List.take_nil, List.drop_nil, List.toList_toArray, C.eqbL, eqCs, eqC, List.drop_one, List.tail_cons, lim, goE, contE_at, goE_t, goE_f, dE_nil, dE_cons, de_t, de_f, holed, m3of, countMk, makeOp, makes, appOp, appOwn, Option.isNone_none, Option.isNone_some, mutOp, storeOp, mkOf, MkK.at, AB.newB, C.freeL, C.free, effOf, footOf, quietOp, addN, Nat.le_refl, Bool.or_true, Bool.true_or, Bool.or_false, Bool.false_or, Bool.and_false, Bool.false_and, and_self, List.contains_cons, List.contains_nil, lk8, trimK, trimL, tt3, tt4, tt5, tt22, tt24, tt29, tt26, tt30, tt36, ti3, ti22, ti29, ti26, eq26, two, hfe, hlt]
    refine aops_pure' (fine32 n (mkR n)) rfl rfl (by first | exact wk_refls _ | (repeat constructor)) ?_
    simp (config := { maxSteps := 2000000 }) only [go_sem, reduceIte, Nat.reduceEqDiff, Nat.reduceAdd, Nat.reduceLT, Nat.reduceLeDiff, Nat.reduceBEq, Nat.reduceMul, Nat.reduceSub, Nat.reduceDiv, Int.reduceNeg, Int.reduceLT, Int.reduceLE, Int.reduceEq, Int.reduceToNat, fillC, zc, List.replicate_succ, List.replicate_zero, List.flatten_cons, List.flatten_nil, toDs, toD, chunk, placeS, srcRows, List.all_cons, List.all_nil, List.all_map, Function.comp_def, List.take_nil, List.drop_nil, List.toList_toArray, C.eqbL, eqCs, eqC, List.drop_one, List.tail_cons, lim, goE, contE_at, goE_t, goE_f, dE_nil, dE_cons, de_t, de_f, holed, m3of, countMk, makeOp, makes, appOp, appOwn, Option.isNone_none, Option.isNone_some, mutOp, storeOp, mkOf, MkK.at, AB.newB, C.freeL, C.free, effOf, footOf, quietOp, addN, Nat.le_refl, Bool.or_true, Bool.true_or, Bool.or_false, Bool.false_or, Bool.and_false, Bool.false_and, and_self, List.contains_cons, List.contains_nil, lk8, trimK, trimL, tt3, tt4, tt5, tt22, tt24, tt29, tt26, tt30, tt36, ti3, ti22, ti29, ti26, eq26, hfi, eq_self, g4]
    refine aops_pure' (tells27 n (mkR n) hp) rfl rfl (by first | exact wk_refls _ | (repeat constructor)) ?_
    simp (config := { maxSteps := 2000000 }) only [go_sem, reduceIte, Nat.reduceEqDiff, Nat.reduceAdd, Nat.reduceLT, Nat.reduceLeDiff, Nat.reduceBEq, Nat.reduceMul, Nat.reduceSub, Nat.reduceDiv, Int.reduceNeg, Int.reduceLT, Int.reduceLE, Int.reduceEq, Int.reduceToNat, fillC, zc, List.replicate_succ, List.replicate_zero, List.flatten_cons, List.flatten_nil, toDs, toD, chunk, placeS, srcRows, List.all_cons, List.all_nil, List.all_map, Function.comp_def, List.take_nil, List.drop_nil, List.toList_toArray, C.eqbL, eqCs, eqC, List.drop_one, List.tail_cons, lim, goE, contE_at, goE_t, goE_f, dE_nil, dE_cons, de_t, de_f, holed, m3of, countMk, makeOp, makes, appOp, appOwn, Option.isNone_none, Option.isNone_some, mutOp, storeOp, mkOf, MkK.at, AB.newB, C.freeL, C.free, effOf, footOf, quietOp, addN, Nat.le_refl, Bool.or_true, Bool.true_or, Bool.or_false, Bool.false_or, Bool.and_false, Bool.false_and, and_self, List.contains_cons, List.contains_nil, lk8, trimK, trimL, tt3, tt4, tt5, tt22, tt24, tt29, tt26, tt30, tt36, ti3, ti22, ti29, ti26, eq26, ht, g3]
    refine aops_pure' (clash26_tells n (mkR n) hp ht) rfl rfl (by first | exact wk_refls _ | (repeat constructor)) ?_
    simp (config := { maxSteps := 2000000 }) only [go_sem, reduceIte, Nat.reduceEqDiff, Nat.reduceAdd, Nat.reduceLT, Nat.reduceLeDiff, Nat.reduceBEq, Nat.reduceMul, Nat.reduceSub, Nat.reduceDiv, Int.reduceNeg, Int.reduceLT, Int.reduceLE, Int.reduceEq, Int.reduceToNat, fillC, zc, List.replicate_succ, List.replicate_zero, List.flatten_cons, List.flatten_nil, toDs, toD, chunk, placeS, srcRows, List.all_cons, List.all_nil, List.all_map, Function.comp_def, List.take_nil, List.drop_nil, List.toList_toArray, C.eqbL, eqCs, eqC, List.drop_one, List.tail_cons, lim, goE, contE_at, goE_t, goE_f, dE_nil, dE_cons, de_t, de_f, holed, m3of, countMk, makeOp, makes, appOp, appOwn, Option.isNone_none, Option.isNone_some, mutOp, storeOp, mkOf, MkK.at, AB.newB, C.freeL, C.free, effOf, footOf, quietOp, addN, Nat.le_refl, Bool.or_true, Bool.true_or, Bool.or_false, Bool.false_or, Bool.and_false, Bool.false_and, and_self, List.contains_cons, List.contains_nil, lk8, trimK, trimL, tt3, tt4, tt5, tt22, tt24, tt29, tt26, tt30, tt36, ti3, ti22, ti29, ti26, eq26, caseV, cC]
    refine aops_pure' (faded33 n (mkR n) b hp.n1 hp.n39 hb0 hb) rfl rfl (by first | exact wk_refls _ | (repeat constructor)) ?_
    simp (config := { maxSteps := 2000000 }) only [go_sem, reduceIte, Nat.reduceEqDiff, Nat.reduceAdd, Nat.reduceLT, Nat.reduceLeDiff, Nat.reduceBEq, Nat.reduceMul, Nat.reduceSub, Nat.reduceDiv, Int.reduceNeg, Int.reduceLT, Int.reduceLE, Int.reduceEq, Int.reduceToNat, fillC, zc, List.replicate_succ, List.replicate_zero, List.flatten_cons, List.flatten_nil, toDs, toD, chunk, placeS, srcRows, List.all_cons, List.all_nil, List.all_map, Function.comp_def, List.take_nil, List.drop_nil, List.toList_toArray, C.eqbL, eqCs, eqC, List.drop_one, List.tail_cons, lim, goE, contE_at, goE_t, goE_f, dE_nil, dE_cons, de_t, de_f, holed, m3of, countMk, makeOp, makes, appOp, appOwn, Option.isNone_none, Option.isNone_some, mutOp, storeOp, mkOf, MkK.at, AB.newB, C.freeL, C.free, effOf, footOf, quietOp, addN, Nat.le_refl, Bool.or_true, Bool.true_or, Bool.or_false, Bool.false_or, Bool.and_false, Bool.false_and, and_self, List.contains_cons, List.contains_nil, lk8, trimK, trimL, tt3, tt4, tt5, tt22, tt24, tt29, tt26, tt30, tt36, ti3, ti22, ti29, ti26, eq26, caseV, cC]
    refine aops_pure' (see16_ok n (mkR n) (faded n b) hp hc) rfl rfl (by first | exact wk_refls _ | (repeat constructor)) ?_
    simp (config := { maxSteps := 2000000 }) only [go_sem, reduceIte, Nat.reduceEqDiff, Nat.reduceAdd, Nat.reduceLT, Nat.reduceLeDiff, Nat.reduceBEq, Nat.reduceMul, Nat.reduceSub, Nat.reduceDiv, Int.reduceNeg, Int.reduceLT, Int.reduceLE, Int.reduceEq, Int.reduceToNat, fillC, zc, List.replicate_succ, List.replicate_zero, List.flatten_cons, List.flatten_nil, toDs, toD, chunk, placeS, srcRows, List.all_cons, List.all_nil, List.all_map, Function.comp_def, List.take_nil, List.drop_nil, List.toList_toArray, C.eqbL, eqCs, eqC, List.drop_one, List.tail_cons, lim, goE, contE_at, goE_t, goE_f, dE_nil, dE_cons, de_t, de_f, holed, m3of, countMk, makeOp, makes, appOp, appOwn, Option.isNone_none, Option.isNone_some, mutOp, storeOp, mkOf, MkK.at, AB.newB, C.freeL, C.free, effOf, footOf, quietOp, addN, Nat.le_refl, Bool.or_true, Bool.true_or, Bool.or_false, Bool.false_or, Bool.and_false, Bool.false_and, and_self, List.contains_cons, List.contains_nil, lk8, trimK, trimL, tt3, tt4, tt5, tt22, tt24, tt29, tt26, tt30, tt36, ti3, ti22, ti29, ti26, eq26]
    refine aops_pure' (cases21_ok n (mkR n) (seenL (mkR n) (faded n b)) hp (seen_len _ _)) rfl rfl (by first | exact wk_refls _ | (repeat constructor)) ?_
    simp (config := { maxSteps := 2000000 }) only [go_sem, reduceIte, Nat.reduceEqDiff, Nat.reduceAdd, Nat.reduceLT, Nat.reduceLeDiff, Nat.reduceBEq, Nat.reduceMul, Nat.reduceSub, Nat.reduceDiv, Int.reduceNeg, Int.reduceLT, Int.reduceLE, Int.reduceEq, Int.reduceToNat, fillC, zc, List.replicate_succ, List.replicate_zero, List.flatten_cons, List.flatten_nil, toDs, toD, chunk, placeS, srcRows, List.all_cons, List.all_nil, List.all_map, Function.comp_def, List.take_nil, List.drop_nil, List.toList_toArray, C.eqbL, eqCs, eqC, List.drop_one, List.tail_cons, lim, goE, contE_at, goE_t, goE_f, dE_nil, dE_cons, de_t, de_f, holed, m3of, countMk, makeOp, makes, appOp, appOwn, Option.isNone_none, Option.isNone_some, mutOp, storeOp, mkOf, MkK.at, AB.newB, C.freeL, C.free, effOf, footOf, quietOp, addN, Nat.le_refl, Bool.or_true, Bool.true_or, Bool.or_false, Bool.false_or, Bool.and_false, Bool.false_and, and_self, List.contains_cons, List.contains_nil, lk8, trimK, trimL, tt3, tt4, tt5, tt22, tt24, tt29, tt26, tt30, tt36, ti3, ti22, ti29, ti26, eq26, hr, hone, casesV, k1, cD, hpe]
    refine dops_pure' (works_pure) rfl rfl (by first | exact wk_refls _ | (repeat constructor)) (by kernel_rfl) ?_
    simp (config := { maxSteps := 2000000 }) only [go_sem, reduceIte, Nat.reduceEqDiff, Nat.reduceAdd, Nat.reduceLT, Nat.reduceLeDiff, Nat.reduceBEq, Nat.reduceMul, Nat.reduceSub, Nat.reduceDiv, Int.reduceNeg, Int.reduceLT, Int.reduceLE, Int.reduceEq, Int.reduceToNat, fillC, zc, List.replicate_succ, List.replicate_zero, List.flatten_cons, List.flatten_nil, toDs, toD, chunk, placeS, srcRows, List.all_cons, List.all_nil, List.all_map, Function.comp_def, List.take_nil, List.drop_nil, List.toList_toArray, C.eqbL, eqCs, eqC, List.drop_one, List.tail_cons, lim, goE, contE_at, goE_t, goE_f, dE_nil, dE_cons, de_t, de_f, holed, m3of, countMk, makeOp, makes, appOp, appOwn, Option.isNone_none, Option.isNone_some, mutOp, storeOp, mkOf, MkK.at, AB.newB, C.freeL, C.free, effOf, footOf, quietOp, addN, Nat.le_refl, Bool.or_true, Bool.true_or, Bool.or_false, Bool.false_or, Bool.and_false, Bool.false_and, and_self, List.contains_cons, List.contains_nil, lk8, trimK, trimL, tt3, tt4, tt5, tt22, tt24, tt29, tt26, tt30, tt36, ti3, ti22, ti29, ti26, eq26]
end Go.Proofs.Ytklmpopomokglaa
