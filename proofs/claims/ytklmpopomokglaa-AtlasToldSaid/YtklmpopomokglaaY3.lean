/- The reference of chapter 5, walked: All, Tells, CheckClash, Cases; the law's small functions. -/
import Derived.Test.YtklmpopomokglaaY2
set_option linter.unusedSimpArgs false
set_option linter.unusedVariables false
namespace Go.Proofs.Ytklmpopomokglaa
open Go Go.Abs Go.Proofs

def allL : Nat → List (Int × Int)
  | 0 => [(0, 0)]
  | k + 1 => allL k ++ [((k : Int), -1), ((k : Int), 1)]
theorem allL_len : ∀ k, (allL k).length = 2 * k + 1
  | 0 => rfl
  | k + 1 => by simp [allL, allL_len k]; omega
theorem allL_ok : ∀ (k : Nat) (n : Int), 1 ≤ n → (k : Int) ≤ n → ∀ c ∈ allL k, OkC n c
  | 0, n, h1, _, c, hc => by simp [allL] at hc; subst hc; exact ⟨by simp, by simp; omega, by simp, by simp⟩
  | k + 1, n, h1, h2, c, hc => by
    simp only [allL, List.mem_append, List.mem_cons, List.not_mem_nil, or_false] at hc
    rcases hc with hc | rfl | rfl
    · exact allL_ok k n h1 (by omega) c hc
    · exact ⟨by simp, by simp; omega, by simp, by simp⟩
    · exact ⟨by simp, by simp; omega, by simp, by simp⟩

set_option maxHeartbeats 1000000 in
theorem all52 (n : Int) (rows : List (List Int)) (h1 : 1 ≤ n) (h39 : n ≤ 39) : Pure Try.prog 52 [planV n rows] (casesV (allL n.toNat)) := by
  refine pure_wk (X := tx) (nt := 21) (rs := [.tmp 2]) Try.func52 rfl rfl rfl rfl mo (by kernel_rfl) rfl rfl (fun hf => ?_)
  simp only [go_sem, reduceIte, Nat.reduceEqDiff, Nat.reduceAdd, Nat.reduceLT, Nat.reduceLeDiff, Nat.reduceBEq, Nat.reduceMul, Nat.reduceSub, Int.reduceNeg, Int.reduceLT, Int.reduceLE, Int.reduceEq, Int.reduceToNat, fillC, zc, List.replicate_succ, List.replicate_zero, List.flatten_cons, List.flatten_nil, toDs, toD, chunk, placeS, srcRows, List.all_cons, List.all_nil, List.all_map, Function.comp_def, List.take_nil, List.drop_nil, List.toList_toArray, C.eqbL, eqCs, eqC, List.drop_one, List.tail_cons, lim, tt3, tt4, tt5, tt22, tt24, tt29, tt26, tt30, tt36, ti3, ti22, ti29, ti26, eq26, planV, planC]
  refine go_loop (fun k : Nat => { slots := [(1, .c (.ptr 0 0)), (3, .c (.own 1 ((allL k).map cD))), (4, I k)], heap := [.cells (planC n rows), .grow (2 * k + 1) 2], marks := [] }) (fun k => (k : Int) ≤ n) (fun k => n.toNat - k) 0 mo (by kernel_rfl) ?_ (by simp; omega) ?_
  · refine Ent.trans (ent_own 3 2 rfl) ?_
    refine ent_weaken [] rfl rfl (Nat.zero_le _) rfl rfl ?_
    simp only [go_sem, reduceIte, Nat.reduceEqDiff, Nat.reduceAdd, Nat.reduceLT, Nat.reduceLeDiff, Nat.reduceBEq, Nat.reduceMul, Nat.reduceSub, Int.reduceNeg, Int.reduceLT, Int.reduceLE, Int.reduceEq, Int.reduceToNat, fillC, zc, List.replicate_succ, List.replicate_zero, List.flatten_cons, List.flatten_nil, toDs, toD, chunk, placeS, srcRows, List.all_cons, List.all_nil, List.all_map, Function.comp_def, List.take_nil, List.drop_nil, List.toList_toArray, C.eqbL, eqCs, eqC, List.drop_one, List.tail_cons, lim, tt3, tt4, tt5, tt22, tt24, tt29, tt26, tt30, tt36, ti3, ti22, ti29, ti26, eq26, planC, allL, cD]
    exact .refl _
  rintro k hk
  have hl := allL_len k
  simp only [go_sem, reduceIte, Nat.reduceEqDiff, Nat.reduceAdd, Nat.reduceLT, Nat.reduceLeDiff, Nat.reduceBEq, Nat.reduceMul, Nat.reduceSub, Int.reduceNeg, Int.reduceLT, Int.reduceLE, Int.reduceEq, Int.reduceToNat, fillC, zc, List.replicate_succ, List.replicate_zero, List.flatten_cons, List.flatten_nil, toDs, toD, chunk, placeS, srcRows, List.all_cons, List.all_nil, List.all_map, Function.comp_def, List.take_nil, List.drop_nil, List.toList_toArray, C.eqbL, eqCs, eqC, List.drop_one, List.tail_cons, lim, tt3, tt4, tt5, tt22, tt24, tt29, tt26, tt30, tt36, ti3, ti22, ti29, ti26, eq26, planC]
  refine go_if (fun h => ?_) (fun h => ?_)
  · have hlt : (k : Int) < n := by simpa using h
    have hs : (allL (k + 1)).map cD = (allL k).map cD ++ [[.int .i64 k, .int .i64 (-1)], [.int .i64 k, .int .i64 1]] := by simp [allL, cD]
    simp only [go_sem, reduceIte, Nat.reduceEqDiff, Nat.reduceAdd, Nat.reduceLT, Nat.reduceLeDiff, Nat.reduceBEq, Nat.reduceMul, Nat.reduceSub, Int.reduceNeg, Int.reduceLT, Int.reduceLE, Int.reduceEq, Int.reduceToNat, fillC, zc, List.replicate_succ, List.replicate_zero, List.flatten_cons, List.flatten_nil, toDs, toD, chunk, placeS, srcRows, List.all_cons, List.all_nil, List.all_map, Function.comp_def, List.take_nil, List.drop_nil, List.toList_toArray, C.eqbL, eqCs, eqC, List.drop_one, List.tail_cons, lim, tt3, tt4, tt5, tt22, tt24, tt29, tt26, tt30, tt36, ti3, ti22, ti29, ti26, eq26, hl, cD]
    refine ⟨by simp; omega, k + 1, by omega, by omega, ?_⟩
    refine ent_weaken [] rfl rfl (Nat.zero_le _) rfl rfl ?_
    simp only [go_sem, reduceIte, Nat.reduceEqDiff, Nat.reduceAdd, Nat.reduceLT, Nat.reduceLeDiff, Nat.reduceBEq, Nat.reduceMul, Nat.reduceSub, Int.reduceNeg, Int.reduceLT, Int.reduceLE, Int.reduceEq, Int.reduceToNat, fillC, zc, List.replicate_succ, List.replicate_zero, List.flatten_cons, List.flatten_nil, toDs, toD, chunk, placeS, srcRows, List.all_cons, List.all_nil, List.all_map, Function.comp_def, List.take_nil, List.drop_nil, List.toList_toArray, C.eqbL, eqCs, eqC, List.drop_one, List.tail_cons, lim, tt3, tt4, tt5, tt22, tt24, tt29, tt26, tt30, tt36, ti3, ti22, ti29, ti26, eq26, hs, wr_succ (show k < 40 by omega) (by omega)]
  · have hk' : n.toNat = k := by simp at h; omega
    simp only [go_sem, reduceIte, Nat.reduceEqDiff, Nat.reduceAdd, Nat.reduceLT, Nat.reduceLeDiff, Nat.reduceBEq, Nat.reduceMul, Nat.reduceSub, Int.reduceNeg, Int.reduceLT, Int.reduceLE, Int.reduceEq, Int.reduceToNat, fillC, zc, List.replicate_succ, List.replicate_zero, List.flatten_cons, List.flatten_nil, toDs, toD, chunk, placeS, srcRows, List.all_cons, List.all_nil, List.all_map, Function.comp_def, List.take_nil, List.drop_nil, List.toList_toArray, C.eqbL, eqCs, eqC, List.drop_one, List.tail_cons, lim, tt3, tt4, tt5, tt22, tt24, tt29, tt26, tt30, tt36, ti3, ti22, ti29, ti26, eq26, casesV, hk']

def tellsB (rows : List (List Int)) (n : Nat) : Bool := decide ((allL n).map (seenL rows)).Nodup

theorem nodup_of {α : Type} {l : List α} (h : ∀ (i k : Nat) x y, k < i → l[i]? = some x → l[k]? = some y → x ≠ y) : l.Nodup := by
  refine List.pairwise_iff_getElem.2 fun i j hi hj hij he => ?_
  exact h j i _ _ hij (List.getElem?_eq_getElem hj) (List.getElem?_eq_getElem hi) he.symm
theorem not_nodup_of {α : Type} {l : List α} {i k : Nat} {x : α} (hki : k < i) (h1 : l[i]? = some x) (h2 : l[k]? = some x) : ¬ l.Nodup := by
  intro h
  obtain ⟨hi, e1⟩ := List.getElem?_eq_some_iff.1 h1
  obtain ⟨hk, e2⟩ := List.getElem?_eq_some_iff.1 h2
  exact List.pairwise_iff_getElem.1 h k i hk hi hki (by rw [e1, e2])

set_option maxHeartbeats 2000000 in
theorem tells27 (n : Int) (rows : List (List Int)) (hp : OkP n rows) : Pure Try.prog 27 [planV n rows] (B (tellsB rows n.toNat)) := by
  refine pure_wk (X := tx) (nt := 32) (rs := [.tmp 2]) Try.func27 rfl rfl rfl rfl mo (by kernel_rfl) rfl rfl (fun hf => ?_)
  have hn1 := hp.n1
  have hn39 := hp.n39
  have hok := allL_ok n.toNat n hp.n1 (by omega)
  have hlen := allL_len n.toNat
  have hget : ∀ i, ((allL n.toNat).map (seenL rows))[i]? = (allL n.toNat)[i]?.map (seenL rows) := fun i => List.getElem?_map ..
  simp only [go_sem, reduceIte, Nat.reduceEqDiff, Nat.reduceAdd, Nat.reduceLT, Nat.reduceLeDiff, Nat.reduceBEq, Nat.reduceMul, Nat.reduceSub, Int.reduceNeg, Int.reduceLT, Int.reduceLE, Int.reduceEq, Int.reduceToNat, fillC, zc, List.replicate_succ, List.replicate_zero, List.flatten_cons, List.flatten_nil, toDs, toD, chunk, placeS, srcRows, List.all_cons, List.all_nil, List.all_map, Function.comp_def, List.take_nil, List.drop_nil, List.toList_toArray, C.eqbL, eqCs, eqC, List.drop_one, List.tail_cons, lim, tt3, tt4, tt5, tt22, tt24, tt29, tt26, tt30, tt36, ti3, ti22, ti29, ti26, eq26, planV, planC]
  refine aops_pure' (all52 n rows hp.n1 hp.n39) rfl rfl (by first | exact wk_refls _ | (repeat constructor)) ?_
  simp only [go_sem, reduceIte, Nat.reduceEqDiff, Nat.reduceAdd, Nat.reduceLT, Nat.reduceLeDiff, Nat.reduceBEq, Nat.reduceMul, Nat.reduceSub, Int.reduceNeg, Int.reduceLT, Int.reduceLE, Int.reduceEq, Int.reduceToNat, fillC, zc, List.replicate_succ, List.replicate_zero, List.flatten_cons, List.flatten_nil, toDs, toD, chunk, placeS, srcRows, List.all_cons, List.all_nil, List.all_map, Function.comp_def, List.take_nil, List.drop_nil, List.toList_toArray, C.eqbL, eqCs, eqC, List.drop_one, List.tail_cons, lim, tt3, tt4, tt5, tt22, tt24, tt29, tt26, tt30, tt36, ti3, ti22, ti29, ti26, eq26, casesV]
  refine go_loop (fun i : Nat => { slots := [(1, .c (.ptr 0 0)), (3, casesV (allL n.toNat)), (4, I i)], heap := [.cells (planC n rows)], marks := [] })
    (fun i => i ≤ (allL n.toNat).length ∧ ∀ j k x y, k < j → j < i → (allL n.toNat)[j]? = some x → (allL n.toNat)[k]? = some y → seenL rows x ≠ seenL rows y) (fun i => (allL n.toNat).length - i) 0 mo (by kernel_rfl) ?_ ⟨Nat.zero_le _, by intro j k x y h1 h2; omega⟩ ?_
  · refine ent_weaken [] rfl rfl (Nat.zero_le _) rfl rfl ?_
    simp only [go_sem, reduceIte, Nat.reduceEqDiff, Nat.reduceAdd, Nat.reduceLT, Nat.reduceLeDiff, Nat.reduceBEq, Nat.reduceMul, Nat.reduceSub, Int.reduceNeg, Int.reduceLT, Int.reduceLE, Int.reduceEq, Int.reduceToNat, fillC, zc, List.replicate_succ, List.replicate_zero, List.flatten_cons, List.flatten_nil, toDs, toD, chunk, placeS, srcRows, List.all_cons, List.all_nil, List.all_map, Function.comp_def, List.take_nil, List.drop_nil, List.toList_toArray, C.eqbL, eqCs, eqC, List.drop_one, List.tail_cons, lim, tt3, tt4, tt5, tt22, tt24, tt29, tt26, tt30, tt36, ti3, ti22, ti29, ti26, eq26, planC, casesV]
    exact .refl _
  rintro i ⟨hi, hall⟩
  simp only [go_sem, reduceIte, Nat.reduceEqDiff, Nat.reduceAdd, Nat.reduceLT, Nat.reduceLeDiff, Nat.reduceBEq, Nat.reduceMul, Nat.reduceSub, Int.reduceNeg, Int.reduceLT, Int.reduceLE, Int.reduceEq, Int.reduceToNat, fillC, zc, List.replicate_succ, List.replicate_zero, List.flatten_cons, List.flatten_nil, toDs, toD, chunk, placeS, srcRows, List.all_cons, List.all_nil, List.all_map, Function.comp_def, List.take_nil, List.drop_nil, List.toList_toArray, C.eqbL, eqCs, eqC, List.drop_one, List.tail_cons, lim, tt3, tt4, tt5, tt22, tt24, tt29, tt26, tt30, tt36, ti3, ti22, ti29, ti26, eq26, planC, casesV]
  refine go_if (fun h => ?_) (fun h => ?_)
  · have hlt : i < (allL n.toNat).length := by simpa using h
    obtain ⟨x, hx⟩ := get_of_lt hlt
    simp only [go_sem, reduceIte, Nat.reduceEqDiff, Nat.reduceAdd, Nat.reduceLT, Nat.reduceLeDiff, Nat.reduceBEq, Nat.reduceMul, Nat.reduceSub, Int.reduceNeg, Int.reduceLT, Int.reduceLE, Int.reduceEq, Int.reduceToNat, fillC, zc, List.replicate_succ, List.replicate_zero, List.flatten_cons, List.flatten_nil, toDs, toD, chunk, placeS, srcRows, List.all_cons, List.all_nil, List.all_map, Function.comp_def, List.take_nil, List.drop_nil, List.toList_toArray, C.eqbL, eqCs, eqC, List.drop_one, List.tail_cons, lim, tt3, tt4, tt5, tt22, tt24, tt29, tt26, tt30, tt36, ti3, ti22, ti29, ti26, eq26]
    refine go_loop (fun k : Nat => { slots := [(1, .c (.ptr 0 0)), (3, casesV (allL n.toNat)), (4, I i), (5, I k)], heap := [.cells (planC n rows)], marks := [] })
      (fun k => k ≤ i ∧ ∀ j y, j < k → (allL n.toNat)[j]? = some y → seenL rows x ≠ seenL rows y) (fun k => i - k) 0 mo (by kernel_rfl) ?_ ⟨Nat.zero_le _, by intro j y h; omega⟩ ?_
    · refine ent_weaken [] rfl rfl (Nat.zero_le _) rfl rfl ?_
      simp only [go_sem, reduceIte, Nat.reduceEqDiff, Nat.reduceAdd, Nat.reduceLT, Nat.reduceLeDiff, Nat.reduceBEq, Nat.reduceMul, Nat.reduceSub, Int.reduceNeg, Int.reduceLT, Int.reduceLE, Int.reduceEq, Int.reduceToNat, fillC, zc, List.replicate_succ, List.replicate_zero, List.flatten_cons, List.flatten_nil, toDs, toD, chunk, placeS, srcRows, List.all_cons, List.all_nil, List.all_map, Function.comp_def, List.take_nil, List.drop_nil, List.toList_toArray, C.eqbL, eqCs, eqC, List.drop_one, List.tail_cons, lim, tt3, tt4, tt5, tt22, tt24, tt29, tt26, tt30, tt36, ti3, ti22, ti29, ti26, eq26, planC, casesV]
      exact .refl _
    rintro k ⟨hk, hin⟩
    simp only [go_sem, reduceIte, Nat.reduceEqDiff, Nat.reduceAdd, Nat.reduceLT, Nat.reduceLeDiff, Nat.reduceBEq, Nat.reduceMul, Nat.reduceSub, Int.reduceNeg, Int.reduceLT, Int.reduceLE, Int.reduceEq, Int.reduceToNat, fillC, zc, List.replicate_succ, List.replicate_zero, List.flatten_cons, List.flatten_nil, toDs, toD, chunk, placeS, srcRows, List.all_cons, List.all_nil, List.all_map, Function.comp_def, List.take_nil, List.drop_nil, List.toList_toArray, C.eqbL, eqCs, eqC, List.drop_one, List.tail_cons, lim, tt3, tt4, tt5, tt22, tt24, tt29, tt26, tt30, tt36, ti3, ti22, ti29, ti26, eq26, planC, casesV]
    refine go_if (fun h => ?_) (fun h => ?_)
    · have hkl : k < i := by simpa using h
      obtain ⟨y, hy⟩ := get_of_lt (show k < (allL n.toNat).length by omega)
      simp only [go_sem, reduceIte, Nat.reduceEqDiff, Nat.reduceAdd, Nat.reduceLT, Nat.reduceLeDiff, Nat.reduceBEq, Nat.reduceMul, Nat.reduceSub, Int.reduceNeg, Int.reduceLT, Int.reduceLE, Int.reduceEq, Int.reduceToNat, fillC, zc, List.replicate_succ, List.replicate_zero, List.flatten_cons, List.flatten_nil, toDs, toD, chunk, placeS, srcRows, List.all_cons, List.all_nil, List.all_map, Function.comp_def, List.take_nil, List.drop_nil, List.toList_toArray, C.eqbL, eqCs, eqC, List.drop_one, List.tail_cons, lim, tt3, tt4, tt5, tt22, tt24, tt29, tt26, tt30, tt36, ti3, ti22, ti29, ti26, eq26, hx, hy, cD]
      refine ⟨by simp [hlt], ?_⟩
      refine dops_pure' (seen41 n rows x hp (hok x (List.mem_of_getElem? hx))) rfl rfl (by first | exact wk_refls _ | (repeat constructor)) (by kernel_rfl) ?_
      simp only [go_sem, reduceIte, Nat.reduceEqDiff, Nat.reduceAdd, Nat.reduceLT, Nat.reduceLeDiff, Nat.reduceBEq, Nat.reduceMul, Nat.reduceSub, Int.reduceNeg, Int.reduceLT, Int.reduceLE, Int.reduceEq, Int.reduceToNat, fillC, zc, List.replicate_succ, List.replicate_zero, List.flatten_cons, List.flatten_nil, toDs, toD, chunk, placeS, srcRows, List.all_cons, List.all_nil, List.all_map, Function.comp_def, List.take_nil, List.drop_nil, List.toList_toArray, C.eqbL, eqCs, eqC, List.drop_one, List.tail_cons, lim, tt3, tt4, tt5, tt22, tt24, tt29, tt26, tt30, tt36, ti3, ti22, ti29, ti26, eq26, hx, hy, cD]
      refine ⟨by simp; omega, ?_⟩
      refine dops_pure' (seen41 n rows y hp (hok y (List.mem_of_getElem? hy))) rfl rfl (by first | exact wk_refls _ | (repeat constructor)) (by kernel_rfl) ?_
      simp only [go_sem, reduceIte, Nat.reduceEqDiff, Nat.reduceAdd, Nat.reduceLT, Nat.reduceLeDiff, Nat.reduceBEq, Nat.reduceMul, Nat.reduceSub, Int.reduceNeg, Int.reduceLT, Int.reduceLE, Int.reduceEq, Int.reduceToNat, fillC, zc, List.replicate_succ, List.replicate_zero, List.flatten_cons, List.flatten_nil, toDs, toD, chunk, placeS, srcRows, List.all_cons, List.all_nil, List.all_map, Function.comp_def, List.take_nil, List.drop_nil, List.toList_toArray, C.eqbL, eqCs, eqC, List.drop_one, List.tail_cons, lim, tt3, tt4, tt5, tt22, tt24, tt29, tt26, tt30, tt36, ti3, ti22, ti29, ti26, eq26]
      refine dops_pure' (same_pure (seenL rows x) (seenL rows y)) rfl rfl (by first | exact wk_refls _ | (repeat constructor)) (by kernel_rfl) ?_
      simp only [go_sem, reduceIte, Nat.reduceEqDiff, Nat.reduceAdd, Nat.reduceLT, Nat.reduceLeDiff, Nat.reduceBEq, Nat.reduceMul, Nat.reduceSub, Int.reduceNeg, Int.reduceLT, Int.reduceLE, Int.reduceEq, Int.reduceToNat, fillC, zc, List.replicate_succ, List.replicate_zero, List.flatten_cons, List.flatten_nil, toDs, toD, chunk, placeS, srcRows, List.all_cons, List.all_nil, List.all_map, Function.comp_def, List.take_nil, List.drop_nil, List.toList_toArray, C.eqbL, eqCs, eqC, List.drop_one, List.tail_cons, lim, tt3, tt4, tt5, tt22, tt24, tt29, tt26, tt30, tt36, ti3, ti22, ti29, ti26, eq26]
      refine go_if (fun hb => ?_) (fun hb => ?_)
      · have hb : seenL rows x = seenL rows y := by simpa using hb
        have : tellsB rows n.toNat = false := by
          simp only [tellsB, decide_eq_false_iff_not]
          exact not_nodup_of hkl (x := seenL rows x) (by rw [hget, hx]; rfl) (by rw [hget, hy, hb]; rfl)
        simp only [go_sem, reduceIte, Nat.reduceEqDiff, Nat.reduceAdd, Nat.reduceLT, Nat.reduceLeDiff, Nat.reduceBEq, Nat.reduceMul, Nat.reduceSub, Int.reduceNeg, Int.reduceLT, Int.reduceLE, Int.reduceEq, Int.reduceToNat, fillC, zc, List.replicate_succ, List.replicate_zero, List.flatten_cons, List.flatten_nil, toDs, toD, chunk, placeS, srcRows, List.all_cons, List.all_nil, List.all_map, Function.comp_def, List.take_nil, List.drop_nil, List.toList_toArray, C.eqbL, eqCs, eqC, List.drop_one, List.tail_cons, lim, tt3, tt4, tt5, tt22, tt24, tt29, tt26, tt30, tt36, ti3, ti22, ti29, ti26, eq26, this]
      · simp only [go_sem, reduceIte, Nat.reduceEqDiff, Nat.reduceAdd, Nat.reduceLT, Nat.reduceLeDiff, Nat.reduceBEq, Nat.reduceMul, Nat.reduceSub, Int.reduceNeg, Int.reduceLT, Int.reduceLE, Int.reduceEq, Int.reduceToNat, fillC, zc, List.replicate_succ, List.replicate_zero, List.flatten_cons, List.flatten_nil, toDs, toD, chunk, placeS, srcRows, List.all_cons, List.all_nil, List.all_map, Function.comp_def, List.take_nil, List.drop_nil, List.toList_toArray, C.eqbL, eqCs, eqC, List.drop_one, List.tail_cons, lim, tt3, tt4, tt5, tt22, tt24, tt29, tt26, tt30, tt36, ti3, ti22, ti29, ti26, eq26, wr_succ hkl (show i ≤ 140737488355328 by omega)]
        refine ⟨k + 1, ⟨hkl, upto_succ hin hy (by simpa using hb)⟩, by omega, ?_⟩
        refine ent_weaken [] rfl rfl (Nat.zero_le _) rfl rfl ?_
        simp only [go_sem, reduceIte, Nat.reduceEqDiff, Nat.reduceAdd, Nat.reduceLT, Nat.reduceLeDiff, Nat.reduceBEq, Nat.reduceMul, Nat.reduceSub, Int.reduceNeg, Int.reduceLT, Int.reduceLE, Int.reduceEq, Int.reduceToNat, fillC, zc, List.replicate_succ, List.replicate_zero, List.flatten_cons, List.flatten_nil, toDs, toD, chunk, placeS, srcRows, List.all_cons, List.all_nil, List.all_map, Function.comp_def, List.take_nil, List.drop_nil, List.toList_toArray, C.eqbL, eqCs, eqC, List.drop_one, List.tail_cons, lim, tt3, tt4, tt5, tt22, tt24, tt29, tt26, tt30, tt36, ti3, ti22, ti29, ti26, eq26]
    · have hk' : k = i := by simp at h; omega
      subst hk'
      simp only [go_sem, reduceIte, Nat.reduceEqDiff, Nat.reduceAdd, Nat.reduceLT, Nat.reduceLeDiff, Nat.reduceBEq, Nat.reduceMul, Nat.reduceSub, Int.reduceNeg, Int.reduceLT, Int.reduceLE, Int.reduceEq, Int.reduceToNat, fillC, zc, List.replicate_succ, List.replicate_zero, List.flatten_cons, List.flatten_nil, toDs, toD, chunk, placeS, srcRows, List.all_cons, List.all_nil, List.all_map, Function.comp_def, List.take_nil, List.drop_nil, List.toList_toArray, C.eqbL, eqCs, eqC, List.drop_one, List.tail_cons, lim, tt3, tt4, tt5, tt22, tt24, tt29, tt26, tt30, tt36, ti3, ti22, ti29, ti26, eq26, wr_succ hlt (show (allL n.toNat).length ≤ 140737488355328 by omega)]
      refine ⟨k + 1, ⟨hlt, ?_⟩, by omega, ?_⟩
      · intro j m a b h1 h2 ha hb
        rcases Nat.lt_succ_iff_lt_or_eq.1 h2 with h3 | h3
        · exact hall j m a b h1 h3 ha hb
        · subst h3; rw [hx] at ha; cases ha; exact hin m b h1 hb
      · refine ent_weaken [] rfl rfl (Nat.zero_le _) rfl rfl ?_
        simp only [go_sem, reduceIte, Nat.reduceEqDiff, Nat.reduceAdd, Nat.reduceLT, Nat.reduceLeDiff, Nat.reduceBEq, Nat.reduceMul, Nat.reduceSub, Int.reduceNeg, Int.reduceLT, Int.reduceLE, Int.reduceEq, Int.reduceToNat, fillC, zc, List.replicate_succ, List.replicate_zero, List.flatten_cons, List.flatten_nil, toDs, toD, chunk, placeS, srcRows, List.all_cons, List.all_nil, List.all_map, Function.comp_def, List.take_nil, List.drop_nil, List.toList_toArray, C.eqbL, eqCs, eqC, List.drop_one, List.tail_cons, lim, tt3, tt4, tt5, tt22, tt24, tt29, tt26, tt30, tt36, ti3, ti22, ti29, ti26, eq26]
  · have hi' : i = (allL n.toNat).length := by simp at h; omega
    have : tellsB rows n.toNat = true := by
      simp only [tellsB, decide_eq_true_eq]
      refine nodup_of (fun a b x y hab hx hy => ?_)
      rw [hget] at hx hy
      simp only [Option.map_eq_some_iff] at hx hy
      obtain ⟨x', hx', rfl⟩ := hx
      obtain ⟨y', hy', rfl⟩ := hy
      exact hall a b x' y' hab (by have := (List.getElem?_eq_some_iff.1 hx').1; omega) hx' hy'
    simp only [go_sem, reduceIte, Nat.reduceEqDiff, Nat.reduceAdd, Nat.reduceLT, Nat.reduceLeDiff, Nat.reduceBEq, Nat.reduceMul, Nat.reduceSub, Int.reduceNeg, Int.reduceLT, Int.reduceLE, Int.reduceEq, Int.reduceToNat, fillC, zc, List.replicate_succ, List.replicate_zero, List.flatten_cons, List.flatten_nil, toDs, toD, chunk, placeS, srcRows, List.all_cons, List.all_nil, List.all_map, Function.comp_def, List.take_nil, List.drop_nil, List.toList_toArray, C.eqbL, eqCs, eqC, List.drop_one, List.tail_cons, lim, tt3, tt4, tt5, tt22, tt24, tt29, tt26, tt30, tt36, ti3, ti22, ti29, ti26, eq26, this]
end Go.Proofs.Ytklmpopomokglaa
