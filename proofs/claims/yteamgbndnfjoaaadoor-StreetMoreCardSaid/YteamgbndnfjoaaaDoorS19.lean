/- The law StreetDarks. -/
import Derived.Test.YteamgbndnfjoaaaDoorS18
set_option linter.unusedSimpArgs false
set_option linter.unusedVariables false
set_option maxRecDepth 100000
namespace Go.Proofs.YteamgbndnfjoaaaDoor
open Go Go.Abs Go.Proofs
def kp4 : List (Nat × List Nat) := [(0, [1, 2, 3, 4]), (1, [1, 2, 3, 4, 23]), (2, [8]), (3, [1, 4, 35]), (4, [8]), (5, [1, 4, 9, 10, 11]), (6, [1, 4, 9, 10, 11, 46]), (7, [8]), (8, [1, 4, 9, 10, 11, 66]), (9, [8]), (10, [8])]
theorem lk4 : lookK kp4 0 = some [1, 2, 3, 4] ∧ lookK kp4 1 = some [1, 2, 3, 4, 23] ∧ lookK kp4 2 = some [8] ∧ lookK kp4 3 = some [1, 4, 35] ∧ lookK kp4 4 = some [8] ∧ lookK kp4 5 = some [1, 4, 9, 10, 11] ∧ lookK kp4 6 = some [1, 4, 9, 10, 11, 46] ∧ lookK kp4 7 = some [8] ∧ lookK kp4 8 = some [1, 4, 9, 10, 11, 66] ∧ lookK kp4 9 = some [8] ∧ lookK kp4 10 = some [8] := ⟨rfl, rfl, rfl, rfl, rfl, rfl, rfl, rfl, rfl, rfl, rfl⟩

theorem rises_filter (p : Int → Bool) : ∀ {l : List Int} {a b n : Int}, risesB l a n = true → b ≤ a → risesB (l.filter p) b n = true
  | [], _, _, _, _, _ => rfl
  | x :: l, a, b, n, h, hb => by
    simp only [risesB, Bool.and_eq_true, decide_eq_true_eq] at h
    by_cases hp : p x = true
    · rw [List.filter_cons_of_pos hp]
      simp only [risesB, Bool.and_eq_true, decide_eq_true_eq]
      exact ⟨by omega, rises_filter p h.2 (Int.le_refl _)⟩
    · rw [List.filter_cons_of_neg hp]
      exact rises_filter p h.2 (by omega)
theorem cnt_len (r : Rd) (k : Int) : ∀ l : List Int, cnt r l k = ((l.filter (fun i => litB r (po r i) k)).length : Int)
  | [] => rfl
  | x :: l => by
    have ih := cnt_len r k l
    simp only [cnt, List.map_cons, List.sum_cons] at ih ⊢
    rw [ih]
    by_cases hp : litB r (po r x) k = true
    · rw [List.filter_cons_of_pos (by exact hp), if_pos hp, List.length_cons]; omega
    · rw [List.filter_cons_of_neg (by exact hp), if_neg hp]; omega
theorem litL_at {r : Rd} {l : List Int} (h : okCh r l = 0) {k : Nat} (hk : (k : Int) < r.pl) : (litL r (ind l))[k]? = some (cnt r l k) := by
  obtain ⟨hr, hris⟩ := okCh_ok h
  obtain ⟨hnd, hrng⟩ := rises_ok hris
  simp only [litL, List.getElem?_map]
  rw [List.getElem?_range (by omega)]
  simp only [Option.map_some]
  rw [litP_cnt _ l hnd hrng]
theorem dark_ok {r : Rd} {l : List Int} (h : okCh r l = 0) {i : Nat} {x : Int} (hx : (litL r (ind l))[i]? = some x) (hd : x ≤ r.de) : okDark r l i (l.filter (fun k => litB r (po r k) i)) = 0 := by
  obtain ⟨hr, hris⟩ := okCh_ok h
  have hlt := (List.getElem?_eq_some_iff.1 hx).1
  rw [litL_len] at hlt
  have hpl := hr.p1
  rw [litL_at h (by omega)] at hx
  cases hx
  rw [cnt_len] at hd
  unfold okDark
  rw [if_neg (by simpa using h), if_neg, if_neg, if_neg]
  · rw [Bool.not_eq_true, List.any_eq_false]
    intro y hy
    by_cases hl : litB r (po r y) i = true
    · simp only [hl, Bool.and_true, Bool.not_eq_true', Bool.not_eq_false]
      rw [List.any_eq_true]
      exact ⟨y, List.mem_filter.2 ⟨hy, hl⟩, by simp⟩
    · simp [hl]
  · rw [Bool.not_eq_false, List.all_eq_true]
    intro y hy
    rw [List.any_eq_true]
    exact ⟨y, (List.mem_filter.1 hy).1, by simp⟩
  · have h2 : rises (l.filter (fun k => litB r (po r k) i)) r.ps.length = true := rises_filter _ hris (Int.le_refl _)
    rw [h2]; simp; omega
theorem holds_idx {r : Rd} {l : List Int} : holdsB r l = decide (idxOf (fun m => decide (m ≤ r.de)) (litL r (ind l)) < 0) := by
  have h := idxOf_any (p := fun m => decide (m ≤ r.de)) (litL r (ind l))
  have e : holdsB r l = !(litL r (ind l)).any (fun m => decide (m ≤ r.de)) := by
    rw [holdsB, List.not_any_eq_all_not]
    congr 1; funext x
    by_cases hx : r.de < x
    · have : ¬ x ≤ r.de := by omega
      simp [hx, this]
    · have : x ≤ r.de := by omega
      simp [hx, this]
  rw [e, ← h]
  by_cases h0 : 0 ≤ idxOf (fun m => decide (m ≤ r.de)) (litL r (ind l))
  · have : ¬ idxOf (fun m => decide (m ≤ r.de)) (litL r (ind l)) < 0 := by omega
    simp [h0, this]
  · have : idxOf (fun m => decide (m ≤ r.de)) (litL r (ind l)) < 0 := by omega
    simp [h0, this]
theorem idxOf_get {α : Type} {p : α → Bool} : ∀ {l : List α} {i : Int}, idxOf p l = i → 0 ≤ i → ∃ x, l[i.toNat]? = some x ∧ p x = true
  | [], i, h, h0 => by simp [idxOf] at h; omega
  | y :: l, i, h, h0 => by
    simp only [idxOf] at h
    split at h
    · rename_i hy; subst h; exact ⟨y, rfl, hy⟩
    · split at h
      · omega
      · rename_i h1
        obtain ⟨x, hx, hp⟩ := idxOf_get (l := l) (i := idxOf p l) rfl (by omega)
        refine ⟨x, ?_, hp⟩
        have : i.toNat = (idxOf p l).toNat + 1 := by omega
        rw [this]; exact hx
/-- The three ways of Dark. -/
theorem dark_hold {r : Rd} {l : List Int} (h : okCh r l = 0) (hh : holdsB r l = true) : darkA r l = (0, [], 5) := by
  rw [holds_idx] at hh
  unfold darkA
  rw [if_neg (by simpa using h), if_pos (by simpa using hh)]
theorem dark_found {r : Rd} {l : List Int} (h : okCh r l = 0) (hh : holdsB r l = false) : (darkA r l).2.2 = 0 ∧ okDark r l (darkA r l).1 (darkA r l).2.1 = 0 := by
  rw [holds_idx] at hh
  have hn : ¬ idxOf (fun m => decide (m ≤ r.de)) (litL r (ind l)) < 0 := by simpa using hh
  obtain ⟨x, hx, hp⟩ := idxOf_get (p := fun m => decide (m ≤ r.de)) (l := litL r (ind l)) rfl (by omega)
  have := dark_ok h hx (by simpa using hp)
  have hc : ((idxOf (fun m => decide (m ≤ r.de)) (litL r (ind l))).toNat : Int) = idxOf (fun m => decide (m ≤ r.de)) (litL r (ind l)) := by omega
  rw [hc] at this
  unfold darkA
  rw [if_neg (by simpa using h), if_neg hn]
  exact ⟨rfl, this⟩
theorem dark_bad {r : Rd} {l : List Int} (h : okCh r l ≠ 0) : darkA r l = (0, [], okCh r l) := by
  unfold darkA
  rw [if_pos h]
set_option maxHeartbeats 8000000 in
theorem darksLaw (r : Rd) (l : List Int) (pl : Int) (d : List Int) : ACall Tryd.prog 4 [roadV r, ints l, I pl, ints d] GH (one (B true) GH) := by
  refine acall_atE (bad := [3]) (kp := kp4) (X := tx) (nt := 94) (rs := [.tmp 8]) Tryd.func4 rfl rfl rfl rfl mo (by kernel_rfl) rfl rfl (fun hf => ?_)
  have z0 : ((0 : Nat) : Int) = 0 := rfl
  simp (config := { maxSteps := 2000000 }) only [go_sem, reduceIte, Nat.reduceEqDiff, Nat.reduceAdd, Nat.reduceLT, Nat.reduceLeDiff, Nat.reduceBEq, Nat.reduceMul, Nat.reduceSub, Nat.reduceDiv, Int.reduceNeg, Int.reduceLT, Int.reduceLE, Int.reduceEq, Int.reduceToNat, fillC, zc, List.replicate_succ, List.replicate_zero, List.flatten_cons, List.flatten_nil, toDs, toD, chunk, placeS, srcRows, List.all_cons, List.all_nil, List.all_map, Function.comp_def, List.take_nil, List.drop_nil, List.toList_toArray, C.eqbL, eqCs, eqC, List.drop_one, List.tail_cons, lim, lk4, GH, roadV, roadC]
  refine aops_pure' (great13 r) rfl rfl (by first | exact wk_refls _ | (repeat constructor)) ?_
  by_cases h1 : (30 : Int) < r.ps.length
  · simp (config := { maxSteps := 2000000 }) only [go_sem, reduceIte, Nat.reduceEqDiff, Nat.reduceAdd, Nat.reduceLT, Nat.reduceLeDiff, Nat.reduceBEq, Nat.reduceMul, Nat.reduceSub, Nat.reduceDiv, Int.reduceNeg, Int.reduceLT, Int.reduceLE, Int.reduceEq, Int.reduceToNat, fillC, zc, List.replicate_succ, List.replicate_zero, List.flatten_cons, List.flatten_nil, toDs, toD, chunk, placeS, srcRows, List.all_cons, List.all_nil, List.all_map, Function.comp_def, List.take_nil, List.drop_nil, List.toList_toArray, C.eqbL, eqCs, eqC, List.drop_one, List.tail_cons, lim, lk4, h1]
    refine aops_at (works_at [.cells (roadC r)]) rfl rfl (by first | exact wk_refls _ | (repeat constructor)) ?_
    simp (config := { maxSteps := 2000000 }) only [go_sem, reduceIte, Nat.reduceEqDiff, Nat.reduceAdd, Nat.reduceLT, Nat.reduceLeDiff, Nat.reduceBEq, Nat.reduceMul, Nat.reduceSub, Nat.reduceDiv, Int.reduceNeg, Int.reduceLT, Int.reduceLE, Int.reduceEq, Int.reduceToNat, fillC, zc, List.replicate_succ, List.replicate_zero, List.flatten_cons, List.flatten_nil, toDs, toD, chunk, placeS, srcRows, List.all_cons, List.all_nil, List.all_map, Function.comp_def, List.take_nil, List.drop_nil, List.toList_toArray, C.eqbL, eqCs, eqC, List.drop_one, List.tail_cons, lim, lk4]
    exact ⟨_, rfl⟩
  by_cases h2 : (40 : Int) < l.length
  · simp (config := { maxSteps := 2000000 }) only [go_sem, reduceIte, Nat.reduceEqDiff, Nat.reduceAdd, Nat.reduceLT, Nat.reduceLeDiff, Nat.reduceBEq, Nat.reduceMul, Nat.reduceSub, Nat.reduceDiv, Int.reduceNeg, Int.reduceLT, Int.reduceLE, Int.reduceEq, Int.reduceToNat, fillC, zc, List.replicate_succ, List.replicate_zero, List.flatten_cons, List.flatten_nil, toDs, toD, chunk, placeS, srcRows, List.all_cons, List.all_nil, List.all_map, Function.comp_def, List.take_nil, List.drop_nil, List.toList_toArray, C.eqbL, eqCs, eqC, List.drop_one, List.tail_cons, lim, lk4, h1, h2, ints]
    refine aops_at (works_at [.cells (roadC r)]) rfl rfl (by first | exact wk_refls _ | (repeat constructor)) ?_
    simp (config := { maxSteps := 2000000 }) only [go_sem, reduceIte, Nat.reduceEqDiff, Nat.reduceAdd, Nat.reduceLT, Nat.reduceLeDiff, Nat.reduceBEq, Nat.reduceMul, Nat.reduceSub, Nat.reduceDiv, Int.reduceNeg, Int.reduceLT, Int.reduceLE, Int.reduceEq, Int.reduceToNat, fillC, zc, List.replicate_succ, List.replicate_zero, List.flatten_cons, List.flatten_nil, toDs, toD, chunk, placeS, srcRows, List.all_cons, List.all_nil, List.all_map, Function.comp_def, List.take_nil, List.drop_nil, List.toList_toArray, C.eqbL, eqCs, eqC, List.drop_one, List.tail_cons, lim, lk4]
    exact ⟨_, rfl⟩
  by_cases h3 : (10 : Int) < d.length
  · simp (config := { maxSteps := 2000000 }) only [go_sem, reduceIte, Nat.reduceEqDiff, Nat.reduceAdd, Nat.reduceLT, Nat.reduceLeDiff, Nat.reduceBEq, Nat.reduceMul, Nat.reduceSub, Nat.reduceDiv, Int.reduceNeg, Int.reduceLT, Int.reduceLE, Int.reduceEq, Int.reduceToNat, fillC, zc, List.replicate_succ, List.replicate_zero, List.flatten_cons, List.flatten_nil, toDs, toD, chunk, placeS, srcRows, List.all_cons, List.all_nil, List.all_map, Function.comp_def, List.take_nil, List.drop_nil, List.toList_toArray, C.eqbL, eqCs, eqC, List.drop_one, List.tail_cons, lim, lk4, h1, h2, h3, ints]
    refine aops_at (works_at [.cells (roadC r)]) rfl rfl (by first | exact wk_refls _ | (repeat constructor)) ?_
    simp (config := { maxSteps := 2000000 }) only [go_sem, reduceIte, Nat.reduceEqDiff, Nat.reduceAdd, Nat.reduceLT, Nat.reduceLeDiff, Nat.reduceBEq, Nat.reduceMul, Nat.reduceSub, Nat.reduceDiv, Int.reduceNeg, Int.reduceLT, Int.reduceLE, Int.reduceEq, Int.reduceToNat, fillC, zc, List.replicate_succ, List.replicate_zero, List.flatten_cons, List.flatten_nil, toDs, toD, chunk, placeS, srcRows, List.all_cons, List.all_nil, List.all_map, Function.comp_def, List.take_nil, List.drop_nil, List.toList_toArray, C.eqbL, eqCs, eqC, List.drop_one, List.tail_cons, lim, lk4]
    exact ⟨_, rfl⟩
  simp (config := { maxSteps := 2000000 }) only [go_sem, reduceIte, Nat.reduceEqDiff, Nat.reduceAdd, Nat.reduceLT, Nat.reduceLeDiff, Nat.reduceBEq, Nat.reduceMul, Nat.reduceSub, Nat.reduceDiv, Int.reduceNeg, Int.reduceLT, Int.reduceLE, Int.reduceEq, Int.reduceToNat, fillC, zc, List.replicate_succ, List.replicate_zero, List.flatten_cons, List.flatten_nil, toDs, toD, chunk, placeS, srcRows, List.all_cons, List.all_nil, List.all_map, Function.comp_def, List.take_nil, List.drop_nil, List.toList_toArray, C.eqbL, eqCs, eqC, List.drop_one, List.tail_cons, lim, lk4, h1, h2, h3, ints]
  refine de_pure (checkDark22 r l pl d) rfl rfl (by first | exact wk_refls _ | (repeat constructor)) ?_
  simp (config := { maxSteps := 2000000 }) only [go_sem, reduceIte, Nat.reduceEqDiff, Nat.reduceAdd, Nat.reduceLT, Nat.reduceLeDiff, Nat.reduceBEq, Nat.reduceMul, Nat.reduceSub, Nat.reduceDiv, Int.reduceNeg, Int.reduceLT, Int.reduceLE, Int.reduceEq, Int.reduceToNat, fillC, zc, List.replicate_succ, List.replicate_zero, List.flatten_cons, List.flatten_nil, toDs, toD, chunk, placeS, srcRows, List.all_cons, List.all_nil, List.all_map, Function.comp_def, List.take_nil, List.drop_nil, List.toList_toArray, C.eqbL, eqCs, eqC, List.drop_one, List.tail_cons, lim, lk4]
  refine de_pure (checkDark23 r l pl d) rfl rfl (by first | exact wk_refls _ | (repeat constructor)) ?_
  simp (config := { maxSteps := 2000000 }) only [go_sem, reduceIte, Nat.reduceEqDiff, Nat.reduceAdd, Nat.reduceLT, Nat.reduceLeDiff, Nat.reduceBEq, Nat.reduceMul, Nat.reduceSub, Nat.reduceDiv, Int.reduceNeg, Int.reduceLT, Int.reduceLE, Int.reduceEq, Int.reduceToNat, fillC, zc, List.replicate_succ, List.replicate_zero, List.flatten_cons, List.flatten_nil, toDs, toD, chunk, placeS, srcRows, List.all_cons, List.all_nil, List.all_map, Function.comp_def, List.take_nil, List.drop_nil, List.toList_toArray, C.eqbL, eqCs, eqC, List.drop_one, List.tail_cons, lim, lk4]
  refine ⟨pairsOk_ord (by kernel_rfl), ?_⟩
  refine aops_pure' (dark24 r l) rfl rfl (by first | exact wk_refls _ | (repeat constructor)) ?_
  simp (config := { maxSteps := 2000000 }) only [go_sem, reduceIte, Nat.reduceEqDiff, Nat.reduceAdd, Nat.reduceLT, Nat.reduceLeDiff, Nat.reduceBEq, Nat.reduceMul, Nat.reduceSub, Nat.reduceDiv, Int.reduceNeg, Int.reduceLT, Int.reduceLE, Int.reduceEq, Int.reduceToNat, fillC, zc, List.replicate_succ, List.replicate_zero, List.flatten_cons, List.flatten_nil, toDs, toD, chunk, placeS, srcRows, List.all_cons, List.all_nil, List.all_map, Function.comp_def, List.take_nil, List.drop_nil, List.toList_toArray, C.eqbL, eqCs, eqC, List.drop_one, List.tail_cons, lim, lk4]
  refine aops_pure' (isChoice25 r l) rfl rfl (by first | exact wk_refls _ | (repeat constructor)) ?_
  by_cases h : okCh r l = 0
  case neg =>
    rw [dark_bad h]
    simp (config := { maxSteps := 2000000 }) only [go_sem, reduceIte, Nat.reduceEqDiff, Nat.reduceAdd, Nat.reduceLT, Nat.reduceLeDiff, Nat.reduceBEq, Nat.reduceMul, Nat.reduceSub, Nat.reduceDiv, Int.reduceNeg, Int.reduceLT, Int.reduceLE, Int.reduceEq, Int.reduceToNat, fillC, zc, List.replicate_succ, List.replicate_zero, List.flatten_cons, List.flatten_nil, toDs, toD, chunk, placeS, srcRows, List.all_cons, List.all_nil, List.all_map, Function.comp_def, List.take_nil, List.drop_nil, List.toList_toArray, C.eqbL, eqCs, eqC, List.drop_one, List.tail_cons, lim, lk4, h]
    refine aops_pure' (isChoice25 r l) rfl rfl (by first | exact wk_refls _ | (repeat constructor)) ?_
    simp (config := { maxSteps := 2000000 }) only [go_sem, reduceIte, Nat.reduceEqDiff, Nat.reduceAdd, Nat.reduceLT, Nat.reduceLeDiff, Nat.reduceBEq, Nat.reduceMul, Nat.reduceSub, Nat.reduceDiv, Int.reduceNeg, Int.reduceLT, Int.reduceLE, Int.reduceEq, Int.reduceToNat, fillC, zc, List.replicate_succ, List.replicate_zero, List.flatten_cons, List.flatten_nil, toDs, toD, chunk, placeS, srcRows, List.all_cons, List.all_nil, List.all_map, Function.comp_def, List.take_nil, List.drop_nil, List.toList_toArray, C.eqbL, eqCs, eqC, List.drop_one, List.tail_cons, lim, lk4, ints, List.map_nil, z0]
    refine aops_at (works_at [.cells (roadC r)]) rfl rfl (by first | exact wk_refls _ | (repeat constructor)) ?_
    simp (config := { maxSteps := 2000000 }) only [go_sem, reduceIte, Nat.reduceEqDiff, Nat.reduceAdd, Nat.reduceLT, Nat.reduceLeDiff, Nat.reduceBEq, Nat.reduceMul, Nat.reduceSub, Nat.reduceDiv, Int.reduceNeg, Int.reduceLT, Int.reduceLE, Int.reduceEq, Int.reduceToNat, fillC, zc, List.replicate_succ, List.replicate_zero, List.flatten_cons, List.flatten_nil, toDs, toD, chunk, placeS, srcRows, List.all_cons, List.all_nil, List.all_map, Function.comp_def, List.take_nil, List.drop_nil, List.toList_toArray, C.eqbL, eqCs, eqC, List.drop_one, List.tail_cons, lim, lk4]
    exact ⟨_, rfl⟩
  simp (config := { maxSteps := 2000000 }) only [go_sem, reduceIte, Nat.reduceEqDiff, Nat.reduceAdd, Nat.reduceLT, Nat.reduceLeDiff, Nat.reduceBEq, Nat.reduceMul, Nat.reduceSub, Nat.reduceDiv, Int.reduceNeg, Int.reduceLT, Int.reduceLE, Int.reduceEq, Int.reduceToNat, fillC, zc, List.replicate_succ, List.replicate_zero, List.flatten_cons, List.flatten_nil, toDs, toD, chunk, placeS, srcRows, List.all_cons, List.all_nil, List.all_map, Function.comp_def, List.take_nil, List.drop_nil, List.toList_toArray, C.eqbL, eqCs, eqC, List.drop_one, List.tail_cons, lim, lk4, h]
  refine aops_pure' (holds26 r l h) rfl rfl (by first | exact wk_refls _ | (repeat constructor)) ?_
  cases hh : holdsB r l with
  | true =>
    rw [dark_hold h hh]
    simp (config := { maxSteps := 2000000 }) only [go_sem, reduceIte, Nat.reduceEqDiff, Nat.reduceAdd, Nat.reduceLT, Nat.reduceLeDiff, Nat.reduceBEq, Nat.reduceMul, Nat.reduceSub, Nat.reduceDiv, Int.reduceNeg, Int.reduceLT, Int.reduceLE, Int.reduceEq, Int.reduceToNat, fillC, zc, List.replicate_succ, List.replicate_zero, List.flatten_cons, List.flatten_nil, toDs, toD, chunk, placeS, srcRows, List.all_cons, List.all_nil, List.all_map, Function.comp_def, List.take_nil, List.drop_nil, List.toList_toArray, C.eqbL, eqCs, eqC, List.drop_one, List.tail_cons, lim, lk4, ints, List.map_nil, z0]
    refine aops_at (works_at [.cells (roadC r)]) rfl rfl (by first | exact wk_refls _ | (repeat constructor)) ?_
    simp (config := { maxSteps := 2000000 }) only [go_sem, reduceIte, Nat.reduceEqDiff, Nat.reduceAdd, Nat.reduceLT, Nat.reduceLeDiff, Nat.reduceBEq, Nat.reduceMul, Nat.reduceSub, Nat.reduceDiv, Int.reduceNeg, Int.reduceLT, Int.reduceLE, Int.reduceEq, Int.reduceToNat, fillC, zc, List.replicate_succ, List.replicate_zero, List.flatten_cons, List.flatten_nil, toDs, toD, chunk, placeS, srcRows, List.all_cons, List.all_nil, List.all_map, Function.comp_def, List.take_nil, List.drop_nil, List.toList_toArray, C.eqbL, eqCs, eqC, List.drop_one, List.tail_cons, lim, lk4]
    exact ⟨_, rfl⟩
  | false =>
    obtain ⟨e1, e2⟩ := dark_found h hh
    have hcd := checkDark23 r l (darkA r l).1 (darkA r l).2.1
    rw [e2] at hcd
    simp (config := { maxSteps := 2000000 }) only [go_sem, reduceIte, Nat.reduceEqDiff, Nat.reduceAdd, Nat.reduceLT, Nat.reduceLeDiff, Nat.reduceBEq, Nat.reduceMul, Nat.reduceSub, Nat.reduceDiv, Int.reduceNeg, Int.reduceLT, Int.reduceLE, Int.reduceEq, Int.reduceToNat, fillC, zc, List.replicate_succ, List.replicate_zero, List.flatten_cons, List.flatten_nil, toDs, toD, chunk, placeS, srcRows, List.all_cons, List.all_nil, List.all_map, Function.comp_def, List.take_nil, List.drop_nil, List.toList_toArray, C.eqbL, eqCs, eqC, List.drop_one, List.tail_cons, lim, lk4, e1]
    refine aops_pure' (hcd) rfl rfl (by first | exact wk_refls _ | (repeat constructor)) ?_
    simp (config := { maxSteps := 2000000 }) only [go_sem, reduceIte, Nat.reduceEqDiff, Nat.reduceAdd, Nat.reduceLT, Nat.reduceLeDiff, Nat.reduceBEq, Nat.reduceMul, Nat.reduceSub, Nat.reduceDiv, Int.reduceNeg, Int.reduceLT, Int.reduceLE, Int.reduceEq, Int.reduceToNat, fillC, zc, List.replicate_succ, List.replicate_zero, List.flatten_cons, List.flatten_nil, toDs, toD, chunk, placeS, srcRows, List.all_cons, List.all_nil, List.all_map, Function.comp_def, List.take_nil, List.drop_nil, List.toList_toArray, C.eqbL, eqCs, eqC, List.drop_one, List.tail_cons, lim, lk4]
    refine aops_at (works_at [.cells (roadC r)]) rfl rfl (by first | exact wk_refls _ | (repeat constructor)) ?_
    simp (config := { maxSteps := 2000000 }) only [go_sem, reduceIte, Nat.reduceEqDiff, Nat.reduceAdd, Nat.reduceLT, Nat.reduceLeDiff, Nat.reduceBEq, Nat.reduceMul, Nat.reduceSub, Nat.reduceDiv, Int.reduceNeg, Int.reduceLT, Int.reduceLE, Int.reduceEq, Int.reduceToNat, fillC, zc, List.replicate_succ, List.replicate_zero, List.flatten_cons, List.flatten_nil, toDs, toD, chunk, placeS, srcRows, List.all_cons, List.all_nil, List.all_map, Function.comp_def, List.take_nil, List.drop_nil, List.toList_toArray, C.eqbL, eqCs, eqC, List.drop_one, List.tail_cons, lim, lk4]
    exact ⟨_, rfl⟩
end Go.Proofs.YteamgbndnfjoaaaDoor
