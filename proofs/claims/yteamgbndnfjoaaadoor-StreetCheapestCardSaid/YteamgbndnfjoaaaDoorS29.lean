/- The law StreetCheapest. -/
import Derived.Test.YteamgbndnfjoaaaDoorS28
set_option linter.unusedSimpArgs false
set_option linter.unusedVariables false
set_option maxRecDepth 100000
namespace Go.Proofs.YteamgbndnfjoaaaDoor
open Go Go.Abs Go.Proofs
def kp5 : List (Nat × List Nat) := [(0, [1]), (1, [1, 23]), (2, [2]), (3, [1, 3, 4, 5]), (4, [1, 3, 4, 5, 33]), (5, [2]), (6, [1, 3, 4, 5, 6, 7]), (7, [1, 3, 4, 5, 6, 56]), (8, [2]), (9, [4, 5, 6, 8, 9]), (10, [2])]
theorem lk5 : lookK kp5 0 = some [1] ∧ lookK kp5 1 = some [1, 23] ∧ lookK kp5 2 = some [2] ∧ lookK kp5 3 = some [1, 3, 4, 5] ∧ lookK kp5 4 = some [1, 3, 4, 5, 33] ∧ lookK kp5 5 = some [2] ∧ lookK kp5 6 = some [1, 3, 4, 5, 6, 7] ∧ lookK kp5 7 = some [1, 3, 4, 5, 6, 56] ∧ lookK kp5 8 = some [2] ∧ lookK kp5 9 = some [4, 5, 6, 8, 9] ∧ lookK kp5 10 = some [2] := ⟨rfl, rfl, rfl, rfl, rfl, rfl, rfl, rfl, rfl, rfl, rfl⟩
theorem bitI_test (b i : Nat) : bitI b i = b.testBit i := by rw [bitI, Nat.testBit_eq_decide_div_mod_eq]; rfl
theorem bits_all (st : Nat → Int) : ∀ n : Nat, ∃ b, b < 2 ^ n ∧ ∀ i, i < n → bitI b i = decide (st i = 1)
  | 0 => ⟨0, by simp, fun i hi => absurd hi (by omega)⟩
  | n + 1 => by
    obtain ⟨b, hb, h⟩ := bits_all st n
    have hp : 2 ^ (n + 1) = 2 ^ n + 2 ^ n := by rw [Nat.pow_succ]; omega
    by_cases hs : st n = 1
    · refine ⟨2 ^ n + b, by omega, fun i hi => ?_⟩
      rw [bitI_test]
      by_cases e : i = n
      · subst e
        rw [Nat.testBit_two_pow_add_eq, Nat.testBit_lt_two_pow hb]; simp [hs]
      · rw [Nat.testBit_two_pow_add_gt (by omega), ← bitI_test, h i (by omega)]
    · refine ⟨b, by omega, fun i hi => ?_⟩
      by_cases e : i = n
      · subst e
        rw [bitI_test, Nat.testBit_lt_two_pow hb]; simp [hs]
      · exact h i (by omega)
theorem chB_mem {b : Nat} {x : Int} : ∀ {m : Nat}, x ∈ chB b m ↔ ∃ i : Nat, i < m ∧ x = i ∧ bitI b i = true
  | 0 => by simp [chB]
  | m + 1 => by
    simp only [chB, List.mem_append, chB_mem (m := m)]
    constructor
    · rintro (⟨i, h1, h2, h3⟩ | h)
      · exact ⟨i, by omega, h2, h3⟩
      · split at h
        · rename_i hb; exact ⟨m, by omega, by simpa using h, hb⟩
        · simp at h
    · rintro ⟨i, h1, h2, h3⟩
      by_cases e : i = m
      · subst e; right; rw [if_pos h3]; simp [h2]
      · exact .inl ⟨i, by omega, h2, h3⟩
theorem ind_chB {b m i : Nat} (hi : i < m) : ind (chB b m) i = if bitI b i = true then 1 else 0 := by
  unfold ind
  by_cases h : bitI b i = true
  · rw [if_pos h, if_pos (chB_mem.2 ⟨i, hi, rfl, h⟩)]
  · rw [if_neg h, if_neg]
    intro hm
    obtain ⟨k, _, e, h3⟩ := chB_mem.1 hm
    have : i = k := by omega
    subst this
    exact h h3
theorem lst_spec (r : Rd) : ∀ j : Nat, ((lstN r j).2 = false → ∀ b, b < j → holdsB r (chB b r.ps.length) = false) ∧
    ((lstN r j).2 = true → (∃ b, b < j ∧ holdsB r (chB b r.ps.length) = true ∧ costL r (chB b r.ps.length) = (lstN r j).1) ∧ ∀ b, b < j → holdsB r (chB b r.ps.length) = true → (lstN r j).1 ≤ costL r (chB b r.ps.length))
  | 0 => ⟨fun _ b hb => absurd hb (by omega), fun h => by cases h⟩
  | j + 1 => by
    obtain ⟨h1, h2⟩ := lst_spec r j
    rw [lstN]
    split
    · rename_i hc
      obtain ⟨ha, hc⟩ := hc
      refine ⟨fun h => (by cases h), fun _ => ⟨⟨j, by omega, ha, rfl⟩, fun b hb hh => ?_⟩⟩
      show costL r (chB j r.ps.length) ≤ _
      by_cases e : b = j
      · subst e; exact Int.le_refl _
      · rcases hc with hc | hc
        · have := h1 hc b (by omega); rw [hh] at this; cases this
        · cases h3 : (lstN r j).2 with
          | false => have := h1 h3 b (by omega); rw [hh] at this; cases this
          | true => have := (h2 h3).2 b (by omega) hh; omega
    · rename_i hc
      refine ⟨fun h b hb => ?_, fun h => ?_⟩
      · by_cases e : b = j
        · subst e
          cases h3 : holdsB r (chB b r.ps.length) with
          | false => rfl
          | true => exact absurd ⟨h3, .inl h⟩ hc
        · exact h1 h b (by omega)
      · obtain ⟨⟨b, hb, hh, he⟩, hm⟩ := h2 h
        refine ⟨⟨b, by omega, hh, he⟩, fun b hb hh => ?_⟩
        by_cases e : b = j
        · subst e
          exact Int.not_lt.1 fun hlt => hc ⟨hh, .inr hlt⟩
        · exact hm b (by omega) hh
theorem st_list {r : Rd} {st : Nat → Int} (h01 : ∀ i, st i = 0 ∨ st i = 1) : ∃ b, b < 2 ^ r.ps.length ∧ (HoldS r st → holdsB r (chB b r.ps.length) = true) ∧ costL r (chB b r.ps.length) = costP r st r.ps.length := by
  obtain ⟨b, hb, h⟩ := bits_all st r.ps.length
  have e : ∀ i, i < r.ps.length → ind (chB b r.ps.length) i = st i := fun i hi => by
    rw [ind_chB hi, h i hi]
    rcases h01 i with e | e <;> simp [e]
  refine ⟨b, hb, fun hh => ?_, ?_⟩
  · rw [holdsB_iff]
    intro p hp
    rw [litP_congr (g := st) (p : Int) e]
    exact hh p hp
  · unfold costL; exact costP_congr e
theorem lst_least (r : Rd) (h : (lstN r (2 ^ r.ps.length)).2 = true) : Least r (lstN r (2 ^ r.ps.length)).1 := by
  obtain ⟨⟨b, hb, hh, he⟩, hm⟩ := (lst_spec r (2 ^ r.ps.length)).2 h
  refine ⟨⟨ind (chB b r.ps.length), ind01 _, holdsB_iff.1 hh, he⟩, fun st h01 hs => ?_⟩
  obtain ⟨b, hb, h1, h2⟩ := st_list (r := r) h01
  rw [← h2]
  exact hm b hb (h1 hs)
theorem okHold_best' {r : Rd} {c : List Int} {n : Int} {pr : List Int} (h : Best r c n pr) : okHold r c = 0 := by simp [okHold, h.ch, h.hold]
theorem lst_none (r : Rd) (h : (lstN r (2 ^ r.ps.length)).2 = false) (st : Nat → Int) (h01 : ∀ i, st i = 0 ∨ st i = 1) : ¬ HoldS r st := by
  intro hs
  obtain ⟨b, hb, h1, h2⟩ := st_list (r := r) h01
  have := (lst_spec r (2 ^ r.ps.length)).1 h b hb
  rw [h1 hs] at this; cases this
set_option maxHeartbeats 8000000 in
theorem cheapestLaw (r : Rd) : ACall Tryd.prog 5 [roadV r] GH (one (B true) GH) := by
  refine acall_atE (bad := []) (kp := kp5) (X := tx) (nt := 96) (rs := [.tmp 2]) Tryd.func5 rfl rfl rfl rfl mo (by kernel_rfl) rfl rfl (fun hf => ?_)
  have wa : ∀ T, ACall Tryd.prog 14 [] (.gl 0 noneD :: .cells (roadC r) :: T) (one (B true) (.gl 0 noneD :: .cells (roadC r) :: T)) := fun T => works_at _
  simp only [roadC] at wa
  simp (config := { maxSteps := 2000000 }) only [go_sem, reduceIte, Nat.reduceEqDiff, Nat.reduceAdd, Nat.reduceLT, Nat.reduceLeDiff, Nat.reduceBEq, Nat.reduceMul, Nat.reduceSub, Nat.reduceDiv, Int.reduceNeg, Int.reduceLT, Int.reduceLE, Int.reduceEq, Int.reduceToNat, fillC, zc, List.replicate_succ, List.replicate_zero, List.flatten_cons, List.flatten_nil, toDs, toD, chunk, placeS, srcRows, List.all_cons, List.all_nil, List.all_map, Function.comp_def, List.take_nil, List.drop_nil, List.toList_toArray, C.eqbL, eqCs, eqC, List.drop_one, List.tail_cons, lim, lk5, GH, roadV, roadC]
  refine aops_pure' (great13 r) rfl rfl (by first | exact wk_refls _ | (repeat constructor)) ?_
  have z0 : ((0 : Nat) : Int) = 0 := rfl
  by_cases h30 : (30 : Int) < r.ps.length
  · simp (config := { maxSteps := 2000000 }) only [go_sem, reduceIte, Nat.reduceEqDiff, Nat.reduceAdd, Nat.reduceLT, Nat.reduceLeDiff, Nat.reduceBEq, Nat.reduceMul, Nat.reduceSub, Nat.reduceDiv, Int.reduceNeg, Int.reduceLT, Int.reduceLE, Int.reduceEq, Int.reduceToNat, fillC, zc, List.replicate_succ, List.replicate_zero, List.flatten_cons, List.flatten_nil, toDs, toD, chunk, placeS, srcRows, List.all_cons, List.all_nil, List.all_map, Function.comp_def, List.take_nil, List.drop_nil, List.toList_toArray, C.eqbL, eqCs, eqC, List.drop_one, List.tail_cons, lim, lk5, h30]
    refine aops_at (wa _) rfl rfl (by first | exact wk_refls _ | (repeat constructor)) ?_
    simp (config := { maxSteps := 2000000 }) only [go_sem, reduceIte, Nat.reduceEqDiff, Nat.reduceAdd, Nat.reduceLT, Nat.reduceLeDiff, Nat.reduceBEq, Nat.reduceMul, Nat.reduceSub, Nat.reduceDiv, Int.reduceNeg, Int.reduceLT, Int.reduceLE, Int.reduceEq, Int.reduceToNat, fillC, zc, List.replicate_succ, List.replicate_zero, List.flatten_cons, List.flatten_nil, toDs, toD, chunk, placeS, srcRows, List.all_cons, List.all_nil, List.all_map, Function.comp_def, List.take_nil, List.drop_nil, List.toList_toArray, C.eqbL, eqCs, eqC, List.drop_one, List.tail_cons, lim, lk5]
    exact ⟨_, rfl⟩
  by_cases h9 : (9 : Int) < r.ps.length
  · by_cases h24 : (r.ps.length : Int) ≤ 24
    · simp (config := { maxSteps := 2000000 }) only [go_sem, reduceIte, Nat.reduceEqDiff, Nat.reduceAdd, Nat.reduceLT, Nat.reduceLeDiff, Nat.reduceBEq, Nat.reduceMul, Nat.reduceSub, Nat.reduceDiv, Int.reduceNeg, Int.reduceLT, Int.reduceLE, Int.reduceEq, Int.reduceToNat, fillC, zc, List.replicate_succ, List.replicate_zero, List.flatten_cons, List.flatten_nil, toDs, toD, chunk, placeS, srcRows, List.all_cons, List.all_nil, List.all_map, Function.comp_def, List.take_nil, List.drop_nil, List.toList_toArray, C.eqbL, eqCs, eqC, List.drop_one, List.tail_cons, lim, lk5, h30, h9, h24]
      refine aops_at (wa _) rfl rfl (by first | exact wk_refls _ | (repeat constructor)) ?_
      simp (config := { maxSteps := 2000000 }) only [go_sem, reduceIte, Nat.reduceEqDiff, Nat.reduceAdd, Nat.reduceLT, Nat.reduceLeDiff, Nat.reduceBEq, Nat.reduceMul, Nat.reduceSub, Nat.reduceDiv, Int.reduceNeg, Int.reduceLT, Int.reduceLE, Int.reduceEq, Int.reduceToNat, fillC, zc, List.replicate_succ, List.replicate_zero, List.flatten_cons, List.flatten_nil, toDs, toD, chunk, placeS, srcRows, List.all_cons, List.all_nil, List.all_map, Function.comp_def, List.take_nil, List.drop_nil, List.toList_toArray, C.eqbL, eqCs, eqC, List.drop_one, List.tail_cons, lim, lk5]
      exact ⟨_, rfl⟩
    · have hb : okRoad r ≠ 0 := by unfold okRoad; rw [if_pos (by omega)]; decide
      simp (config := { maxSteps := 2000000 }) only [go_sem, reduceIte, Nat.reduceEqDiff, Nat.reduceAdd, Nat.reduceLT, Nat.reduceLeDiff, Nat.reduceBEq, Nat.reduceMul, Nat.reduceSub, Nat.reduceDiv, Int.reduceNeg, Int.reduceLT, Int.reduceLE, Int.reduceEq, Int.reduceToNat, fillC, zc, List.replicate_succ, List.replicate_zero, List.flatten_cons, List.flatten_nil, toDs, toD, chunk, placeS, srcRows, List.all_cons, List.all_nil, List.all_map, Function.comp_def, List.take_nil, List.drop_nil, List.toList_toArray, C.eqbL, eqCs, eqC, List.drop_one, List.tail_cons, lim, lk5, h30, h9, h24]
      have p1 := (cheapest27_bad r hb).frame rfl rfl rfl [.cells (roadC r)]
      simp only [GH, roadV, roadC, List.cons_append, List.nil_append] at p1
      refine aops_at (p1) rfl rfl (by first | exact wk_refls _ | (repeat constructor)) ?_
      simp (config := { maxSteps := 2000000 }) only [go_sem, reduceIte, Nat.reduceEqDiff, Nat.reduceAdd, Nat.reduceLT, Nat.reduceLeDiff, Nat.reduceBEq, Nat.reduceMul, Nat.reduceSub, Nat.reduceDiv, Int.reduceNeg, Int.reduceLT, Int.reduceLE, Int.reduceEq, Int.reduceToNat, fillC, zc, List.replicate_succ, List.replicate_zero, List.flatten_cons, List.flatten_nil, toDs, toD, chunk, placeS, srcRows, List.all_cons, List.all_nil, List.all_map, Function.comp_def, List.take_nil, List.drop_nil, List.toList_toArray, C.eqbL, eqCs, eqC, List.drop_one, List.tail_cons, lim, lk5]
      refine aops_pure' (checkRoad20 r) rfl rfl (by first | exact wk_refls _ | (repeat constructor)) ?_
      simp (config := { maxSteps := 2000000 }) only [go_sem, reduceIte, Nat.reduceEqDiff, Nat.reduceAdd, Nat.reduceLT, Nat.reduceLeDiff, Nat.reduceBEq, Nat.reduceMul, Nat.reduceSub, Nat.reduceDiv, Int.reduceNeg, Int.reduceLT, Int.reduceLE, Int.reduceEq, Int.reduceToNat, fillC, zc, List.replicate_succ, List.replicate_zero, List.flatten_cons, List.flatten_nil, toDs, toD, chunk, placeS, srcRows, List.all_cons, List.all_nil, List.all_map, Function.comp_def, List.take_nil, List.drop_nil, List.toList_toArray, C.eqbL, eqCs, eqC, List.drop_one, List.tail_cons, lim, lk5, hb, bne_self_eq_false]
      refine aops_pure' (checkRoad20 r) rfl rfl (by first | exact wk_refls _ | (repeat constructor)) ?_
      simp (config := { maxSteps := 2000000 }) only [go_sem, reduceIte, Nat.reduceEqDiff, Nat.reduceAdd, Nat.reduceLT, Nat.reduceLeDiff, Nat.reduceBEq, Nat.reduceMul, Nat.reduceSub, Nat.reduceDiv, Int.reduceNeg, Int.reduceLT, Int.reduceLE, Int.reduceEq, Int.reduceToNat, fillC, zc, List.replicate_succ, List.replicate_zero, List.flatten_cons, List.flatten_nil, toDs, toD, chunk, placeS, srcRows, List.all_cons, List.all_nil, List.all_map, Function.comp_def, List.take_nil, List.drop_nil, List.toList_toArray, C.eqbL, eqCs, eqC, List.drop_one, List.tail_cons, lim, lk5, ints, List.map_nil, List.length_nil, z0]
      refine aops_at (wa _) rfl rfl (by first | exact wk_refls _ | (repeat constructor)) ?_
      simp (config := { maxSteps := 2000000 }) only [go_sem, reduceIte, Nat.reduceEqDiff, Nat.reduceAdd, Nat.reduceLT, Nat.reduceLeDiff, Nat.reduceBEq, Nat.reduceMul, Nat.reduceSub, Nat.reduceDiv, Int.reduceNeg, Int.reduceLT, Int.reduceLE, Int.reduceEq, Int.reduceToNat, fillC, zc, List.replicate_succ, List.replicate_zero, List.flatten_cons, List.flatten_nil, toDs, toD, chunk, placeS, srcRows, List.all_cons, List.all_nil, List.all_map, Function.comp_def, List.take_nil, List.drop_nil, List.toList_toArray, C.eqbL, eqCs, eqC, List.drop_one, List.tail_cons, lim, lk5]
      exact ⟨_, rfl⟩
  by_cases hb : okRoad r = 0
  case neg =>
    simp (config := { maxSteps := 2000000 }) only [go_sem, reduceIte, Nat.reduceEqDiff, Nat.reduceAdd, Nat.reduceLT, Nat.reduceLeDiff, Nat.reduceBEq, Nat.reduceMul, Nat.reduceSub, Nat.reduceDiv, Int.reduceNeg, Int.reduceLT, Int.reduceLE, Int.reduceEq, Int.reduceToNat, fillC, zc, List.replicate_succ, List.replicate_zero, List.flatten_cons, List.flatten_nil, toDs, toD, chunk, placeS, srcRows, List.all_cons, List.all_nil, List.all_map, Function.comp_def, List.take_nil, List.drop_nil, List.toList_toArray, C.eqbL, eqCs, eqC, List.drop_one, List.tail_cons, lim, lk5, h30, h9]
    have p1 := (cheapest27_bad r hb).frame rfl rfl rfl [.cells (roadC r)]
    simp only [GH, roadV, roadC, List.cons_append, List.nil_append] at p1
    refine aops_at (p1) rfl rfl (by first | exact wk_refls _ | (repeat constructor)) ?_
    simp (config := { maxSteps := 2000000 }) only [go_sem, reduceIte, Nat.reduceEqDiff, Nat.reduceAdd, Nat.reduceLT, Nat.reduceLeDiff, Nat.reduceBEq, Nat.reduceMul, Nat.reduceSub, Nat.reduceDiv, Int.reduceNeg, Int.reduceLT, Int.reduceLE, Int.reduceEq, Int.reduceToNat, fillC, zc, List.replicate_succ, List.replicate_zero, List.flatten_cons, List.flatten_nil, toDs, toD, chunk, placeS, srcRows, List.all_cons, List.all_nil, List.all_map, Function.comp_def, List.take_nil, List.drop_nil, List.toList_toArray, C.eqbL, eqCs, eqC, List.drop_one, List.tail_cons, lim, lk5]
    refine aops_pure' (checkRoad20 r) rfl rfl (by first | exact wk_refls _ | (repeat constructor)) ?_
    simp (config := { maxSteps := 2000000 }) only [go_sem, reduceIte, Nat.reduceEqDiff, Nat.reduceAdd, Nat.reduceLT, Nat.reduceLeDiff, Nat.reduceBEq, Nat.reduceMul, Nat.reduceSub, Nat.reduceDiv, Int.reduceNeg, Int.reduceLT, Int.reduceLE, Int.reduceEq, Int.reduceToNat, fillC, zc, List.replicate_succ, List.replicate_zero, List.flatten_cons, List.flatten_nil, toDs, toD, chunk, placeS, srcRows, List.all_cons, List.all_nil, List.all_map, Function.comp_def, List.take_nil, List.drop_nil, List.toList_toArray, C.eqbL, eqCs, eqC, List.drop_one, List.tail_cons, lim, lk5, hb, bne_self_eq_false]
    refine aops_pure' (checkRoad20 r) rfl rfl (by first | exact wk_refls _ | (repeat constructor)) ?_
    simp (config := { maxSteps := 2000000 }) only [go_sem, reduceIte, Nat.reduceEqDiff, Nat.reduceAdd, Nat.reduceLT, Nat.reduceLeDiff, Nat.reduceBEq, Nat.reduceMul, Nat.reduceSub, Nat.reduceDiv, Int.reduceNeg, Int.reduceLT, Int.reduceLE, Int.reduceEq, Int.reduceToNat, fillC, zc, List.replicate_succ, List.replicate_zero, List.flatten_cons, List.flatten_nil, toDs, toD, chunk, placeS, srcRows, List.all_cons, List.all_nil, List.all_map, Function.comp_def, List.take_nil, List.drop_nil, List.toList_toArray, C.eqbL, eqCs, eqC, List.drop_one, List.tail_cons, lim, lk5, ints, List.map_nil, List.length_nil, z0]
    refine aops_at (wa _) rfl rfl (by first | exact wk_refls _ | (repeat constructor)) ?_
    simp (config := { maxSteps := 2000000 }) only [go_sem, reduceIte, Nat.reduceEqDiff, Nat.reduceAdd, Nat.reduceLT, Nat.reduceLeDiff, Nat.reduceBEq, Nat.reduceMul, Nat.reduceSub, Nat.reduceDiv, Int.reduceNeg, Int.reduceLT, Int.reduceLE, Int.reduceEq, Int.reduceToNat, fillC, zc, List.replicate_succ, List.replicate_zero, List.flatten_cons, List.flatten_nil, toDs, toD, chunk, placeS, srcRows, List.all_cons, List.all_nil, List.all_map, Function.comp_def, List.take_nil, List.drop_nil, List.toList_toArray, C.eqbL, eqCs, eqC, List.drop_one, List.tail_cons, lim, lk5]
    exact ⟨_, rfl⟩
  have hr := okRoad_ok hb
  have ls := least28 r hr (by omega)
  rcases told_least hr with ⟨c, n, pr, t, bb, l⟩ | ⟨t, l⟩
  · have p1 := t.che.frame rfl rfl rfl [.cells (roadC r)]
    have h18 := check18 r c
    rw [if_pos (okHold_best' bb), okHold_best' bb, bb.cost] at h18
    have hl : lstN r (2 ^ r.ps.length) = (n, true) := by
      cases h : (lstN r (2 ^ r.ps.length)).2 with
      | false =>
        obtain ⟨st, h01, hs, _⟩ := l.some
        exact absurd hs (lst_none r h st h01)
      | true =>
        have := (lst_least r h).uniq l
        rw [← this, ← h]
    rw [hl] at ls
    simp only [GH, roadV, roadC, List.cons_append, List.nil_append] at p1
    simp (config := { maxSteps := 2000000 }) only [go_sem, reduceIte, Nat.reduceEqDiff, Nat.reduceAdd, Nat.reduceLT, Nat.reduceLeDiff, Nat.reduceBEq, Nat.reduceMul, Nat.reduceSub, Nat.reduceDiv, Int.reduceNeg, Int.reduceLT, Int.reduceLE, Int.reduceEq, Int.reduceToNat, fillC, zc, List.replicate_succ, List.replicate_zero, List.flatten_cons, List.flatten_nil, toDs, toD, chunk, placeS, srcRows, List.all_cons, List.all_nil, List.all_map, Function.comp_def, List.take_nil, List.drop_nil, List.toList_toArray, C.eqbL, eqCs, eqC, List.drop_one, List.tail_cons, lim, lk5, h30, h9]
    refine aops_at (p1) rfl rfl (by first | exact wk_refls _ | (repeat constructor)) ?_
    simp (config := { maxSteps := 2000000 }) only [go_sem, reduceIte, Nat.reduceEqDiff, Nat.reduceAdd, Nat.reduceLT, Nat.reduceLeDiff, Nat.reduceBEq, Nat.reduceMul, Nat.reduceSub, Nat.reduceDiv, Int.reduceNeg, Int.reduceLT, Int.reduceLE, Int.reduceEq, Int.reduceToNat, fillC, zc, List.replicate_succ, List.replicate_zero, List.flatten_cons, List.flatten_nil, toDs, toD, chunk, placeS, srcRows, List.all_cons, List.all_nil, List.all_map, Function.comp_def, List.take_nil, List.drop_nil, List.toList_toArray, C.eqbL, eqCs, eqC, List.drop_one, List.tail_cons, lim, lk5]
    refine aops_pure' (checkRoad20 r) rfl rfl (by first | exact wk_refls _ | (repeat constructor)) ?_
    simp (config := { maxSteps := 2000000 }) only [go_sem, reduceIte, Nat.reduceEqDiff, Nat.reduceAdd, Nat.reduceLT, Nat.reduceLeDiff, Nat.reduceBEq, Nat.reduceMul, Nat.reduceSub, Nat.reduceDiv, Int.reduceNeg, Int.reduceLT, Int.reduceLE, Int.reduceEq, Int.reduceToNat, fillC, zc, List.replicate_succ, List.replicate_zero, List.flatten_cons, List.flatten_nil, toDs, toD, chunk, placeS, srcRows, List.all_cons, List.all_nil, List.all_map, Function.comp_def, List.take_nil, List.drop_nil, List.toList_toArray, C.eqbL, eqCs, eqC, List.drop_one, List.tail_cons, lim, lk5, hb]
    refine aops_pure' (ls) rfl rfl (by first | exact wk_refls _ | (repeat constructor)) ?_
    simp (config := { maxSteps := 2000000 }) only [go_sem, reduceIte, Nat.reduceEqDiff, Nat.reduceAdd, Nat.reduceLT, Nat.reduceLeDiff, Nat.reduceBEq, Nat.reduceMul, Nat.reduceSub, Nat.reduceDiv, Int.reduceNeg, Int.reduceLT, Int.reduceLE, Int.reduceEq, Int.reduceToNat, fillC, zc, List.replicate_succ, List.replicate_zero, List.flatten_cons, List.flatten_nil, toDs, toD, chunk, placeS, srcRows, List.all_cons, List.all_nil, List.all_map, Function.comp_def, List.take_nil, List.drop_nil, List.toList_toArray, C.eqbL, eqCs, eqC, List.drop_one, List.tail_cons, lim, lk5]
    refine aops_pure' (h18) rfl rfl (by first | exact wk_refls _ | (repeat constructor)) ?_
    simp (config := { maxSteps := 2000000 }) only [go_sem, reduceIte, Nat.reduceEqDiff, Nat.reduceAdd, Nat.reduceLT, Nat.reduceLeDiff, Nat.reduceBEq, Nat.reduceMul, Nat.reduceSub, Nat.reduceDiv, Int.reduceNeg, Int.reduceLT, Int.reduceLE, Int.reduceEq, Int.reduceToNat, fillC, zc, List.replicate_succ, List.replicate_zero, List.flatten_cons, List.flatten_nil, toDs, toD, chunk, placeS, srcRows, List.all_cons, List.all_nil, List.all_map, Function.comp_def, List.take_nil, List.drop_nil, List.toList_toArray, C.eqbL, eqCs, eqC, List.drop_one, List.tail_cons, lim, lk5]
    refine aops_at (wa _) rfl rfl (by first | exact wk_refls _ | (repeat constructor)) ?_
    simp (config := { maxSteps := 2000000 }) only [go_sem, reduceIte, Nat.reduceEqDiff, Nat.reduceAdd, Nat.reduceLT, Nat.reduceLeDiff, Nat.reduceBEq, Nat.reduceMul, Nat.reduceSub, Nat.reduceDiv, Int.reduceNeg, Int.reduceLT, Int.reduceLE, Int.reduceEq, Int.reduceToNat, fillC, zc, List.replicate_succ, List.replicate_zero, List.flatten_cons, List.flatten_nil, toDs, toD, chunk, placeS, srcRows, List.all_cons, List.all_nil, List.all_map, Function.comp_def, List.take_nil, List.drop_nil, List.toList_toArray, C.eqbL, eqCs, eqC, List.drop_one, List.tail_cons, lim, lk5]
    exact ⟨_, rfl⟩
  · have p1 := t.che.frame rfl rfl rfl [.cells (roadC r)]
    have hl : (lstN r (2 ^ r.ps.length)).2 = false := by
      cases h : (lstN r (2 ^ r.ps.length)).2 with
      | false => rfl
      | true =>
        obtain ⟨st, h01, hs, _⟩ := (lst_least r h).some
        exact absurd hs (l st h01)
    rw [hl] at ls
    simp only [GH, roadV, roadC, List.cons_append, List.nil_append] at p1
    simp (config := { maxSteps := 2000000 }) only [go_sem, reduceIte, Nat.reduceEqDiff, Nat.reduceAdd, Nat.reduceLT, Nat.reduceLeDiff, Nat.reduceBEq, Nat.reduceMul, Nat.reduceSub, Nat.reduceDiv, Int.reduceNeg, Int.reduceLT, Int.reduceLE, Int.reduceEq, Int.reduceToNat, fillC, zc, List.replicate_succ, List.replicate_zero, List.flatten_cons, List.flatten_nil, toDs, toD, chunk, placeS, srcRows, List.all_cons, List.all_nil, List.all_map, Function.comp_def, List.take_nil, List.drop_nil, List.toList_toArray, C.eqbL, eqCs, eqC, List.drop_one, List.tail_cons, lim, lk5, h30, h9]
    refine aops_at (p1) rfl rfl (by first | exact wk_refls _ | (repeat constructor)) ?_
    simp (config := { maxSteps := 2000000 }) only [go_sem, reduceIte, Nat.reduceEqDiff, Nat.reduceAdd, Nat.reduceLT, Nat.reduceLeDiff, Nat.reduceBEq, Nat.reduceMul, Nat.reduceSub, Nat.reduceDiv, Int.reduceNeg, Int.reduceLT, Int.reduceLE, Int.reduceEq, Int.reduceToNat, fillC, zc, List.replicate_succ, List.replicate_zero, List.flatten_cons, List.flatten_nil, toDs, toD, chunk, placeS, srcRows, List.all_cons, List.all_nil, List.all_map, Function.comp_def, List.take_nil, List.drop_nil, List.toList_toArray, C.eqbL, eqCs, eqC, List.drop_one, List.tail_cons, lim, lk5]
    refine aops_pure' (checkRoad20 r) rfl rfl (by first | exact wk_refls _ | (repeat constructor)) ?_
    simp (config := { maxSteps := 2000000 }) only [go_sem, reduceIte, Nat.reduceEqDiff, Nat.reduceAdd, Nat.reduceLT, Nat.reduceLeDiff, Nat.reduceBEq, Nat.reduceMul, Nat.reduceSub, Nat.reduceDiv, Int.reduceNeg, Int.reduceLT, Int.reduceLE, Int.reduceEq, Int.reduceToNat, fillC, zc, List.replicate_succ, List.replicate_zero, List.flatten_cons, List.flatten_nil, toDs, toD, chunk, placeS, srcRows, List.all_cons, List.all_nil, List.all_map, Function.comp_def, List.take_nil, List.drop_nil, List.toList_toArray, C.eqbL, eqCs, eqC, List.drop_one, List.tail_cons, lim, lk5, hb]
    refine aops_pure' (ls) rfl rfl (by first | exact wk_refls _ | (repeat constructor)) ?_
    simp (config := { maxSteps := 2000000 }) only [go_sem, reduceIte, Nat.reduceEqDiff, Nat.reduceAdd, Nat.reduceLT, Nat.reduceLeDiff, Nat.reduceBEq, Nat.reduceMul, Nat.reduceSub, Nat.reduceDiv, Int.reduceNeg, Int.reduceLT, Int.reduceLE, Int.reduceEq, Int.reduceToNat, fillC, zc, List.replicate_succ, List.replicate_zero, List.flatten_cons, List.flatten_nil, toDs, toD, chunk, placeS, srcRows, List.all_cons, List.all_nil, List.all_map, Function.comp_def, List.take_nil, List.drop_nil, List.toList_toArray, C.eqbL, eqCs, eqC, List.drop_one, List.tail_cons, lim, lk5, ints, List.map_nil, List.length_nil, z0]
    refine aops_at (wa _) rfl rfl (by first | exact wk_refls _ | (repeat constructor)) ?_
    simp (config := { maxSteps := 2000000 }) only [go_sem, reduceIte, Nat.reduceEqDiff, Nat.reduceAdd, Nat.reduceLT, Nat.reduceLeDiff, Nat.reduceBEq, Nat.reduceMul, Nat.reduceSub, Nat.reduceDiv, Int.reduceNeg, Int.reduceLT, Int.reduceLE, Int.reduceEq, Int.reduceToNat, fillC, zc, List.replicate_succ, List.replicate_zero, List.flatten_cons, List.flatten_nil, toDs, toD, chunk, placeS, srcRows, List.all_cons, List.all_nil, List.all_map, Function.comp_def, List.take_nil, List.drop_nil, List.toList_toArray, C.eqbL, eqCs, eqC, List.drop_one, List.tail_cons, lim, lk5]
    exact ⟨_, rfl⟩
end Go.Proofs.YteamgbndnfjoaaaDoor
