/- The law StreetEither. -/
import Derived.Test.YteamgbndnfjoaaaDoorS19
set_option linter.unusedSimpArgs false
set_option linter.unusedVariables false
set_option maxRecDepth 100000

namespace Go.Proofs.YteamgbndnfjoaaaDoor
open Go Go.Abs Go.Proofs

def fineB (r : Rd) : Bool := !decide ((30 : Int) < r.ps.length) && decide (okRoad r = 0)
theorem fine_ok {r : Rd} (h : fineB r = true) : okRoad r = 0 := by simp [fineB] at h; exact h.2
set_option maxHeartbeats 1000000 in
theorem fine32 (r : Rd) : Pure Tryd.prog 32 [roadV r] (B (fineB r)) := by
  refine pure_wkE (bad := []) (kp := kp32) (X := tx) (nt := 11) (rs := [.tmp 2]) Tryd.func32 rfl rfl rfl rfl mo (by kernel_rfl) rfl rfl (fun hf => ?_)
  simp only [go_sem, reduceIte, Nat.reduceEqDiff, Nat.reduceAdd, Nat.reduceLT, Nat.reduceLeDiff, Nat.reduceBEq, Nat.reduceMul, Nat.reduceSub, Nat.reduceDiv, Int.reduceNeg, Int.reduceLT, Int.reduceLE, Int.reduceEq, Int.reduceToNat, fillC, zc, List.replicate_succ, List.replicate_zero, List.flatten_cons, List.flatten_nil, toDs, toD, chunk, placeS, srcRows, List.all_cons, List.all_nil, List.all_map, Function.comp_def, List.take_nil, List.drop_nil, List.toList_toArray, C.eqbL, eqCs, eqC, List.drop_one, List.tail_cons, lim, roadV, roadC, lk32]
  refine aops_pure' (great13 r) rfl rfl (by first | exact wk_refls _ | (repeat constructor)) ?_
  by_cases h1 : (30 : Int) < r.ps.length
  · have e : fineB r = false := by simp [fineB, h1]
    simp only [go_sem, reduceIte, Nat.reduceEqDiff, Nat.reduceAdd, Nat.reduceLT, Nat.reduceLeDiff, Nat.reduceBEq, Nat.reduceMul, Nat.reduceSub, Nat.reduceDiv, Int.reduceNeg, Int.reduceLT, Int.reduceLE, Int.reduceEq, Int.reduceToNat, fillC, zc, List.replicate_succ, List.replicate_zero, List.flatten_cons, List.flatten_nil, toDs, toD, chunk, placeS, srcRows, List.all_cons, List.all_nil, List.all_map, Function.comp_def, List.take_nil, List.drop_nil, List.toList_toArray, C.eqbL, eqCs, eqC, List.drop_one, List.tail_cons, lim, h1, e, lk32]
  · have e : fineB r = decide (okRoad r = 0) := by simp [fineB, h1]
    simp only [go_sem, reduceIte, Nat.reduceEqDiff, Nat.reduceAdd, Nat.reduceLT, Nat.reduceLeDiff, Nat.reduceBEq, Nat.reduceMul, Nat.reduceSub, Nat.reduceDiv, Int.reduceNeg, Int.reduceLT, Int.reduceLE, Int.reduceEq, Int.reduceToNat, fillC, zc, List.replicate_succ, List.replicate_zero, List.flatten_cons, List.flatten_nil, toDs, toD, chunk, placeS, srcRows, List.all_cons, List.all_nil, List.all_map, Function.comp_def, List.take_nil, List.drop_nil, List.toList_toArray, C.eqbL, eqCs, eqC, List.drop_one, List.tail_cons, lim, h1, lk32]
    refine aops_pure' (checkRoad20 r) rfl rfl (by first | exact wk_refls _ | (repeat constructor)) ?_
    simp only [go_sem, reduceIte, Nat.reduceEqDiff, Nat.reduceAdd, Nat.reduceLT, Nat.reduceLeDiff, Nat.reduceBEq, Nat.reduceMul, Nat.reduceSub, Nat.reduceDiv, Int.reduceNeg, Int.reduceLT, Int.reduceLE, Int.reduceEq, Int.reduceToNat, fillC, zc, List.replicate_succ, List.replicate_zero, List.flatten_cons, List.flatten_nil, toDs, toD, chunk, placeS, srcRows, List.all_cons, List.all_nil, List.all_map, Function.comp_def, List.take_nil, List.drop_nil, List.toList_toArray, C.eqbL, eqCs, eqC, List.drop_one, List.tail_cons, lim, e, lk32]
/-- A choice by bits. -/
def bitB (b : Int) (i : Nat) : Bool := decide (bits .and .u32 (b.fdiv (2 ^ min i 32)) 1 = 1)
def chN (b : Int) : Nat → List Int
  | 0 => []
  | m + 1 => chN b m ++ (if bitB b m then [(m : Int)] else [])
theorem chN_len (b : Int) : ∀ m, (chN b m).length ≤ m
  | 0 => by simp [chN]
  | m + 1 => by have := chN_len b m; simp only [chN, List.length_append]; split <;> simp <;> omega
theorem risesB_snoc : ∀ {l : List Int} {a n m : Int}, risesB l a n = true → a < m → n ≤ m → m < m + 1 → risesB (l ++ [m]) a (m + 1) = true
  | [], a, n, m, _, h1, _, _ => by simp [risesB]; omega
  | x :: l, a, n, m, h, h1, h2, h3 => by
    simp only [risesB, Bool.and_eq_true, decide_eq_true_eq, List.cons_append] at h ⊢
    exact ⟨by omega, risesB_snoc h.2 (by omega) h2 h3⟩
theorem risesB_more : ∀ {l : List Int} {a n m : Int}, risesB l a n = true → n ≤ m → risesB l a m = true
  | [], _, _, _, _, _ => rfl
  | x :: l, a, n, m, h, h2 => by
    simp only [risesB, Bool.and_eq_true, decide_eq_true_eq] at h ⊢
    exact ⟨by omega, risesB_more h.2 h2⟩
theorem chN_rises (b : Int) : ∀ m : Nat, rises (chN b m) m = true
  | 0 => rfl
  | m + 1 => by
    have ih := chN_rises b m
    simp only [chN]
    split
    · have := risesB_snoc (m := (m : Int)) ih (by omega) (Int.le_refl _) (by omega)
      exact this
    · rw [List.append_nil]; exact risesB_more ih (by omega)
set_option maxHeartbeats 2000000 in
theorem choice35 (r : Rd) (b : Int) (hl : r.ps.length ≤ 24) : Pure Tryd.prog 35 [roadV r, .c (.d (.int .u32 b))] (ints (chN b r.ps.length)) := by
  refine pure_wkE (bad := []) (kp := kp35) (X := tx) (nt := 24) (rs := [.tmp 4]) Tryd.func35 rfl rfl rfl rfl mo (by kernel_rfl) rfl rfl (fun hf => ?_)
  simp only [go_sem, reduceIte, Nat.reduceEqDiff, Nat.reduceAdd, Nat.reduceLT, Nat.reduceLeDiff, Nat.reduceBEq, Nat.reduceMul, Nat.reduceSub, Nat.reduceDiv, Int.reduceNeg, Int.reduceLT, Int.reduceLE, Int.reduceEq, Int.reduceToNat, fillC, zc, List.replicate_succ, List.replicate_zero, List.flatten_cons, List.flatten_nil, toDs, toD, chunk, placeS, srcRows, List.all_cons, List.all_nil, List.all_map, Function.comp_def, List.take_nil, List.drop_nil, List.toList_toArray, C.eqbL, eqCs, eqC, List.drop_one, List.tail_cons, lim, roadV, roadC, lk35]
  refine goE_loop (bad := []) (kp := kp35) (fun i : Nat => { slots := [(1, .c (.d (.int .u32 b))), (2, .c (.ptr 0 0)), (5, .c (.own 1 ((chN b i).map iD))), (6, I i)], heap := [.cells (roadC r), .grow (chN b i).length 1], marks := [] }) (fun i => i ≤ r.ps.length) (fun i => r.ps.length - i) 0 mo (by kernel_rfl) ?_ (Nat.zero_le _) ?_
  · refine Ent.trans (ent_own 5 1 rfl) ?_
    refine ent_weaken [] rfl rfl (Nat.zero_le _) rfl rfl ?_
    simp only [go_sem, reduceIte, Nat.reduceEqDiff, Nat.reduceAdd, Nat.reduceLT, Nat.reduceLeDiff, Nat.reduceBEq, Nat.reduceMul, Nat.reduceSub, Nat.reduceDiv, Int.reduceNeg, Int.reduceLT, Int.reduceLE, Int.reduceEq, Int.reduceToNat, fillC, zc, List.replicate_succ, List.replicate_zero, List.flatten_cons, List.flatten_nil, toDs, toD, chunk, placeS, srcRows, List.all_cons, List.all_nil, List.all_map, Function.comp_def, List.take_nil, List.drop_nil, List.toList_toArray, C.eqbL, eqCs, eqC, List.drop_one, List.tail_cons, lim, roadC, chN, List.map_nil]
    exact .refl _
  rintro i hi
  simp only [go_sem, reduceIte, Nat.reduceEqDiff, Nat.reduceAdd, Nat.reduceLT, Nat.reduceLeDiff, Nat.reduceBEq, Nat.reduceMul, Nat.reduceSub, Nat.reduceDiv, Int.reduceNeg, Int.reduceLT, Int.reduceLE, Int.reduceEq, Int.reduceToNat, fillC, zc, List.replicate_succ, List.replicate_zero, List.flatten_cons, List.flatten_nil, toDs, toD, chunk, placeS, srcRows, List.all_cons, List.all_nil, List.all_map, Function.comp_def, List.take_nil, List.drop_nil, List.toList_toArray, C.eqbL, eqCs, eqC, List.drop_one, List.tail_cons, lim, roadC, lk35]
  refine goE_if (fun h => ?_) (fun h => ?_)
  · have hlt : i < r.ps.length := by simpa using h
    have hcl := chN_len b i
    have c0 : decide ((0 : Int) ≤ (i : Int)) = true := by simp
    by_cases h1 : bits .and .u32 (b.fdiv (2 ^ min i 32)) 1 = 1
    · have hs : chN b (i + 1) = chN b i ++ [(i : Int)] := by simp [chN, bitB, h1]
      simp only [go_sem, reduceIte, Nat.reduceEqDiff, Nat.reduceAdd, Nat.reduceLT, Nat.reduceLeDiff, Nat.reduceBEq, Nat.reduceMul, Nat.reduceSub, Nat.reduceDiv, Int.reduceNeg, Int.reduceLT, Int.reduceLE, Int.reduceEq, Int.reduceToNat, fillC, zc, List.replicate_succ, List.replicate_zero, List.flatten_cons, List.flatten_nil, toDs, toD, chunk, placeS, srcRows, List.all_cons, List.all_nil, List.all_map, Function.comp_def, List.take_nil, List.drop_nil, List.toList_toArray, C.eqbL, eqCs, eqC, List.drop_one, List.tail_cons, lim, c0, h1, bound, iD, lk35]
      refine ⟨by simp; omega, ?_⟩
      simp only [go_sem, reduceIte, Nat.reduceEqDiff, Nat.reduceAdd, Nat.reduceLT, Nat.reduceLeDiff, Nat.reduceBEq, Nat.reduceMul, Nat.reduceSub, Nat.reduceDiv, Int.reduceNeg, Int.reduceLT, Int.reduceLE, Int.reduceEq, Int.reduceToNat, fillC, zc, List.replicate_succ, List.replicate_zero, List.flatten_cons, List.flatten_nil, toDs, toD, chunk, placeS, srcRows, List.all_cons, List.all_nil, List.all_map, Function.comp_def, List.take_nil, List.drop_nil, List.toList_toArray, C.eqbL, eqCs, eqC, List.drop_one, List.tail_cons, lim, wr_succ hlt (show r.ps.length ≤ 140737488355328 by omega), lk35]
      refine ⟨i + 1, hlt, by omega, ?_⟩
      refine ent_weaken [] (by simp only [hs, List.append_nil, List.length_append, roadC]; rfl) rfl (Nat.zero_le _) rfl rfl ?_
      simp only [go_sem, reduceIte, Nat.reduceEqDiff, Nat.reduceAdd, Nat.reduceLT, Nat.reduceLeDiff, Nat.reduceBEq, Nat.reduceMul, Nat.reduceSub, Nat.reduceDiv, Int.reduceNeg, Int.reduceLT, Int.reduceLE, Int.reduceEq, Int.reduceToNat, fillC, zc, List.replicate_succ, List.replicate_zero, List.flatten_cons, List.flatten_nil, toDs, toD, chunk, placeS, srcRows, List.all_cons, List.all_nil, List.all_map, Function.comp_def, List.take_nil, List.drop_nil, List.toList_toArray, C.eqbL, eqCs, eqC, List.drop_one, List.tail_cons, lim, hs, List.map_append, iD]
      try exact .refl _
    · have hs : chN b (i + 1) = chN b i := by simp [chN, bitB, h1]
      simp only [go_sem, reduceIte, Nat.reduceEqDiff, Nat.reduceAdd, Nat.reduceLT, Nat.reduceLeDiff, Nat.reduceBEq, Nat.reduceMul, Nat.reduceSub, Nat.reduceDiv, Int.reduceNeg, Int.reduceLT, Int.reduceLE, Int.reduceEq, Int.reduceToNat, fillC, zc, List.replicate_succ, List.replicate_zero, List.flatten_cons, List.flatten_nil, toDs, toD, chunk, placeS, srcRows, List.all_cons, List.all_nil, List.all_map, Function.comp_def, List.take_nil, List.drop_nil, List.toList_toArray, C.eqbL, eqCs, eqC, List.drop_one, List.tail_cons, lim, c0, h1, wr_succ hlt (show r.ps.length ≤ 140737488355328 by omega), lk35]
      refine ⟨i + 1, hlt, by omega, ?_⟩
      refine ent_weaken [] (by simp only [hs, List.append_nil, roadC]) rfl (Nat.zero_le _) rfl rfl ?_
      simp only [go_sem, reduceIte, Nat.reduceEqDiff, Nat.reduceAdd, Nat.reduceLT, Nat.reduceLeDiff, Nat.reduceBEq, Nat.reduceMul, Nat.reduceSub, Nat.reduceDiv, Int.reduceNeg, Int.reduceLT, Int.reduceLE, Int.reduceEq, Int.reduceToNat, fillC, zc, List.replicate_succ, List.replicate_zero, List.flatten_cons, List.flatten_nil, toDs, toD, chunk, placeS, srcRows, List.all_cons, List.all_nil, List.all_map, Function.comp_def, List.take_nil, List.drop_nil, List.toList_toArray, C.eqbL, eqCs, eqC, List.drop_one, List.tail_cons, lim, hs]
  · have hi' : i = r.ps.length := by simp at h; omega
    subst hi'
    simp only [go_sem, reduceIte, Nat.reduceEqDiff, Nat.reduceAdd, Nat.reduceLT, Nat.reduceLeDiff, Nat.reduceBEq, Nat.reduceMul, Nat.reduceSub, Nat.reduceDiv, Int.reduceNeg, Int.reduceLT, Int.reduceLE, Int.reduceEq, Int.reduceToNat, fillC, zc, List.replicate_succ, List.replicate_zero, List.flatten_cons, List.flatten_nil, toDs, toD, chunk, placeS, srcRows, List.all_cons, List.all_nil, List.all_map, Function.comp_def, List.take_nil, List.drop_nil, List.toList_toArray, C.eqbL, eqCs, eqC, List.drop_one, List.tail_cons, lim, ints, lk35]

theorem okCh_chN {r : Rd} (h : okRoad r = 0) (b : Int) : okCh r (chN b r.ps.length) = 0 := by
  unfold okCh
  rw [if_neg (by simpa using h), chN_rises]; rfl
/-- Posts that are dead in a choice that holds. -/
theorem risesB_subl : ∀ {s l : List Int} {a b n : Int}, s.Sublist l → risesB l a n = true → b ≤ a → risesB s b n = true
  | [], _, _, _, _, _, _, _ => rfl
  | _ :: _, [], _, _, _, h, _, _ => by cases h
  | x :: s, y :: l, a, b, n, hs, h, hb => by
    simp only [risesB, Bool.and_eq_true, decide_eq_true_eq] at h
    cases hs with
    | cons _ hs => exact risesB_subl hs h.2 (by omega)
    | cons_cons _ hs =>
      simp only [risesB, Bool.and_eq_true, decide_eq_true_eq]
      exact ⟨by omega, risesB_subl hs h.2 (Int.le_refl _)⟩
theorem hold_dead {r : Rd} {l s : List Int} {pl : Int} (h : okCh r l = 0) (hh : holdsB r l = true) (hs : s.Sublist l) (hd : (s.length : Int) ≤ r.de) (h0 : 0 ≤ pl) (hp : pl < r.pl) : okDark r l pl s = 14 := by
  obtain ⟨hr, hris⟩ := okCh_ok h
  obtain ⟨hnd, hrng⟩ := rises_ok hris
  have hpl : ((pl.toNat : Nat) : Int) = pl := by omega
  have hat := litL_at h (k := pl.toNat) (by omega)
  rw [hpl] at hat
  have hc : r.de < cnt r l pl := by
    have := List.all_eq_true.1 hh _ (List.mem_of_getElem? hat)
    simpa using this
  unfold okDark
  rw [if_neg (by simpa using h), if_neg, if_neg, if_pos]
  · -- some lit post is not dead
    cases hany : l.any (fun x => !s.any (fun y => decide (y = x)) && litB r (po r x) pl) with
    | true => rfl
    | false =>
      exfalso
      have hsub : ∀ x ∈ l.filter (fun i => litB r (po r i) pl), x ∈ s := fun x hx => by
        have h1 := List.mem_filter.1 hx
        have h2 := List.any_eq_false.1 hany x h1.1
        rw [h1.2, Bool.and_true, Bool.not_eq_true, Bool.not_eq_false'] at h2
        obtain ⟨y, hy, e⟩ := List.any_eq_true.1 h2
        simp at e; subst e; exact hy
      have hlen : (l.filter (fun i => litB r (po r i) pl)).length ≤ s.length := (hnd.sublist List.filter_sublist).length_le_of_subset hsub
      rw [cnt_len] at hc
      omega
  · rw [Bool.not_eq_false, List.all_eq_true]
    intro y hy
    rw [List.any_eq_true]
    exact ⟨y, hs.subset hy, by simp⟩
  · have h2 : rises s r.ps.length = true := risesB_subl hs hris (Int.le_refl _)
    rw [h2]; simp; omega
end Go.Proofs.YteamgbndnfjoaaaDoor
