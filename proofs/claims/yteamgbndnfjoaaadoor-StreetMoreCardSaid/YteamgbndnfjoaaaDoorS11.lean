/- The reference of chapter 7: lit, Holds, Cost, IsChoice, Lit, Check. -/
import Derived.Test.YteamgbndnfjoaaaDoorS9
set_option linter.unusedSimpArgs false
set_option linter.unusedVariables false
set_option maxRecDepth 100000
namespace Go.Proofs.YteamgbndnfjoaaaDoor
open Go Go.Abs Go.Proofs
def kp42 : List (Nat × List Nat) := [(0, [1, 2]), (1, [1, 2, 5]), (2, [1, 2, 5, 6]), (3, [1, 2, 5, 6, 14]), (4, [1, 2, 5, 6]), (5, [1, 2, 5, 6, 7]), (6, [1, 2, 5, 6, 7, 20]), (7, [1, 2, 5, 6, 7]), (8, [1, 2, 5, 6, 7, 29]), (9, [1, 2, 5, 6, 7]), (10, [4])]
theorem lk42 : lookK kp42 0 = some [1, 2] ∧ lookK kp42 1 = some [1, 2, 5] ∧ lookK kp42 2 = some [1, 2, 5, 6] ∧ lookK kp42 3 = some [1, 2, 5, 6, 14] ∧ lookK kp42 4 = some [1, 2, 5, 6] ∧ lookK kp42 5 = some [1, 2, 5, 6, 7] ∧ lookK kp42 6 = some [1, 2, 5, 6, 7, 20] ∧ lookK kp42 7 = some [1, 2, 5, 6, 7] ∧ lookK kp42 8 = some [1, 2, 5, 6, 7, 29] ∧ lookK kp42 9 = some [1, 2, 5, 6, 7] ∧ lookK kp42 10 = some [4] := ⟨rfl, rfl, rfl, rfl, rfl, rfl, rfl, rfl, rfl, rfl, rfl⟩
def kp26 : List (Nat × List Nat) := [(0, [1, 2]), (1, [2, 5]), (2, [2, 5, 6]), (3, [2, 5, 6, 13]), (4, [2, 5, 6]), (5, [2, 5, 6, 22]), (6, [4]), (7, [4])]
theorem lk26 : lookK kp26 0 = some [1, 2] ∧ lookK kp26 1 = some [2, 5] ∧ lookK kp26 2 = some [2, 5, 6] ∧ lookK kp26 3 = some [2, 5, 6, 13] ∧ lookK kp26 4 = some [2, 5, 6] ∧ lookK kp26 5 = some [2, 5, 6, 22] ∧ lookK kp26 6 = some [4] ∧ lookK kp26 7 = some [4] := ⟨rfl, rfl, rfl, rfl, rfl, rfl, rfl, rfl⟩
def kp36 : List (Nat × List Nat) := [(0, [1, 2]), (1, [1, 2, 5]), (2, [1, 2, 5, 6]), (3, [1, 2, 5, 6, 10]), (4, [1, 2, 5, 6]), (5, [1, 2, 5, 6]), (6, [4])]
theorem lk36 : lookK kp36 0 = some [1, 2] ∧ lookK kp36 1 = some [1, 2, 5] ∧ lookK kp36 2 = some [1, 2, 5, 6] ∧ lookK kp36 3 = some [1, 2, 5, 6, 10] ∧ lookK kp36 4 = some [1, 2, 5, 6] ∧ lookK kp36 5 = some [1, 2, 5, 6] ∧ lookK kp36 6 = some [4] := ⟨rfl, rfl, rfl, rfl, rfl, rfl, rfl⟩
def kp25 : List (Nat × List Nat) := [(0, [1, 2]), (1, [1, 2, 7]), (2, [4]), (3, [15]), (4, [4]), (5, [4])]
theorem lk25 : lookK kp25 0 = some [1, 2] ∧ lookK kp25 1 = some [1, 2, 7] ∧ lookK kp25 2 = some [4] ∧ lookK kp25 3 = some [15] ∧ lookK kp25 4 = some [4] ∧ lookK kp25 5 = some [4] := ⟨rfl, rfl, rfl, rfl, rfl, rfl⟩
def kp16 : List (Nat × List Nat) := [(0, [1, 2]), (1, [1, 2, 9]), (2, [4, 5]), (3, [4, 5])]
theorem lk16 : lookK kp16 0 = some [1, 2] ∧ lookK kp16 1 = some [1, 2, 9] ∧ lookK kp16 2 = some [4, 5] ∧ lookK kp16 3 = some [4, 5] := ⟨rfl, rfl, rfl, rfl⟩
def kp18 : List (Nat × List Nat) := [(0, [1, 2]), (1, [1, 2, 9]), (2, [4, 5]), (3, [1, 2, 16]), (4, [4, 5]), (5, [4, 5])]
theorem lk18 : lookK kp18 0 = some [1, 2] ∧ lookK kp18 1 = some [1, 2, 9] ∧ lookK kp18 2 = some [4, 5] ∧ lookK kp18 3 = some [1, 2, 16] ∧ lookK kp18 4 = some [4, 5] ∧ lookK kp18 5 = some [4, 5] := ⟨rfl, rfl, rfl, rfl, rfl, rfl⟩
def kp33 : List (Nat × List Nat) := [(0, [1]), (1, [1, 3]), (2, [1, 3, 4]), (3, [1, 3, 4, 9]), (4, [1, 3, 4]), (5, [1, 3, 4]), (6, [2])]
theorem lk33 : lookK kp33 0 = some [1] ∧ lookK kp33 1 = some [1, 3] ∧ lookK kp33 2 = some [1, 3, 4] ∧ lookK kp33 3 = some [1, 3, 4, 9] ∧ lookK kp33 4 = some [1, 3, 4] ∧ lookK kp33 5 = some [1, 3, 4] ∧ lookK kp33 6 = some [2] := ⟨rfl, rfl, rfl, rfl, rfl, rfl, rfl⟩
def kp35 : List (Nat × List Nat) := [(0, [1, 2]), (1, [1, 2, 5]), (2, [1, 2, 5, 6]), (3, [1, 2, 5, 6, 11]), (4, [1, 2, 5, 6]), (5, [1, 2, 5, 6, 18]), (6, [1, 2, 5, 6]), (7, [4])]
theorem lk35 : lookK kp35 0 = some [1, 2] ∧ lookK kp35 1 = some [1, 2, 5] ∧ lookK kp35 2 = some [1, 2, 5, 6] ∧ lookK kp35 3 = some [1, 2, 5, 6, 11] ∧ lookK kp35 4 = some [1, 2, 5, 6] ∧ lookK kp35 5 = some [1, 2, 5, 6, 18] ∧ lookK kp35 6 = some [1, 2, 5, 6] ∧ lookK kp35 7 = some [4] := ⟨rfl, rfl, rfl, rfl, rfl, rfl, rfl, rfl⟩
def kp32 : List (Nat × List Nat) := [(0, [1]), (1, [2])]
theorem lk32 : lookK kp32 0 = some [1] ∧ lookK kp32 1 = some [2] := ⟨rfl, rfl⟩

set_option maxHeartbeats 1000000 in
theorem isChoice25 (r : Rd) (l : List Int) : Pure Tryd.prog 25 [roadV r, ints l] (I (okCh r l)) := by
  refine pure_wkE (bad := []) (kp := kp25) (X := tx) (nt := 16) (rs := [.tmp 4]) Tryd.func25 rfl rfl rfl rfl mo (by kernel_rfl) rfl rfl (fun hf => ?_)
  simp (config := { maxSteps := 2000000 }) only [go_sem, reduceIte, Nat.reduceEqDiff, Nat.reduceAdd, Nat.reduceLT, Nat.reduceLeDiff, Nat.reduceBEq, Nat.reduceMul, Nat.reduceSub, Nat.reduceDiv, Int.reduceNeg, Int.reduceLT, Int.reduceLE, Int.reduceEq, Int.reduceToNat, fillC, zc, List.replicate_succ, List.replicate_zero, List.flatten_cons, List.flatten_nil, toDs, toD, chunk, placeS, srcRows, List.all_cons, List.all_nil, List.all_map, Function.comp_def, List.take_nil, List.drop_nil, List.toList_toArray, C.eqbL, eqCs, eqC, List.drop_one, List.tail_cons, lim, lk42, lk26, lk36, lk25, lk16, lk18, lk33, lk35, lk32, roadV, roadC]
  refine aops_pure' (checkRoad20 r) rfl rfl (by first | exact wk_refls _ | (repeat constructor)) ?_
  by_cases h1 : okRoad r = 0
  · simp (config := { maxSteps := 2000000 }) only [go_sem, reduceIte, Nat.reduceEqDiff, Nat.reduceAdd, Nat.reduceLT, Nat.reduceLeDiff, Nat.reduceBEq, Nat.reduceMul, Nat.reduceSub, Nat.reduceDiv, Int.reduceNeg, Int.reduceLT, Int.reduceLE, Int.reduceEq, Int.reduceToNat, fillC, zc, List.replicate_succ, List.replicate_zero, List.flatten_cons, List.flatten_nil, toDs, toD, chunk, placeS, srcRows, List.all_cons, List.all_nil, List.all_map, Function.comp_def, List.take_nil, List.drop_nil, List.toList_toArray, C.eqbL, eqCs, eqC, List.drop_one, List.tail_cons, lim, lk42, lk26, lk36, lk25, lk16, lk18, lk33, lk35, lk32, h1]
    refine aops_pure' (rising49 l r.ps.length) rfl rfl (by first | exact wk_refls _ | (repeat constructor)) ?_
    cases h2 : rises l r.ps.length with
    | false =>
      have e : okCh r l = 3 := by simp [okCh, h1, h2]
      simp (config := { maxSteps := 2000000 }) only [go_sem, reduceIte, Nat.reduceEqDiff, Nat.reduceAdd, Nat.reduceLT, Nat.reduceLeDiff, Nat.reduceBEq, Nat.reduceMul, Nat.reduceSub, Nat.reduceDiv, Int.reduceNeg, Int.reduceLT, Int.reduceLE, Int.reduceEq, Int.reduceToNat, fillC, zc, List.replicate_succ, List.replicate_zero, List.flatten_cons, List.flatten_nil, toDs, toD, chunk, placeS, srcRows, List.all_cons, List.all_nil, List.all_map, Function.comp_def, List.take_nil, List.drop_nil, List.toList_toArray, C.eqbL, eqCs, eqC, List.drop_one, List.tail_cons, lim, lk42, lk26, lk36, lk25, lk16, lk18, lk33, lk35, lk32, e]
    | true =>
      have e : okCh r l = 0 := by simp [okCh, h1, h2]
      simp (config := { maxSteps := 2000000 }) only [go_sem, reduceIte, Nat.reduceEqDiff, Nat.reduceAdd, Nat.reduceLT, Nat.reduceLeDiff, Nat.reduceBEq, Nat.reduceMul, Nat.reduceSub, Nat.reduceDiv, Int.reduceNeg, Int.reduceLT, Int.reduceLE, Int.reduceEq, Int.reduceToNat, fillC, zc, List.replicate_succ, List.replicate_zero, List.flatten_cons, List.flatten_nil, toDs, toD, chunk, placeS, srcRows, List.all_cons, List.all_nil, List.all_map, Function.comp_def, List.take_nil, List.drop_nil, List.toList_toArray, C.eqbL, eqCs, eqC, List.drop_one, List.tail_cons, lim, lk42, lk26, lk36, lk25, lk16, lk18, lk33, lk35, lk32, e]
  · have e : okCh r l = okRoad r := by simp [okCh, h1]
    simp (config := { maxSteps := 2000000 }) only [go_sem, reduceIte, Nat.reduceEqDiff, Nat.reduceAdd, Nat.reduceLT, Nat.reduceLeDiff, Nat.reduceBEq, Nat.reduceMul, Nat.reduceSub, Nat.reduceDiv, Int.reduceNeg, Int.reduceLT, Int.reduceLE, Int.reduceEq, Int.reduceToNat, fillC, zc, List.replicate_succ, List.replicate_zero, List.flatten_cons, List.flatten_nil, toDs, toD, chunk, placeS, srcRows, List.all_cons, List.all_nil, List.all_map, Function.comp_def, List.take_nil, List.drop_nil, List.toList_toArray, C.eqbL, eqCs, eqC, List.drop_one, List.tail_cons, lim, lk42, lk26, lk36, lk25, lk16, lk18, lk33, lk35, lk32, h1]
    refine aops_pure' (checkRoad20 r) rfl rfl (by first | exact wk_refls _ | (repeat constructor)) ?_
    simp (config := { maxSteps := 2000000 }) only [go_sem, reduceIte, Nat.reduceEqDiff, Nat.reduceAdd, Nat.reduceLT, Nat.reduceLeDiff, Nat.reduceBEq, Nat.reduceMul, Nat.reduceSub, Nat.reduceDiv, Int.reduceNeg, Int.reduceLT, Int.reduceLE, Int.reduceEq, Int.reduceToNat, fillC, zc, List.replicate_succ, List.replicate_zero, List.flatten_cons, List.flatten_nil, toDs, toD, chunk, placeS, srcRows, List.all_cons, List.all_nil, List.all_map, Function.comp_def, List.take_nil, List.drop_nil, List.toList_toArray, C.eqbL, eqCs, eqC, List.drop_one, List.tail_cons, lim, lk42, lk26, lk36, lk25, lk16, lk18, lk33, lk35, lk32, e]

/-- By how many posts of a list a place is lit. -/
def cnt (r : Rd) (l : List Int) (k : Int) : Int := (l.map fun i => if litB r (po r i) k then (1 : Int) else 0).sum
theorem litP_ext {r : Rd} {f g : Nat → Int} (k : Int) : ∀ m, (∀ i, i < m → f i = g i) → litP r f m k = litP r g m k
  | 0, _ => rfl
  | m + 1, h => by simp only [litP, litP_ext k m (fun i hi => h i (by omega)), h m (by omega)]
theorem litP_add {r : Rd} {f : Nat → Int} {x : Nat} (k : Int) (hf : f x = 0) : ∀ m, x < m → litP r (upd f x 1) m k = litP r f m k + if litB r (po r x) k then 1 else 0
  | 0, h => by omega
  | m + 1, h => by
    simp only [litP]
    by_cases e : x = m
    · subst e
      rw [litP_ext (f := upd f x 1) (g := f) k x (fun i hi => upd_ne _ _ (by omega)), upd_same, hf]
      split <;> omega
    · rw [litP_add k hf m (by omega), upd_ne _ _ (Ne.symm e)]
      omega
theorem litP_zero (r : Rd) (k : Int) : ∀ m, litP r zf m k = 0
  | 0 => rfl
  | m + 1 => by simp [litP, litP_zero r k m, zf]
theorem ind_ext {a b : List Int} (h : ∀ x, x ∈ a ↔ x ∈ b) : ind a = ind b := by funext j; simp [ind, h]
theorem risesB_nodup : ∀ {l : List Int} {a n : Int}, risesB l a n = true → l.Nodup
  | [], _, _, _ => .nil
  | x :: l, a, n, h => by
    simp only [risesB, Bool.and_eq_true] at h
    rw [List.nodup_cons]
    exact ⟨fun hx => by have := (rises_rng h.2 x hx).1; omega, risesB_nodup h.2⟩
theorem litP_cnt {r : Rd} (k : Int) : ∀ (l : List Int), l.Nodup → (∀ x ∈ l, 0 ≤ x ∧ x < r.ps.length) → litP r (ind l) r.ps.length k = cnt r l k
  | [], _, _ => by
    have : ind [] = zf := by funext j; simp [ind, zf]
    rw [this, litP_zero]; rfl
  | x :: l, hn, hr => by
    rw [List.nodup_cons] at hn
    obtain ⟨h0, h1⟩ := hr x (by simp)
    have hx : ind (x :: l) = upd (ind l) x.toNat 1 := by
      funext j
      simp only [ind, upd, List.mem_cons]
      by_cases e : j = x.toNat
      · subst e
        have : ((x.toNat : Nat) : Int) = x := by omega
        simp [this]
      · have : ¬ (j : Int) = x := by omega
        simp [e, this]
    have hz : ind l x.toNat = 0 := by
      have : ((x.toNat : Nat) : Int) = x := by omega
      simp [ind, this, hn.1]
    have hx2 : ((x.toNat : Nat) : Int) = x := by omega
    rw [hx, litP_add k hz _ (by omega), litP_cnt k l hn.2 (fun y hy => hr y (by simp [hy])), hx2]
    simp only [cnt, List.map_cons, List.sum_cons]
    omega
theorem rises_ok {r : Rd} {l : List Int} (h : rises l r.ps.length = true) : l.Nodup ∧ ∀ x ∈ l, 0 ≤ x ∧ x < r.ps.length :=
  ⟨risesB_nodup h, fun x hx => by have := rises_rng h x hx; omega⟩
theorem cnt_bnd (r : Rd) (k : Int) : ∀ l : List Int, 0 ≤ cnt r l k ∧ cnt r l k ≤ l.length
  | [] => by simp [cnt]
  | x :: l => by
    have := cnt_bnd r k l
    simp only [cnt, List.map_cons, List.sum_cons, List.length_cons] at this ⊢
    split <;> omega
theorem cnt_snoc (r : Rd) (k : Int) (l : List Int) (x : Int) : cnt r (l ++ [x]) k = cnt r l k + if litB r (po r x) k then 1 else 0 := by
  simp [cnt, List.sum_append]
/-- In the midst of a post. -/
def cntM (r : Rd) (l : List Int) (i j : Nat) : Nat → Int := fun k => if k < j then cnt r (l.take (i + 1)) (k : Int) else cnt r (l.take i) (k : Int)
theorem cntM_zero (r : Rd) (l : List Int) (i : Nat) : cntM r l i 0 = fun k : Nat => cnt r (l.take i) (k : Int) := by funext k; simp [cntM]
theorem cntM_all (r : Rd) (l : List Int) (i n : Nat) : numsD n (cntM r l i n) = numsD n (fun k : Nat => cnt r (l.take (i + 1)) (k : Int)) := by
  refine List.map_congr_left fun k hk => ?_
  simp at hk
  simp [cntM, hk]
theorem cntM_upd {r : Rd} {l : List Int} {i j : Nat} {v : Int} (h : v = cnt r (l.take (i + 1)) (j : Int)) : upd (cntM r l i j) j v = cntM r l i (j + 1) := by
  funext k
  by_cases e : k = j
  · subst e; rw [upd_same, h]; simp [cntM]
  · rw [upd_ne _ _ e]
    simp only [cntM]
    have : k < j + 1 ↔ k < j := by omega
    simp only [this]
theorem cntM_skip {r : Rd} {l : List Int} {i j : Nat} (h : cnt r (l.take (i + 1)) (j : Int) = cnt r (l.take i) (j : Int)) : cntM r l i j = cntM r l i (j + 1) := by
  funext k
  simp only [cntM]
  by_cases e : k = j
  · subst e; simp [h]
  · have : k < j + 1 ↔ k < j := by omega
    simp only [this]
set_option maxHeartbeats 4000000 in
theorem lit42 (r : Rd) (l : List Int) (hr : OkR r) (hris : rises l r.ps.length = true) : Pure Tryd.prog 42 [roadV r, ints l] (ints (litL r (ind l))) := by
  refine pure_fzE (bad := []) (kp := kp42) (X := tx) (nt := 37) (rs := [.tmp 4]) Tryd.func42 rfl rfl rfl rfl mo (by kernel_rfl) rfl rfl (fun hf => ?_)
  have hfit := fit_ints (hf (ints l) (by simp))
  obtain ⟨hnd, hrng⟩ := rises_ok hris
  have h1 := hr.p1
  have h40 := hr.p40
  have hlen := hr.len
  have d1 : decide (0 ≤ r.pl) = true := by simp; omega
  have d2 : decide (r.pl ≤ 140737488355328) = true := by simp; omega
  have d3 : decide (8 * r.pl ≤ 140737488355328) = true := by simp; omega
  have d4 : decide (r.pl.toNat ≤ 140737488355328) = true := by simp; omega
  have hlowc : ∀ f, [AB.cells (roadC r), AB.cells (numsC r.pl.toNat f)].all (AB.low 2) = true := fun f => by simp only [List.all_cons, List.all_nil, AB.low, numsC_low, roadC_low, Bool.and_self]
  simp (config := { maxSteps := 2000000 }) only [go_sem, reduceIte, Nat.reduceEqDiff, Nat.reduceAdd, Nat.reduceLT, Nat.reduceLeDiff, Nat.reduceBEq, Nat.reduceMul, Nat.reduceSub, Nat.reduceDiv, Int.reduceNeg, Int.reduceLT, Int.reduceLE, Int.reduceEq, Int.reduceToNat, fillC, zc, List.replicate_succ, List.replicate_zero, List.flatten_cons, List.flatten_nil, toDs, toD, chunk, placeS, srcRows, List.all_cons, List.all_nil, List.all_map, Function.comp_def, List.take_nil, List.drop_nil, List.toList_toArray, C.eqbL, eqCs, eqC, List.drop_one, List.tail_cons, lim, lk42, lk26, lk36, lk25, lk16, lk18, lk33, lk35, lk32, roadV, roadC, d1, d2, d3, d4]
  refine ⟨by rw [Bool.and_eq_true, Bool.and_eq_true]; exact ⟨⟨decide_eq_true (Int.le_refl _), decide_eq_true (Int.le_trans (Int.mul_le_mul_of_nonneg_left h40 (by decide)) (show (8 : Int) * 40 ≤ 140737488355328 by decide))⟩, decide_eq_true (Int.le_trans h40 (show (40 : Int) ≤ 140737488355328 by decide))⟩, ?_⟩
  refine goE_loop (bad := []) (kp := kp42) (fun i : Nat => { slots := [(1, ints l), (2, .c (.ptr 0 0)), (5, .c (.ms 1 0 r.pl.toNat r.pl.toNat)), (6, I i)], heap := [.cells (roadC r), .cells (numsC r.pl.toNat (fun k : Nat => cnt r (l.take i) (k : Int)))], marks := [] }) (fun i => i ≤ l.length) (fun i => l.length - i) 0 mo (by kernel_rfl) ?_ (Nat.zero_le _) ?_
  · refine ent_weaken [] (by simp only [List.take_zero, cnt, List.map_nil, List.sum_nil, List.append_nil, ← zc_nums]; rfl) rfl (Nat.zero_le _) (hlowc _) rfl ?_
    simp (config := { maxSteps := 2000000 }) only [go_sem, reduceIte, Nat.reduceEqDiff, Nat.reduceAdd, Nat.reduceLT, Nat.reduceLeDiff, Nat.reduceBEq, Nat.reduceMul, Nat.reduceSub, Nat.reduceDiv, Int.reduceNeg, Int.reduceLT, Int.reduceLE, Int.reduceEq, Int.reduceToNat, fillC, zc, List.replicate_succ, List.replicate_zero, List.flatten_cons, List.flatten_nil, toDs, toD, chunk, placeS, srcRows, List.all_cons, List.all_nil, List.all_map, Function.comp_def, List.take_nil, List.drop_nil, List.toList_toArray, C.eqbL, eqCs, eqC, List.drop_one, List.tail_cons, lim, lk42, lk26, lk36, lk25, lk16, lk18, lk33, lk35, lk32, ints, roadC]
    exact .refl _
  rintro i hi
  simp (config := { maxSteps := 2000000 }) only [go_sem, reduceIte, Nat.reduceEqDiff, Nat.reduceAdd, Nat.reduceLT, Nat.reduceLeDiff, Nat.reduceBEq, Nat.reduceMul, Nat.reduceSub, Nat.reduceDiv, Int.reduceNeg, Int.reduceLT, Int.reduceLE, Int.reduceEq, Int.reduceToNat, fillC, zc, List.replicate_succ, List.replicate_zero, List.flatten_cons, List.flatten_nil, toDs, toD, chunk, placeS, srcRows, List.all_cons, List.all_nil, List.all_map, Function.comp_def, List.take_nil, List.drop_nil, List.toList_toArray, C.eqbL, eqCs, eqC, List.drop_one, List.tail_cons, lim, lk42, lk26, lk36, lk25, lk16, lk18, lk33, lk35, lk32, ints, roadC]
  refine goE_if (fun h => ?_) (fun h => ?_)
  · have hlt : i < l.length := by simpa using h
    obtain ⟨x, hx⟩ := get_of_lt hlt
    obtain ⟨x0, x1⟩ := hrng x (List.mem_of_getElem? hx)
    have cx : (decide ((0 : Int) ≤ (i : Int)) && decide ((i : Int) < (l.length : Int))) = true := by simp; omega
    simp (config := { maxSteps := 2000000 }) only [go_sem, reduceIte, Nat.reduceEqDiff, Nat.reduceAdd, Nat.reduceLT, Nat.reduceLeDiff, Nat.reduceBEq, Nat.reduceMul, Nat.reduceSub, Nat.reduceDiv, Int.reduceNeg, Int.reduceLT, Int.reduceLE, Int.reduceEq, Int.reduceToNat, fillC, zc, List.replicate_succ, List.replicate_zero, List.flatten_cons, List.flatten_nil, toDs, toD, chunk, placeS, srcRows, List.all_cons, List.all_nil, List.all_map, Function.comp_def, List.take_nil, List.drop_nil, List.toList_toArray, C.eqbL, eqCs, eqC, List.drop_one, List.tail_cons, lim, lk42, lk26, lk36, lk25, lk16, lk18, lk33, lk35, lk32]
    refine goE_loop (bad := []) (kp := kp42) (fun j : Nat => { slots := [(1, ints l), (2, .c (.ptr 0 0)), (5, .c (.ms 1 0 r.pl.toNat r.pl.toNat)), (6, I i), (7, I j)], heap := [.cells (roadC r), .cells (numsC r.pl.toNat (cntM r l i j))], marks := [] }) (fun j => j ≤ r.pl.toNat) (fun j => r.pl.toNat - j) 0 mo (by kernel_rfl) ?_ (Nat.zero_le _) ?_
    · refine ent_weaken [] (by simp only [cntM_zero, List.append_nil]; rfl) rfl (Nat.zero_le _) (hlowc _) rfl ?_
      simp (config := { maxSteps := 2000000 }) only [go_sem, reduceIte, Nat.reduceEqDiff, Nat.reduceAdd, Nat.reduceLT, Nat.reduceLeDiff, Nat.reduceBEq, Nat.reduceMul, Nat.reduceSub, Nat.reduceDiv, Int.reduceNeg, Int.reduceLT, Int.reduceLE, Int.reduceEq, Int.reduceToNat, fillC, zc, List.replicate_succ, List.replicate_zero, List.flatten_cons, List.flatten_nil, toDs, toD, chunk, placeS, srcRows, List.all_cons, List.all_nil, List.all_map, Function.comp_def, List.take_nil, List.drop_nil, List.toList_toArray, C.eqbL, eqCs, eqC, List.drop_one, List.tail_cons, lim, lk42, lk26, lk36, lk25, lk16, lk18, lk33, lk35, lk32, ints]
      exact .refl _
    rintro j hj
    simp (config := { maxSteps := 2000000 }) only [go_sem, reduceIte, Nat.reduceEqDiff, Nat.reduceAdd, Nat.reduceLT, Nat.reduceLeDiff, Nat.reduceBEq, Nat.reduceMul, Nat.reduceSub, Nat.reduceDiv, Int.reduceNeg, Int.reduceLT, Int.reduceLE, Int.reduceEq, Int.reduceToNat, fillC, zc, List.replicate_succ, List.replicate_zero, List.flatten_cons, List.flatten_nil, toDs, toD, chunk, placeS, srcRows, List.all_cons, List.all_nil, List.all_map, Function.comp_def, List.take_nil, List.drop_nil, List.toList_toArray, C.eqbL, eqCs, eqC, List.drop_one, List.tail_cons, lim, lk42, lk26, lk36, lk25, lk16, lk18, lk33, lk35, lk32, ints, roadC]
    refine goE_if (fun h => ?_) (fun h => ?_)
    · have hjl : j < r.pl.toNat := by simp only [decide_eq_true_eq] at h; omega
      simp (config := { maxSteps := 2000000 }) only [go_sem, reduceIte, Nat.reduceEqDiff, Nat.reduceAdd, Nat.reduceLT, Nat.reduceLeDiff, Nat.reduceBEq, Nat.reduceMul, Nat.reduceSub, Nat.reduceDiv, Int.reduceNeg, Int.reduceLT, Int.reduceLE, Int.reduceEq, Int.reduceToNat, fillC, zc, List.replicate_succ, List.replicate_zero, List.flatten_cons, List.flatten_nil, toDs, toD, chunk, placeS, srcRows, List.all_cons, List.all_nil, List.all_map, Function.comp_def, List.take_nil, List.drop_nil, List.toList_toArray, C.eqbL, eqCs, eqC, List.drop_one, List.tail_cons, lim, lk42, lk26, lk36, lk25, lk16, lk18, lk33, lk35, lk32, hx, iD, cx]
      refine dops_pure' (lights51 r x j hr x0 x1) rfl rfl (by first | exact wk_refls _ | (repeat constructor)) (by kernel_rfl) ?_
      simp (config := { maxSteps := 2000000 }) only [go_sem, reduceIte, Nat.reduceEqDiff, Nat.reduceAdd, Nat.reduceLT, Nat.reduceLeDiff, Nat.reduceBEq, Nat.reduceMul, Nat.reduceSub, Nat.reduceDiv, Int.reduceNeg, Int.reduceLT, Int.reduceLE, Int.reduceEq, Int.reduceToNat, fillC, zc, List.replicate_succ, List.replicate_zero, List.flatten_cons, List.flatten_nil, toDs, toD, chunk, placeS, srcRows, List.all_cons, List.all_nil, List.all_map, Function.comp_def, List.take_nil, List.drop_nil, List.toList_toArray, C.eqbL, eqCs, eqC, List.drop_one, List.tail_cons, lim, lk42, lk26, lk36, lk25, lk16, lk18, lk33, lk35, lk32]
      have hsn : ∀ k, cnt r (l.take (i + 1)) k = cnt r (l.take i) k + if litB r (po r x) k then 1 else 0 := fun k => by rw [take_succ_eq hx, cnt_snoc]
      refine goE_if (fun h => ?_) (fun h => ?_)
      · have g1 := numsC_get (cntM r l i j) hjl
        have gl := numsC_len r.pl.toNat (cntM r l i j)
        have g3 : cntM r l i j j = cnt r (l.take i) (j : Int) := by simp [cntM]
        have b1 := cnt_bnd r (j : Int) (l.take i)
        have b2 : (l.take i).length ≤ i := List.length_take_le _ _
        have g4 : wr .i64 (cnt r (l.take i) (j : Int) + 1) = cnt r (l.take (i + 1)) (j : Int) := by
          rw [hsn, if_pos h]; exact wr_id (by omega) (by omega)
        have c1 : decide ((j : Int) < (r.pl.toNat : Int)) = true := decide_eq_true (by omega)
        have c3 : decide (j + 1 ≤ r.pl.toNat) = true := decide_eq_true (by omega)
        simp (config := { maxSteps := 2000000 }) only [go_sem, reduceIte, Nat.reduceEqDiff, Nat.reduceAdd, Nat.reduceLT, Nat.reduceLeDiff, Nat.reduceBEq, Nat.reduceMul, Nat.reduceSub, Nat.reduceDiv, Int.reduceNeg, Int.reduceLT, Int.reduceLE, Int.reduceEq, Int.reduceToNat, fillC, zc, List.replicate_succ, List.replicate_zero, List.flatten_cons, List.flatten_nil, toDs, toD, chunk, placeS, srcRows, List.all_cons, List.all_nil, List.all_map, Function.comp_def, List.take_nil, List.drop_nil, List.toList_toArray, C.eqbL, eqCs, eqC, List.drop_one, List.tail_cons, lim, lk42, lk26, lk36, lk25, lk16, lk18, lk33, lk35, lk32, g1, gl, g3, g4, c1, c3, Nat.mul_one, wr_succ hjl (show r.pl.toNat ≤ 140737488355328 by omega)]
        refine ⟨by simp, by simp, j + 1, by omega, by omega, ?_⟩
        refine ent_weaken [] (by rw [numsC_set, cntM_upd rfl]; rfl) rfl (Nat.zero_le _) (hlowc _) rfl ?_
        simp (config := { maxSteps := 2000000 }) only [go_sem, reduceIte, Nat.reduceEqDiff, Nat.reduceAdd, Nat.reduceLT, Nat.reduceLeDiff, Nat.reduceBEq, Nat.reduceMul, Nat.reduceSub, Nat.reduceDiv, Int.reduceNeg, Int.reduceLT, Int.reduceLE, Int.reduceEq, Int.reduceToNat, fillC, zc, List.replicate_succ, List.replicate_zero, List.flatten_cons, List.flatten_nil, toDs, toD, chunk, placeS, srcRows, List.all_cons, List.all_nil, List.all_map, Function.comp_def, List.take_nil, List.drop_nil, List.toList_toArray, C.eqbL, eqCs, eqC, List.drop_one, List.tail_cons, lim, lk42, lk26, lk36, lk25, lk16, lk18, lk33, lk35, lk32]
      · simp (config := { maxSteps := 2000000 }) only [go_sem, reduceIte, Nat.reduceEqDiff, Nat.reduceAdd, Nat.reduceLT, Nat.reduceLeDiff, Nat.reduceBEq, Nat.reduceMul, Nat.reduceSub, Nat.reduceDiv, Int.reduceNeg, Int.reduceLT, Int.reduceLE, Int.reduceEq, Int.reduceToNat, fillC, zc, List.replicate_succ, List.replicate_zero, List.flatten_cons, List.flatten_nil, toDs, toD, chunk, placeS, srcRows, List.all_cons, List.all_nil, List.all_map, Function.comp_def, List.take_nil, List.drop_nil, List.toList_toArray, C.eqbL, eqCs, eqC, List.drop_one, List.tail_cons, lim, lk42, lk26, lk36, lk25, lk16, lk18, lk33, lk35, lk32, wr_succ hjl (show r.pl.toNat ≤ 140737488355328 by omega)]
        refine ⟨j + 1, by omega, by omega, ?_⟩
        refine ent_weaken [] (by rw [cntM_skip (by rw [hsn, h]; simp)]; rfl) rfl (Nat.zero_le _) (hlowc _) rfl ?_
        simp (config := { maxSteps := 2000000 }) only [go_sem, reduceIte, Nat.reduceEqDiff, Nat.reduceAdd, Nat.reduceLT, Nat.reduceLeDiff, Nat.reduceBEq, Nat.reduceMul, Nat.reduceSub, Nat.reduceDiv, Int.reduceNeg, Int.reduceLT, Int.reduceLE, Int.reduceEq, Int.reduceToNat, fillC, zc, List.replicate_succ, List.replicate_zero, List.flatten_cons, List.flatten_nil, toDs, toD, chunk, placeS, srcRows, List.all_cons, List.all_nil, List.all_map, Function.comp_def, List.take_nil, List.drop_nil, List.toList_toArray, C.eqbL, eqCs, eqC, List.drop_one, List.tail_cons, lim, lk42, lk26, lk36, lk25, lk16, lk18, lk33, lk35, lk32]
    · have hj' : j = r.pl.toNat := by simp only [decide_eq_false_iff_not] at h; omega
      subst hj'
      simp (config := { maxSteps := 2000000 }) only [go_sem, reduceIte, Nat.reduceEqDiff, Nat.reduceAdd, Nat.reduceLT, Nat.reduceLeDiff, Nat.reduceBEq, Nat.reduceMul, Nat.reduceSub, Nat.reduceDiv, Int.reduceNeg, Int.reduceLT, Int.reduceLE, Int.reduceEq, Int.reduceToNat, fillC, zc, List.replicate_succ, List.replicate_zero, List.flatten_cons, List.flatten_nil, toDs, toD, chunk, placeS, srcRows, List.all_cons, List.all_nil, List.all_map, Function.comp_def, List.take_nil, List.drop_nil, List.toList_toArray, C.eqbL, eqCs, eqC, List.drop_one, List.tail_cons, lim, lk42, lk26, lk36, lk25, lk16, lk18, lk33, lk35, lk32, wr_succ hlt hfit]
      refine ⟨i + 1, by omega, by omega, ?_⟩
      refine ent_weaken [] (by simp only [numsC, cntM_all, List.append_nil, roadC]) rfl (Nat.zero_le _) (hlowc _) rfl ?_
      simp (config := { maxSteps := 2000000 }) only [go_sem, reduceIte, Nat.reduceEqDiff, Nat.reduceAdd, Nat.reduceLT, Nat.reduceLeDiff, Nat.reduceBEq, Nat.reduceMul, Nat.reduceSub, Nat.reduceDiv, Int.reduceNeg, Int.reduceLT, Int.reduceLE, Int.reduceEq, Int.reduceToNat, fillC, zc, List.replicate_succ, List.replicate_zero, List.flatten_cons, List.flatten_nil, toDs, toD, chunk, placeS, srcRows, List.all_cons, List.all_nil, List.all_map, Function.comp_def, List.take_nil, List.drop_nil, List.toList_toArray, C.eqbL, eqCs, eqC, List.drop_one, List.tail_cons, lim, lk42, lk26, lk36, lk25, lk16, lk18, lk33, lk35, lk32]
  · have hi' : i = l.length := by simp at h; omega
    subst hi'
    have hcl : (fun k : Nat => cnt r (l.take l.length) (k : Int)) = fun k : Nat => litP r (ind l) r.ps.length (k : Int) := by
      funext k
      rw [List.take_length, litP_cnt _ l hnd hrng]
    rw [hcl]
    simp (config := { maxSteps := 2000000 }) only [go_sem, reduceIte, Nat.reduceEqDiff, Nat.reduceAdd, Nat.reduceLT, Nat.reduceLeDiff, Nat.reduceBEq, Nat.reduceMul, Nat.reduceSub, Nat.reduceDiv, Int.reduceNeg, Int.reduceLT, Int.reduceLE, Int.reduceEq, Int.reduceToNat, fillC, zc, List.replicate_succ, List.replicate_zero, List.flatten_cons, List.flatten_nil, toDs, toD, chunk, placeS, srcRows, List.all_cons, List.all_nil, List.all_map, Function.comp_def, List.take_nil, List.drop_nil, List.toList_toArray, C.eqbL, eqCs, eqC, List.drop_one, List.tail_cons, lim, lk42, lk26, lk36, lk25, lk16, lk18, lk33, lk35, lk32]
    refine ⟨1, numsC r.pl.toNat (fun k : Nat => litP r (ind l) r.ps.length (k : Int)), numsD r.pl.toNat (fun k : Nat => litP r (ind l) r.ps.length (k : Int)), _, rfl, toDs_d _, .v (.c (.ms 0 1 r.pl.toNat r.pl.toNat (by rw [numsD_len]; omega) (Nat.le_refl _) (by unfold lim; omega))), ?_⟩
    rw [List.drop_zero, chunk_nums, litL, List.map_map]
    exact .refl _

set_option maxHeartbeats 2000000 in
theorem holds26 (r : Rd) (l : List Int) (h : okCh r l = 0) : Pure Tryd.prog 26 [roadV r, ints l] (B (holdsB r l)) := by
  refine pure_wkE (bad := []) (kp := kp26) (X := tx) (nt := 23) (rs := [.tmp 4]) Tryd.func26 rfl rfl rfl rfl mo (by kernel_rfl) rfl rfl (fun hf => ?_)
  obtain ⟨hr, hris⟩ := okCh_ok h
  have h1 := hr.p1
  have h40 := hr.p40
  have hll := litL_len r (ind l)
  simp (config := { maxSteps := 2000000 }) only [go_sem, reduceIte, Nat.reduceEqDiff, Nat.reduceAdd, Nat.reduceLT, Nat.reduceLeDiff, Nat.reduceBEq, Nat.reduceMul, Nat.reduceSub, Nat.reduceDiv, Int.reduceNeg, Int.reduceLT, Int.reduceLE, Int.reduceEq, Int.reduceToNat, fillC, zc, List.replicate_succ, List.replicate_zero, List.flatten_cons, List.flatten_nil, toDs, toD, chunk, placeS, srcRows, List.all_cons, List.all_nil, List.all_map, Function.comp_def, List.take_nil, List.drop_nil, List.toList_toArray, C.eqbL, eqCs, eqC, List.drop_one, List.tail_cons, lim, lk42, lk26, lk36, lk25, lk16, lk18, lk33, lk35, lk32, roadV, roadC]
  refine aops_pure' (lit42 r l hr hris) rfl rfl (by first | exact wk_refls _ | (repeat constructor)) ?_
  simp (config := { maxSteps := 2000000 }) only [go_sem, reduceIte, Nat.reduceEqDiff, Nat.reduceAdd, Nat.reduceLT, Nat.reduceLeDiff, Nat.reduceBEq, Nat.reduceMul, Nat.reduceSub, Nat.reduceDiv, Int.reduceNeg, Int.reduceLT, Int.reduceLE, Int.reduceEq, Int.reduceToNat, fillC, zc, List.replicate_succ, List.replicate_zero, List.flatten_cons, List.flatten_nil, toDs, toD, chunk, placeS, srcRows, List.all_cons, List.all_nil, List.all_map, Function.comp_def, List.take_nil, List.drop_nil, List.toList_toArray, C.eqbL, eqCs, eqC, List.drop_one, List.tail_cons, lim, lk42, lk26, lk36, lk25, lk16, lk18, lk33, lk35, lk32]
  refine goE_loop (bad := []) (kp := kp26) (fun i : Nat => { slots := [(2, .c (.ptr 0 0)), (5, ints (litL r (ind l))), (6, I i)], heap := [.cells (roadC r)], marks := [] }) (fun i => i ≤ (litL r (ind l)).length ∧ ∀ j x, j < i → (litL r (ind l))[j]? = some x → decide (x ≤ r.de) = false) (fun i => (litL r (ind l)).length - i) 0 mo (by kernel_rfl) ?_ ⟨Nat.zero_le _, by intro j x hj; omega⟩ ?_
  · refine ent_weaken [] rfl rfl (Nat.zero_le _) rfl rfl ?_
    simp (config := { maxSteps := 2000000 }) only [go_sem, reduceIte, Nat.reduceEqDiff, Nat.reduceAdd, Nat.reduceLT, Nat.reduceLeDiff, Nat.reduceBEq, Nat.reduceMul, Nat.reduceSub, Nat.reduceDiv, Int.reduceNeg, Int.reduceLT, Int.reduceLE, Int.reduceEq, Int.reduceToNat, fillC, zc, List.replicate_succ, List.replicate_zero, List.flatten_cons, List.flatten_nil, toDs, toD, chunk, placeS, srcRows, List.all_cons, List.all_nil, List.all_map, Function.comp_def, List.take_nil, List.drop_nil, List.toList_toArray, C.eqbL, eqCs, eqC, List.drop_one, List.tail_cons, lim, lk42, lk26, lk36, lk25, lk16, lk18, lk33, lk35, lk32, ints, roadC]
    exact .refl _
  rintro i ⟨hi, hall⟩
  simp (config := { maxSteps := 2000000 }) only [go_sem, reduceIte, Nat.reduceEqDiff, Nat.reduceAdd, Nat.reduceLT, Nat.reduceLeDiff, Nat.reduceBEq, Nat.reduceMul, Nat.reduceSub, Nat.reduceDiv, Int.reduceNeg, Int.reduceLT, Int.reduceLE, Int.reduceEq, Int.reduceToNat, fillC, zc, List.replicate_succ, List.replicate_zero, List.flatten_cons, List.flatten_nil, toDs, toD, chunk, placeS, srcRows, List.all_cons, List.all_nil, List.all_map, Function.comp_def, List.take_nil, List.drop_nil, List.toList_toArray, C.eqbL, eqCs, eqC, List.drop_one, List.tail_cons, lim, lk42, lk26, lk36, lk25, lk16, lk18, lk33, lk35, lk32, ints, roadC]
  refine goE_if (fun h => ?_) (fun h => ?_)
  · have hlt : i < (litL r (ind l)).length := by simpa using h
    obtain ⟨x, hx⟩ := get_of_lt hlt
    have cx : (decide ((0 : Int) ≤ (i : Int)) && decide ((i : Int) < ((litL r (ind l)).length : Int))) = true := by simp; omega
    simp (config := { maxSteps := 2000000 }) only [go_sem, reduceIte, Nat.reduceEqDiff, Nat.reduceAdd, Nat.reduceLT, Nat.reduceLeDiff, Nat.reduceBEq, Nat.reduceMul, Nat.reduceSub, Nat.reduceDiv, Int.reduceNeg, Int.reduceLT, Int.reduceLE, Int.reduceEq, Int.reduceToNat, fillC, zc, List.replicate_succ, List.replicate_zero, List.flatten_cons, List.flatten_nil, toDs, toD, chunk, placeS, srcRows, List.all_cons, List.all_nil, List.all_map, Function.comp_def, List.take_nil, List.drop_nil, List.toList_toArray, C.eqbL, eqCs, eqC, List.drop_one, List.tail_cons, lim, lk42, lk26, lk36, lk25, lk16, lk18, lk33, lk35, lk32, hx, iD, cx]
    refine goE_if (fun h => ?_) (fun h => ?_)
    · have e : holdsB r l = false := by
        rw [holdsB, List.all_eq_false]
        exact ⟨x, List.mem_of_getElem? hx, by simpa using h⟩
      simp (config := { maxSteps := 2000000 }) only [go_sem, reduceIte, Nat.reduceEqDiff, Nat.reduceAdd, Nat.reduceLT, Nat.reduceLeDiff, Nat.reduceBEq, Nat.reduceMul, Nat.reduceSub, Nat.reduceDiv, Int.reduceNeg, Int.reduceLT, Int.reduceLE, Int.reduceEq, Int.reduceToNat, fillC, zc, List.replicate_succ, List.replicate_zero, List.flatten_cons, List.flatten_nil, toDs, toD, chunk, placeS, srcRows, List.all_cons, List.all_nil, List.all_map, Function.comp_def, List.take_nil, List.drop_nil, List.toList_toArray, C.eqbL, eqCs, eqC, List.drop_one, List.tail_cons, lim, lk42, lk26, lk36, lk25, lk16, lk18, lk33, lk35, lk32, e]
    · simp (config := { maxSteps := 2000000 }) only [go_sem, reduceIte, Nat.reduceEqDiff, Nat.reduceAdd, Nat.reduceLT, Nat.reduceLeDiff, Nat.reduceBEq, Nat.reduceMul, Nat.reduceSub, Nat.reduceDiv, Int.reduceNeg, Int.reduceLT, Int.reduceLE, Int.reduceEq, Int.reduceToNat, fillC, zc, List.replicate_succ, List.replicate_zero, List.flatten_cons, List.flatten_nil, toDs, toD, chunk, placeS, srcRows, List.all_cons, List.all_nil, List.all_map, Function.comp_def, List.take_nil, List.drop_nil, List.toList_toArray, C.eqbL, eqCs, eqC, List.drop_one, List.tail_cons, lim, lk42, lk26, lk36, lk25, lk16, lk18, lk33, lk35, lk32, wr_succ hlt (show (litL r (ind l)).length ≤ 140737488355328 by omega)]
      refine ⟨i + 1, ⟨hlt, upto_succ hall hx h⟩, by omega, ?_⟩
      refine ent_weaken [] rfl rfl (Nat.zero_le _) rfl rfl ?_
      simp (config := { maxSteps := 2000000 }) only [go_sem, reduceIte, Nat.reduceEqDiff, Nat.reduceAdd, Nat.reduceLT, Nat.reduceLeDiff, Nat.reduceBEq, Nat.reduceMul, Nat.reduceSub, Nat.reduceDiv, Int.reduceNeg, Int.reduceLT, Int.reduceLE, Int.reduceEq, Int.reduceToNat, fillC, zc, List.replicate_succ, List.replicate_zero, List.flatten_cons, List.flatten_nil, toDs, toD, chunk, placeS, srcRows, List.all_cons, List.all_nil, List.all_map, Function.comp_def, List.take_nil, List.drop_nil, List.toList_toArray, C.eqbL, eqCs, eqC, List.drop_one, List.tail_cons, lim, lk42, lk26, lk36, lk25, lk16, lk18, lk33, lk35, lk32]
  · have hi' : i = (litL r (ind l)).length := by simp at h; omega
    have e : holdsB r l = true := by
      rw [holdsB, List.all_eq_true]
      intro x hx
      obtain ⟨j, hj⟩ := List.getElem?_of_mem hx
      have := hall j x (by have := (List.getElem?_eq_some_iff.1 hj).1; omega) hj
      simp at this ⊢; omega
    simp (config := { maxSteps := 2000000 }) only [go_sem, reduceIte, Nat.reduceEqDiff, Nat.reduceAdd, Nat.reduceLT, Nat.reduceLeDiff, Nat.reduceBEq, Nat.reduceMul, Nat.reduceSub, Nat.reduceDiv, Int.reduceNeg, Int.reduceLT, Int.reduceLE, Int.reduceEq, Int.reduceToNat, fillC, zc, List.replicate_succ, List.replicate_zero, List.flatten_cons, List.flatten_nil, toDs, toD, chunk, placeS, srcRows, List.all_cons, List.all_nil, List.all_map, Function.comp_def, List.take_nil, List.drop_nil, List.toList_toArray, C.eqbL, eqCs, eqC, List.drop_one, List.tail_cons, lim, lk42, lk26, lk36, lk25, lk16, lk18, lk33, lk35, lk32, e]

/-- What the posts of a list cost. -/
def cost (r : Rd) (l : List Int) : Int := (l.map fun i => (po r i).co).sum
theorem costP_ext {r : Rd} {f g : Nat → Int} : ∀ m, (∀ i, i < m → f i = g i) → costP r f m = costP r g m
  | 0, _ => rfl
  | m + 1, h => by simp only [costP, costP_ext m (fun i hi => h i (by omega)), h m (by omega)]
theorem costP_add {r : Rd} {f : Nat → Int} {x : Nat} (hf : f x = 0) : ∀ m, x < m → costP r (upd f x 1) m = costP r f m + (po r x).co
  | 0, h => by omega
  | m + 1, h => by
    simp only [costP]
    by_cases e : x = m
    · subst e
      rw [costP_ext (f := upd f x 1) (g := f) x (fun i hi => upd_ne _ _ (by omega)), upd_same, hf]
      omega
    · rw [costP_add hf m (by omega), upd_ne _ _ (Ne.symm e)]
      omega
theorem costP_zero (r : Rd) : ∀ m, costP r zf m = 0
  | 0 => rfl
  | m + 1 => by simp [costP, costP_zero r m, zf]
theorem costP_cost {r : Rd} : ∀ (l : List Int), l.Nodup → (∀ x ∈ l, 0 ≤ x ∧ x < r.ps.length) → costP r (ind l) r.ps.length = cost r l
  | [], _, _ => by
    have : ind [] = zf := by funext j; simp [ind, zf]
    rw [this, costP_zero]; rfl
  | x :: l, hn, hr => by
    rw [List.nodup_cons] at hn
    obtain ⟨h0, h1⟩ := hr x (by simp)
    have hx2 : ((x.toNat : Nat) : Int) = x := by omega
    have hx : ind (x :: l) = upd (ind l) x.toNat 1 := by
      funext j
      simp only [ind, upd, List.mem_cons]
      by_cases e : j = x.toNat
      · subst e; simp [hx2]
      · have : ¬ (j : Int) = x := by omega
        simp [e, this]
    have hz : ind l x.toNat = 0 := by simp [ind, hx2, hn.1]
    rw [hx, costP_add hz _ (by omega), costP_cost l hn.2 (fun y hy => hr y (by simp [hy])), hx2]
    simp only [cost, List.map_cons, List.sum_cons]
    omega
theorem cost_bnd {r : Rd} (hr : OkR r) : ∀ l : List Int, (∀ x ∈ l, 0 ≤ x ∧ x < r.ps.length) → 0 ≤ cost r l ∧ cost r l ≤ 1000000 * l.length
  | [], _ => by simp [cost]
  | x :: l, h => by
    have ih := cost_bnd hr l (fun y hy => h y (by simp [hy]))
    obtain ⟨h0, h1⟩ := h x (by simp)
    have := hr.post h0 h1
    simp only [cost, List.map_cons, List.sum_cons, List.length_cons] at ih ⊢
    omega
theorem cost_snoc (r : Rd) (l : List Int) (x : Int) : cost r (l ++ [x]) = cost r l + (po r x).co := by simp [cost, List.sum_append]
theorem rises_len {l : List Int} {n : Int} (h : rises l n = true) (hn : 0 ≤ n) : (l.length : Int) ≤ n := by
  have key : ∀ (l : List Int) (a : Int), risesB l a n = true → a < n → (l.length : Int) ≤ n - a - 1 := by
    intro l
    induction l with
    | nil => intro a _ ha; simp; omega
    | cons x l ih =>
      intro a h ha
      simp only [risesB, Bool.and_eq_true, decide_eq_true_eq] at h
      have := ih x h.2 h.1.2
      simp only [List.length_cons]; omega
  by_cases h0 : n = 0
  · cases l with
    | nil => simp; omega
    | cons x l =>
      simp only [rises, risesB, Bool.and_eq_true, decide_eq_true_eq] at h
      omega
  · have := key l (-1) h (by omega)
    omega
set_option maxHeartbeats 2000000 in
theorem cost36 (r : Rd) (l : List Int) (h : okCh r l = 0) : Pure Tryd.prog 36 [roadV r, ints l] (I (cost r l)) := by
  refine pure_wkE (bad := []) (kp := kp36) (X := tx) (nt := 25) (rs := [.tmp 4]) Tryd.func36 rfl rfl rfl rfl mo (by kernel_rfl) rfl rfl (fun hf => ?_)
  have hfit := fit_ints (hf (ints l) (by simp))
  obtain ⟨hr, hris⟩ := okCh_ok h
  obtain ⟨hnd, hrng⟩ := rises_ok hris
  have hlen := hr.len
  have hll := rises_len hris (by omega)
  simp (config := { maxSteps := 2000000 }) only [go_sem, reduceIte, Nat.reduceEqDiff, Nat.reduceAdd, Nat.reduceLT, Nat.reduceLeDiff, Nat.reduceBEq, Nat.reduceMul, Nat.reduceSub, Nat.reduceDiv, Int.reduceNeg, Int.reduceLT, Int.reduceLE, Int.reduceEq, Int.reduceToNat, fillC, zc, List.replicate_succ, List.replicate_zero, List.flatten_cons, List.flatten_nil, toDs, toD, chunk, placeS, srcRows, List.all_cons, List.all_nil, List.all_map, Function.comp_def, List.take_nil, List.drop_nil, List.toList_toArray, C.eqbL, eqCs, eqC, List.drop_one, List.tail_cons, lim, lk42, lk26, lk36, lk25, lk16, lk18, lk33, lk35, lk32, roadV, roadC]
  refine goE_loop (bad := []) (kp := kp36) (fun i : Nat => { slots := [(1, ints l), (2, .c (.ptr 0 0)), (5, I (cost r (l.take i))), (6, I i)], heap := [.cells (roadC r)], marks := [] }) (fun i => i ≤ l.length) (fun i => l.length - i) 0 mo (by kernel_rfl) ?_ (Nat.zero_le _) ?_
  · refine ent_weaken [] rfl rfl (Nat.zero_le _) rfl rfl ?_
    simp (config := { maxSteps := 2000000 }) only [go_sem, reduceIte, Nat.reduceEqDiff, Nat.reduceAdd, Nat.reduceLT, Nat.reduceLeDiff, Nat.reduceBEq, Nat.reduceMul, Nat.reduceSub, Nat.reduceDiv, Int.reduceNeg, Int.reduceLT, Int.reduceLE, Int.reduceEq, Int.reduceToNat, fillC, zc, List.replicate_succ, List.replicate_zero, List.flatten_cons, List.flatten_nil, toDs, toD, chunk, placeS, srcRows, List.all_cons, List.all_nil, List.all_map, Function.comp_def, List.take_nil, List.drop_nil, List.toList_toArray, C.eqbL, eqCs, eqC, List.drop_one, List.tail_cons, lim, lk42, lk26, lk36, lk25, lk16, lk18, lk33, lk35, lk32, ints, roadC, cost, List.sum_nil]
    exact .refl _
  rintro i hi
  simp (config := { maxSteps := 2000000 }) only [go_sem, reduceIte, Nat.reduceEqDiff, Nat.reduceAdd, Nat.reduceLT, Nat.reduceLeDiff, Nat.reduceBEq, Nat.reduceMul, Nat.reduceSub, Nat.reduceDiv, Int.reduceNeg, Int.reduceLT, Int.reduceLE, Int.reduceEq, Int.reduceToNat, fillC, zc, List.replicate_succ, List.replicate_zero, List.flatten_cons, List.flatten_nil, toDs, toD, chunk, placeS, srcRows, List.all_cons, List.all_nil, List.all_map, Function.comp_def, List.take_nil, List.drop_nil, List.toList_toArray, C.eqbL, eqCs, eqC, List.drop_one, List.tail_cons, lim, lk42, lk26, lk36, lk25, lk16, lk18, lk33, lk35, lk32, ints, roadC]
  refine goE_if (fun h => ?_) (fun h => ?_)
  · have hlt : i < l.length := by simpa using h
    obtain ⟨x, hx⟩ := get_of_lt hlt
    obtain ⟨x0, x1⟩ := hrng x (List.mem_of_getElem? hx)
    obtain ⟨hp, _, _, _, q3, q4⟩ := hr.post x0 x1
    have b1 := cost_bnd hr (l.take i) (fun y hy => hrng y (List.mem_of_mem_take hy))
    have b2 : (l.take i).length ≤ i := List.length_take_le _ _
    have w1 : wr .i64 (cost r (l.take i) + (po r x).co) = cost r (l.take (i + 1)) := by
      rw [take_succ_eq hx, cost_snoc]; exact wr_id (by omega) (by omega)
    have cx : (decide ((0 : Int) ≤ (i : Int)) && decide ((i : Int) < (l.length : Int))) = true := by simp; omega
    have cy : (decide ((0 : Int) ≤ x) && decide (x < (r.ps.length : Int))) = true := by rw [decide_eq_true x0, decide_eq_true x1]; rfl
    simp (config := { maxSteps := 2000000 }) only [go_sem, reduceIte, Nat.reduceEqDiff, Nat.reduceAdd, Nat.reduceLT, Nat.reduceLeDiff, Nat.reduceBEq, Nat.reduceMul, Nat.reduceSub, Nat.reduceDiv, Int.reduceNeg, Int.reduceLT, Int.reduceLE, Int.reduceEq, Int.reduceToNat, fillC, zc, List.replicate_succ, List.replicate_zero, List.flatten_cons, List.flatten_nil, toDs, toD, chunk, placeS, srcRows, List.all_cons, List.all_nil, List.all_map, Function.comp_def, List.take_nil, List.drop_nil, List.toList_toArray, C.eqbL, eqCs, eqC, List.drop_one, List.tail_cons, lim, lk42, lk26, lk36, lk25, lk16, lk18, lk33, lk35, lk32, hx, hp, iD, pD, cx, cy, w1, wr_succ hlt hfit]
    refine ⟨i + 1, hlt, by omega, ?_⟩
    refine ent_weaken [] rfl rfl (Nat.zero_le _) rfl rfl ?_
    simp (config := { maxSteps := 2000000 }) only [go_sem, reduceIte, Nat.reduceEqDiff, Nat.reduceAdd, Nat.reduceLT, Nat.reduceLeDiff, Nat.reduceBEq, Nat.reduceMul, Nat.reduceSub, Nat.reduceDiv, Int.reduceNeg, Int.reduceLT, Int.reduceLE, Int.reduceEq, Int.reduceToNat, fillC, zc, List.replicate_succ, List.replicate_zero, List.flatten_cons, List.flatten_nil, toDs, toD, chunk, placeS, srcRows, List.all_cons, List.all_nil, List.all_map, Function.comp_def, List.take_nil, List.drop_nil, List.toList_toArray, C.eqbL, eqCs, eqC, List.drop_one, List.tail_cons, lim, lk42, lk26, lk36, lk25, lk16, lk18, lk33, lk35, lk32]
  · have hi' : i = l.length := by simp at h; omega
    subst hi'
    simp (config := { maxSteps := 2000000 }) only [go_sem, reduceIte, Nat.reduceEqDiff, Nat.reduceAdd, Nat.reduceLT, Nat.reduceLeDiff, Nat.reduceBEq, Nat.reduceMul, Nat.reduceSub, Nat.reduceDiv, Int.reduceNeg, Int.reduceLT, Int.reduceLE, Int.reduceEq, Int.reduceToNat, fillC, zc, List.replicate_succ, List.replicate_zero, List.flatten_cons, List.flatten_nil, toDs, toD, chunk, placeS, srcRows, List.all_cons, List.all_nil, List.all_map, Function.comp_def, List.take_nil, List.drop_nil, List.toList_toArray, C.eqbL, eqCs, eqC, List.drop_one, List.tail_cons, lim, lk42, lk26, lk36, lk25, lk16, lk18, lk33, lk35, lk32, List.take_length]
theorem costL_eq {r : Rd} {l : List Int} (h : okCh r l = 0) : costL r l = cost r l := by
  obtain ⟨hr, hris⟩ := okCh_ok h
  obtain ⟨hnd, hrng⟩ := rises_ok hris
  exact costP_cost l hnd hrng
set_option maxHeartbeats 1000000 in
theorem lit16 (r : Rd) (l : List Int) : Pure Tryd.prog 16 [roadV r, ints l] (.tup [ints (if okCh r l = 0 then litL r (ind l) else []), I (okCh r l)]) := by
  refine pure_wkE (bad := []) (kp := kp16) (X := tx) (nt := 16) (rs := [.tmp 4, .tmp 5]) Tryd.func16 rfl rfl rfl rfl mo (by kernel_rfl) rfl rfl (fun hf => ?_)
  simp (config := { maxSteps := 2000000 }) only [go_sem, reduceIte, Nat.reduceEqDiff, Nat.reduceAdd, Nat.reduceLT, Nat.reduceLeDiff, Nat.reduceBEq, Nat.reduceMul, Nat.reduceSub, Nat.reduceDiv, Int.reduceNeg, Int.reduceLT, Int.reduceLE, Int.reduceEq, Int.reduceToNat, fillC, zc, List.replicate_succ, List.replicate_zero, List.flatten_cons, List.flatten_nil, toDs, toD, chunk, placeS, srcRows, List.all_cons, List.all_nil, List.all_map, Function.comp_def, List.take_nil, List.drop_nil, List.toList_toArray, C.eqbL, eqCs, eqC, List.drop_one, List.tail_cons, lim, lk42, lk26, lk36, lk25, lk16, lk18, lk33, lk35, lk32, roadV, roadC]
  refine aops_pure' (isChoice25 r l) rfl rfl (by first | exact wk_refls _ | (repeat constructor)) ?_
  by_cases h : okCh r l = 0
  · simp (config := { maxSteps := 2000000 }) only [go_sem, reduceIte, Nat.reduceEqDiff, Nat.reduceAdd, Nat.reduceLT, Nat.reduceLeDiff, Nat.reduceBEq, Nat.reduceMul, Nat.reduceSub, Nat.reduceDiv, Int.reduceNeg, Int.reduceLT, Int.reduceLE, Int.reduceEq, Int.reduceToNat, fillC, zc, List.replicate_succ, List.replicate_zero, List.flatten_cons, List.flatten_nil, toDs, toD, chunk, placeS, srcRows, List.all_cons, List.all_nil, List.all_map, Function.comp_def, List.take_nil, List.drop_nil, List.toList_toArray, C.eqbL, eqCs, eqC, List.drop_one, List.tail_cons, lim, lk42, lk26, lk36, lk25, lk16, lk18, lk33, lk35, lk32, h]
    refine aops_pure' (lit42 r l (okCh_ok h).1 (okCh_ok h).2) rfl rfl (by first | exact wk_refls _ | (repeat constructor)) ?_
    simp (config := { maxSteps := 2000000 }) only [go_sem, reduceIte, Nat.reduceEqDiff, Nat.reduceAdd, Nat.reduceLT, Nat.reduceLeDiff, Nat.reduceBEq, Nat.reduceMul, Nat.reduceSub, Nat.reduceDiv, Int.reduceNeg, Int.reduceLT, Int.reduceLE, Int.reduceEq, Int.reduceToNat, fillC, zc, List.replicate_succ, List.replicate_zero, List.flatten_cons, List.flatten_nil, toDs, toD, chunk, placeS, srcRows, List.all_cons, List.all_nil, List.all_map, Function.comp_def, List.take_nil, List.drop_nil, List.toList_toArray, C.eqbL, eqCs, eqC, List.drop_one, List.tail_cons, lim, lk42, lk26, lk36, lk25, lk16, lk18, lk33, lk35, lk32, ints]
  · simp (config := { maxSteps := 2000000 }) only [go_sem, reduceIte, Nat.reduceEqDiff, Nat.reduceAdd, Nat.reduceLT, Nat.reduceLeDiff, Nat.reduceBEq, Nat.reduceMul, Nat.reduceSub, Nat.reduceDiv, Int.reduceNeg, Int.reduceLT, Int.reduceLE, Int.reduceEq, Int.reduceToNat, fillC, zc, List.replicate_succ, List.replicate_zero, List.flatten_cons, List.flatten_nil, toDs, toD, chunk, placeS, srcRows, List.all_cons, List.all_nil, List.all_map, Function.comp_def, List.take_nil, List.drop_nil, List.toList_toArray, C.eqbL, eqCs, eqC, List.drop_one, List.tail_cons, lim, lk42, lk26, lk36, lk25, lk16, lk18, lk33, lk35, lk32, h]
    refine aops_pure' (isChoice25 r l) rfl rfl (by first | exact wk_refls _ | (repeat constructor)) ?_
    simp (config := { maxSteps := 2000000 }) only [go_sem, reduceIte, Nat.reduceEqDiff, Nat.reduceAdd, Nat.reduceLT, Nat.reduceLeDiff, Nat.reduceBEq, Nat.reduceMul, Nat.reduceSub, Nat.reduceDiv, Int.reduceNeg, Int.reduceLT, Int.reduceLE, Int.reduceEq, Int.reduceToNat, fillC, zc, List.replicate_succ, List.replicate_zero, List.flatten_cons, List.flatten_nil, toDs, toD, chunk, placeS, srcRows, List.all_cons, List.all_nil, List.all_map, Function.comp_def, List.take_nil, List.drop_nil, List.toList_toArray, C.eqbL, eqCs, eqC, List.drop_one, List.tail_cons, lim, lk42, lk26, lk36, lk25, lk16, lk18, lk33, lk35, lk32, ints, List.map_nil]
set_option maxHeartbeats 1000000 in
theorem check18 (r : Rd) (l : List Int) : Pure Tryd.prog 18 [roadV r, ints l] (.tup [I (if okHold r l = 0 then costL r l else 0), I (okHold r l)]) := by
  refine pure_wkE (bad := []) (kp := kp18) (X := tx) (nt := 20) (rs := [.tmp 4, .tmp 5]) Tryd.func18 rfl rfl rfl rfl mo (by kernel_rfl) rfl rfl (fun hf => ?_)
  simp (config := { maxSteps := 2000000 }) only [go_sem, reduceIte, Nat.reduceEqDiff, Nat.reduceAdd, Nat.reduceLT, Nat.reduceLeDiff, Nat.reduceBEq, Nat.reduceMul, Nat.reduceSub, Nat.reduceDiv, Int.reduceNeg, Int.reduceLT, Int.reduceLE, Int.reduceEq, Int.reduceToNat, fillC, zc, List.replicate_succ, List.replicate_zero, List.flatten_cons, List.flatten_nil, toDs, toD, chunk, placeS, srcRows, List.all_cons, List.all_nil, List.all_map, Function.comp_def, List.take_nil, List.drop_nil, List.toList_toArray, C.eqbL, eqCs, eqC, List.drop_one, List.tail_cons, lim, lk42, lk26, lk36, lk25, lk16, lk18, lk33, lk35, lk32, roadV, roadC]
  refine aops_pure' (isChoice25 r l) rfl rfl (by first | exact wk_refls _ | (repeat constructor)) ?_
  by_cases h : okCh r l = 0
  · simp (config := { maxSteps := 2000000 }) only [go_sem, reduceIte, Nat.reduceEqDiff, Nat.reduceAdd, Nat.reduceLT, Nat.reduceLeDiff, Nat.reduceBEq, Nat.reduceMul, Nat.reduceSub, Nat.reduceDiv, Int.reduceNeg, Int.reduceLT, Int.reduceLE, Int.reduceEq, Int.reduceToNat, fillC, zc, List.replicate_succ, List.replicate_zero, List.flatten_cons, List.flatten_nil, toDs, toD, chunk, placeS, srcRows, List.all_cons, List.all_nil, List.all_map, Function.comp_def, List.take_nil, List.drop_nil, List.toList_toArray, C.eqbL, eqCs, eqC, List.drop_one, List.tail_cons, lim, lk42, lk26, lk36, lk25, lk16, lk18, lk33, lk35, lk32, h]
    refine aops_pure' (holds26 r l h) rfl rfl (by first | exact wk_refls _ | (repeat constructor)) ?_
    cases hh : holdsB r l with
    | true =>
      have e : okHold r l = 0 := by simp [okHold, h, hh]
      simp (config := { maxSteps := 2000000 }) only [go_sem, reduceIte, Nat.reduceEqDiff, Nat.reduceAdd, Nat.reduceLT, Nat.reduceLeDiff, Nat.reduceBEq, Nat.reduceMul, Nat.reduceSub, Nat.reduceDiv, Int.reduceNeg, Int.reduceLT, Int.reduceLE, Int.reduceEq, Int.reduceToNat, fillC, zc, List.replicate_succ, List.replicate_zero, List.flatten_cons, List.flatten_nil, toDs, toD, chunk, placeS, srcRows, List.all_cons, List.all_nil, List.all_map, Function.comp_def, List.take_nil, List.drop_nil, List.toList_toArray, C.eqbL, eqCs, eqC, List.drop_one, List.tail_cons, lim, lk42, lk26, lk36, lk25, lk16, lk18, lk33, lk35, lk32]
      refine aops_pure' (cost36 r l h) rfl rfl (by first | exact wk_refls _ | (repeat constructor)) ?_
      simp (config := { maxSteps := 2000000 }) only [go_sem, reduceIte, Nat.reduceEqDiff, Nat.reduceAdd, Nat.reduceLT, Nat.reduceLeDiff, Nat.reduceBEq, Nat.reduceMul, Nat.reduceSub, Nat.reduceDiv, Int.reduceNeg, Int.reduceLT, Int.reduceLE, Int.reduceEq, Int.reduceToNat, fillC, zc, List.replicate_succ, List.replicate_zero, List.flatten_cons, List.flatten_nil, toDs, toD, chunk, placeS, srcRows, List.all_cons, List.all_nil, List.all_map, Function.comp_def, List.take_nil, List.drop_nil, List.toList_toArray, C.eqbL, eqCs, eqC, List.drop_one, List.tail_cons, lim, lk42, lk26, lk36, lk25, lk16, lk18, lk33, lk35, lk32, e, costL_eq h]
    | false =>
      have e : okHold r l = 18 := by simp [okHold, h, hh]
      simp (config := { maxSteps := 2000000 }) only [go_sem, reduceIte, Nat.reduceEqDiff, Nat.reduceAdd, Nat.reduceLT, Nat.reduceLeDiff, Nat.reduceBEq, Nat.reduceMul, Nat.reduceSub, Nat.reduceDiv, Int.reduceNeg, Int.reduceLT, Int.reduceLE, Int.reduceEq, Int.reduceToNat, fillC, zc, List.replicate_succ, List.replicate_zero, List.flatten_cons, List.flatten_nil, toDs, toD, chunk, placeS, srcRows, List.all_cons, List.all_nil, List.all_map, Function.comp_def, List.take_nil, List.drop_nil, List.toList_toArray, C.eqbL, eqCs, eqC, List.drop_one, List.tail_cons, lim, lk42, lk26, lk36, lk25, lk16, lk18, lk33, lk35, lk32, e]
  · have e : okHold r l = okCh r l := by simp [okHold, h]
    simp (config := { maxSteps := 2000000 }) only [go_sem, reduceIte, Nat.reduceEqDiff, Nat.reduceAdd, Nat.reduceLT, Nat.reduceLeDiff, Nat.reduceBEq, Nat.reduceMul, Nat.reduceSub, Nat.reduceDiv, Int.reduceNeg, Int.reduceLT, Int.reduceLE, Int.reduceEq, Int.reduceToNat, fillC, zc, List.replicate_succ, List.replicate_zero, List.flatten_cons, List.flatten_nil, toDs, toD, chunk, placeS, srcRows, List.all_cons, List.all_nil, List.all_map, Function.comp_def, List.take_nil, List.drop_nil, List.toList_toArray, C.eqbL, eqCs, eqC, List.drop_one, List.tail_cons, lim, lk42, lk26, lk36, lk25, lk16, lk18, lk33, lk35, lk32, h]
    refine aops_pure' (isChoice25 r l) rfl rfl (by first | exact wk_refls _ | (repeat constructor)) ?_
    simp (config := { maxSteps := 2000000 }) only [go_sem, reduceIte, Nat.reduceEqDiff, Nat.reduceAdd, Nat.reduceLT, Nat.reduceLeDiff, Nat.reduceBEq, Nat.reduceMul, Nat.reduceSub, Nat.reduceDiv, Int.reduceNeg, Int.reduceLT, Int.reduceLE, Int.reduceEq, Int.reduceToNat, fillC, zc, List.replicate_succ, List.replicate_zero, List.flatten_cons, List.flatten_nil, toDs, toD, chunk, placeS, srcRows, List.all_cons, List.all_nil, List.all_map, Function.comp_def, List.take_nil, List.drop_nil, List.toList_toArray, C.eqbL, eqCs, eqC, List.drop_one, List.tail_cons, lim, lk42, lk26, lk36, lk25, lk16, lk18, lk33, lk35, lk32, e, h]
end Go.Proofs.YteamgbndnfjoaaaDoor
