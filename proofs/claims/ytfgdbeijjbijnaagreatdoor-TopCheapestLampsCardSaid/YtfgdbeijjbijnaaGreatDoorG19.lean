/- The reference of chapter 7: lit, Holds, Cost, IsChoice, Lit, Check. -/
import Derived.Test.YtfgdbeijjbijnaaGreatDoorG18
set_option linter.unusedSimpArgs false
set_option linter.unusedVariables false
set_option linter.unusedSimpArgs false
set_option linter.unusedVariables false
set_option maxRecDepth 100000
namespace Go.Proofs.YtfgdbeijjbijnaaGreatDoor
open Go Go.Abs Go.Proofs
def kp168 : List (Nat × List Nat) := [(0, [1, 2]), (1, [1, 2, 5]), (2, [1, 2, 5, 6]), (3, [1, 2, 5, 6, 14]), (4, [1, 2, 5, 6]), (5, [1, 2, 5, 6, 7]), (6, [1, 2, 5, 6, 7, 20]), (7, [1, 2, 5, 6, 7]), (8, [1, 2, 5, 6, 7, 29]), (9, [1, 2, 5, 6, 7]), (10, [4])]
theorem lk168 : lookK kp168 0 = some [1, 2] ∧ lookK kp168 1 = some [1, 2, 5] ∧ lookK kp168 2 = some [1, 2, 5, 6] ∧ lookK kp168 3 = some [1, 2, 5, 6, 14] ∧ lookK kp168 4 = some [1, 2, 5, 6] ∧ lookK kp168 5 = some [1, 2, 5, 6, 7] ∧ lookK kp168 6 = some [1, 2, 5, 6, 7, 20] ∧ lookK kp168 7 = some [1, 2, 5, 6, 7] ∧ lookK kp168 8 = some [1, 2, 5, 6, 7, 29] ∧ lookK kp168 9 = some [1, 2, 5, 6, 7] ∧ lookK kp168 10 = some [4] := ⟨rfl, rfl, rfl, rfl, rfl, rfl, rfl, rfl, rfl, rfl, rfl⟩
def kp82 : List (Nat × List Nat) := [(0, [1, 2]), (1, [2, 5]), (2, [2, 5, 6]), (3, [2, 5, 6, 13]), (4, [2, 5, 6]), (5, [2, 5, 6, 22]), (6, [4]), (7, [4])]
theorem lk82 : lookK kp82 0 = some [1, 2] ∧ lookK kp82 1 = some [2, 5] ∧ lookK kp82 2 = some [2, 5, 6] ∧ lookK kp82 3 = some [2, 5, 6, 13] ∧ lookK kp82 4 = some [2, 5, 6] ∧ lookK kp82 5 = some [2, 5, 6, 22] ∧ lookK kp82 6 = some [4] ∧ lookK kp82 7 = some [4] := ⟨rfl, rfl, rfl, rfl, rfl, rfl, rfl, rfl⟩
def kp83 : List (Nat × List Nat) := [(0, [1, 2]), (1, [1, 2, 5]), (2, [1, 2, 5, 6]), (3, [1, 2, 5, 6, 10]), (4, [1, 2, 5, 6]), (5, [1, 2, 5, 6]), (6, [4])]
theorem lk83 : lookK kp83 0 = some [1, 2] ∧ lookK kp83 1 = some [1, 2, 5] ∧ lookK kp83 2 = some [1, 2, 5, 6] ∧ lookK kp83 3 = some [1, 2, 5, 6, 10] ∧ lookK kp83 4 = some [1, 2, 5, 6] ∧ lookK kp83 5 = some [1, 2, 5, 6] ∧ lookK kp83 6 = some [4] := ⟨rfl, rfl, rfl, rfl, rfl, rfl, rfl⟩
def kp81 : List (Nat × List Nat) := [(0, [1, 2]), (1, [1, 2, 7]), (2, [4]), (3, [15]), (4, [4]), (5, [4])]
theorem lk81 : lookK kp81 0 = some [1, 2] ∧ lookK kp81 1 = some [1, 2, 7] ∧ lookK kp81 2 = some [4] ∧ lookK kp81 3 = some [15] ∧ lookK kp81 4 = some [4] ∧ lookK kp81 5 = some [4] := ⟨rfl, rfl, rfl, rfl, rfl, rfl⟩
def kp33 : List (Nat × List Nat) := [(0, [1, 2]), (1, [1, 2, 9]), (2, [4, 5]), (3, [1, 2, 16]), (4, [4, 5]), (5, [4, 5])]
theorem lk33 : lookK kp33 0 = some [1, 2] ∧ lookK kp33 1 = some [1, 2, 9] ∧ lookK kp33 2 = some [4, 5] ∧ lookK kp33 3 = some [1, 2, 16] ∧ lookK kp33 4 = some [4, 5] ∧ lookK kp33 5 = some [4, 5] := ⟨rfl, rfl, rfl, rfl, rfl, rfl⟩
def kp27 : List (Nat × List Nat) := [(0, [1, 2]), (1, [1, 2, 5]), (2, [1, 2, 5, 6]), (3, [1, 2, 5, 6, 11]), (4, [1, 2, 5, 6]), (5, [1, 2, 5, 6, 18]), (6, [1, 2, 5, 6]), (7, [4])]
theorem lk27 : lookK kp27 0 = some [1, 2] ∧ lookK kp27 1 = some [1, 2, 5] ∧ lookK kp27 2 = some [1, 2, 5, 6] ∧ lookK kp27 3 = some [1, 2, 5, 6, 11] ∧ lookK kp27 4 = some [1, 2, 5, 6] ∧ lookK kp27 5 = some [1, 2, 5, 6, 18] ∧ lookK kp27 6 = some [1, 2, 5, 6] ∧ lookK kp27 7 = some [4] := ⟨rfl, rfl, rfl, rfl, rfl, rfl, rfl, rfl⟩

set_option maxHeartbeats 1000000 in
theorem isChoice25 (r : Rd) (l : List Int) : Pure Tryz.prog 81 [roadV r, ints l] (I (okCh r l)) := by
  refine pure_wkE (bad := []) (kp := kp81) (X := tx) (nt := 16) (rs := [.tmp 4]) Tryz.func81 rfl rfl rfl rfl mo (by kernel_rfl) rfl rfl (fun hf => ?_)
  simp (config := { maxSteps := 2000000 }) only [go_sem, reduceIte, Nat.reduceEqDiff, Nat.reduceAdd, Nat.reduceLT, Nat.reduceLeDiff, Nat.reduceBEq, Nat.reduceMul, Nat.reduceSub, Nat.reduceDiv, Int.reduceNeg, Int.reduceLT, Int.reduceLE, Int.reduceEq, Int.reduceToNat, lk168, lk82, lk83, lk81, lk33, lk27, roadV, roadC]
  refine aops_pure' (checkRoad20 r) rfl rfl (by first | exact wk_refls _ | (repeat constructor)) ?_
  by_cases h1 : okRoad r = 0
  · simp (config := { maxSteps := 2000000 }) only [go_sem, reduceIte, Nat.reduceEqDiff, Nat.reduceAdd, Nat.reduceLT, Nat.reduceLeDiff, Nat.reduceBEq, Nat.reduceMul, Nat.reduceSub, Nat.reduceDiv, Int.reduceNeg, Int.reduceLT, Int.reduceLE, Int.reduceEq, Int.reduceToNat, lk168, lk82, lk83, lk81, lk33, lk27, h1]
    refine aops_pure' (rising49 l r.ps.length) rfl rfl (by first | exact wk_refls _ | (repeat constructor)) ?_
    cases h2 : rises l r.ps.length with
    | false =>
      have e : okCh r l = 3 := by simp [okCh, h1, h2]
      simp (config := { maxSteps := 2000000 }) only [go_sem, reduceIte, Nat.reduceEqDiff, Nat.reduceAdd, Nat.reduceLT, Nat.reduceLeDiff, Nat.reduceBEq, Nat.reduceMul, Nat.reduceSub, Nat.reduceDiv, Int.reduceNeg, Int.reduceLT, Int.reduceLE, Int.reduceEq, Int.reduceToNat, lk168, lk82, lk83, lk81, lk33, lk27, e]
    | true =>
      have e : okCh r l = 0 := by simp [okCh, h1, h2]
      simp (config := { maxSteps := 2000000 }) only [go_sem, reduceIte, Nat.reduceEqDiff, Nat.reduceAdd, Nat.reduceLT, Nat.reduceLeDiff, Nat.reduceBEq, Nat.reduceMul, Nat.reduceSub, Nat.reduceDiv, Int.reduceNeg, Int.reduceLT, Int.reduceLE, Int.reduceEq, Int.reduceToNat, lk168, lk82, lk83, lk81, lk33, lk27, e]
  · have e : okCh r l = okRoad r := by simp [okCh, h1]
    simp (config := { maxSteps := 2000000 }) only [go_sem, reduceIte, Nat.reduceEqDiff, Nat.reduceAdd, Nat.reduceLT, Nat.reduceLeDiff, Nat.reduceBEq, Nat.reduceMul, Nat.reduceSub, Nat.reduceDiv, Int.reduceNeg, Int.reduceLT, Int.reduceLE, Int.reduceEq, Int.reduceToNat, lk168, lk82, lk83, lk81, lk33, lk27, h1]
    refine aops_pure' (checkRoad20 r) rfl rfl (by first | exact wk_refls _ | (repeat constructor)) ?_
    simp (config := { maxSteps := 2000000 }) only [go_sem, reduceIte, Nat.reduceEqDiff, Nat.reduceAdd, Nat.reduceLT, Nat.reduceLeDiff, Nat.reduceBEq, Nat.reduceMul, Nat.reduceSub, Nat.reduceDiv, Int.reduceNeg, Int.reduceLT, Int.reduceLE, Int.reduceEq, Int.reduceToNat, lk168, lk82, lk83, lk81, lk33, lk27, e]

/-- By how many posts of a list a place is lit. -/
def cnt (r : Rd) (l : List Int) (k : Int) : Int := (l.map fun i => if litB r (po r i) k then (1 : Int) else 0).sum
theorem litP_ext {r : Rd} {f g : Nat → Int} (k : Int) : ∀ m, (∀ i, i < m → f i = g i) → litP r f m k = litP r g m k
  | 0, _ => rfl
  | m + 1, h => by simp only [litP, litP_ext k m (fun i hi => h i (by omega)), h m (by omega)]
theorem litP_add {r : Rd} {f : Nat → Int} {x : Nat} (k : Int) (hf : f x = 0) : ∀ m, x < m → litP r (upd f x 1) m k = litP r f m k + if litB r (po r x) k then 1 else 0
  | 0, h => by omega
  | m + 1, h => by
    simp only [litP]
    by_cases e : x = m
    · subst e
      rw [litP_ext (f := upd f x 1) (g := f) k x (fun i hi => upd_ne _ _ (by omega)), upd_same, hf]
      split <;> omega
    · rw [litP_add k hf m (by omega), upd_ne _ _ (Ne.symm e)]
      omega
theorem litP_zero (r : Rd) (k : Int) : ∀ m, litP r zf m k = 0
  | 0 => rfl
  | m + 1 => by simp [litP, litP_zero r k m, zf]
theorem risesB_nodup : ∀ {l : List Int} {a n : Int}, risesB l a n = true → l.Nodup
  | [], _, _, _ => .nil
  | x :: l, a, n, h => by
    simp only [risesB, Bool.and_eq_true] at h
    rw [List.nodup_cons]
    exact ⟨fun hx => by have := (rises_rng h.2 x hx).1; omega, risesB_nodup h.2⟩
theorem litP_cnt {r : Rd} (k : Int) : ∀ (l : List Int), l.Nodup → (∀ x ∈ l, 0 ≤ x ∧ x < r.ps.length) → litP r (ind l) r.ps.length k = cnt r l k
  | [], _, _ => by
    have : ind [] = zf := by funext j; simp [ind, zf]
    rw [this, litP_zero]; rfl
  | x :: l, hn, hr => by
    rw [List.nodup_cons] at hn
    obtain ⟨h0, h1⟩ := hr x (by simp)
    have hx : ind (x :: l) = upd (ind l) x.toNat 1 := by
      funext j
      simp only [ind, upd, List.mem_cons]
      by_cases e : j = x.toNat
      · subst e
        have : ((x.toNat : Nat) : Int) = x := by omega
        simp [this]
      · have : ¬ (j : Int) = x := by omega
        simp [e, this]
    have hz : ind l x.toNat = 0 := by
      have : ((x.toNat : Nat) : Int) = x := by omega
      simp [ind, this, hn.1]
    have hx2 : ((x.toNat : Nat) : Int) = x := by omega
    rw [hx, litP_add k hz _ (by omega), litP_cnt k l hn.2 (fun y hy => hr y (by simp [hy])), hx2]
    simp only [cnt, List.map_cons, List.sum_cons]
    omega
theorem rises_ok {r : Rd} {l : List Int} (h : rises l r.ps.length = true) : l.Nodup ∧ ∀ x ∈ l, 0 ≤ x ∧ x < r.ps.length :=
  ⟨risesB_nodup h, fun x hx => by have := rises_rng h x hx; omega⟩
theorem cnt_bnd (r : Rd) (k : Int) : ∀ l : List Int, 0 ≤ cnt r l k ∧ cnt r l k ≤ l.length
  | [] => by simp [cnt]
  | x :: l => by
    have := cnt_bnd r k l
    simp only [cnt, List.map_cons, List.sum_cons, List.length_cons] at this ⊢
    split <;> omega
theorem cnt_snoc (r : Rd) (k : Int) (l : List Int) (x : Int) : cnt r (l ++ [x]) k = cnt r l k + if litB r (po r x) k then 1 else 0 := by
  simp [cnt, List.sum_append]
/-- In the midst of a post. -/
def cntM (r : Rd) (l : List Int) (i j : Nat) : Nat → Int := fun k => if k < j then cnt r (l.take (i + 1)) (k : Int) else cnt r (l.take i) (k : Int)
theorem cntM_zero (r : Rd) (l : List Int) (i : Nat) : cntM r l i 0 = fun k : Nat => cnt r (l.take i) (k : Int) := by funext k; simp [cntM]
theorem cntM_all (r : Rd) (l : List Int) (i n : Nat) : numsD n (cntM r l i n) = numsD n (fun k : Nat => cnt r (l.take (i + 1)) (k : Int)) := by
  refine List.map_congr_left fun k hk => ?_
  simp at hk
  simp [cntM, hk]
theorem cntM_upd {r : Rd} {l : List Int} {i j : Nat} {v : Int} (h : v = cnt r (l.take (i + 1)) (j : Int)) : upd (cntM r l i j) j v = cntM r l i (j + 1) := by
  funext k
  by_cases e : k = j
  · subst e; rw [upd_same, h]; simp [cntM]
  · rw [upd_ne _ _ e]
    simp only [cntM]
    have : k < j + 1 ↔ k < j := by omega
    simp only [this]
theorem cntM_skip {r : Rd} {l : List Int} {i j : Nat} (h : cnt r (l.take (i + 1)) (j : Int) = cnt r (l.take i) (j : Int)) : cntM r l i j = cntM r l i (j + 1) := by
  funext k
  simp only [cntM]
  by_cases e : k = j
  · subst e; simp [h]
  · have : k < j + 1 ↔ k < j := by omega
    simp only [this]
set_option maxHeartbeats 4000000 in
theorem lit42 (r : Rd) (l : List Int) (hr : OkR r) (hris : rises l r.ps.length = true) : Pure Tryz.prog 168 [roadV r, ints l] (ints (litL r (ind l))) := by
  refine pure_fzE (bad := []) (kp := kp168) (X := tx) (nt := 37) (rs := [.tmp 4]) Tryz.func168 rfl rfl rfl rfl mo (by kernel_rfl) rfl rfl (fun hf => ?_)
  have hfit := fit_ints (hf (ints l) (by simp))
  obtain ⟨hnd, hrng⟩ := rises_ok hris
  have h1 := hr.p1
  have h40 := hr.p40
  have hlen := hr.len
  have d1 : decide (0 ≤ r.pl) = true := by simp; omega
  have d2 : decide (r.pl ≤ 140737488355328) = true := by simp; omega
  have d3 : decide (8 * r.pl ≤ 140737488355328) = true := by simp; omega
  have d4 : decide (r.pl.toNat ≤ 140737488355328) = true := by simp; omega
  have hlowc : ∀ f, [AB.cells (roadC r), AB.cells (numsC r.pl.toNat f)].all (AB.low 2) = true := fun f => by simp only [List.all_cons, List.all_nil, AB.low, numsC_low, roadC_low, Bool.and_self]
  simp (config := { maxSteps := 2000000 }) only [go_sem, reduceIte, Nat.reduceEqDiff, Nat.reduceAdd, Nat.reduceLT, Nat.reduceLeDiff, Nat.reduceBEq, Nat.reduceMul, Nat.reduceSub, Nat.reduceDiv, Int.reduceNeg, Int.reduceLT, Int.reduceLE, Int.reduceEq, Int.reduceToNat, lk168, lk82, lk83, lk81, lk33, lk27, roadV, roadC, d1, d2, d3, d4]
  refine ⟨by rw [Bool.and_eq_true, Bool.and_eq_true]; exact ⟨⟨decide_eq_true (Int.le_refl _), decide_eq_true (Int.le_trans (Int.mul_le_mul_of_nonneg_left h40 (by decide)) (show (8 : Int) * 40 ≤ 140737488355328 by decide))⟩, decide_eq_true (Int.le_trans h40 (show (40 : Int) ≤ 140737488355328 by decide))⟩, ?_⟩
  refine goE_loop (bad := []) (kp := kp168) (fun i : Nat => { slots := [(1, ints l), (2, .c (.ptr 0 0)), (5, .c (.ms 1 0 r.pl.toNat r.pl.toNat)), (6, I i)], heap := [.cells (roadC r), .cells (numsC r.pl.toNat (fun k : Nat => cnt r (l.take i) (k : Int)))], marks := [] }) (fun i => i ≤ l.length) (fun i => l.length - i) 0 mo (by kernel_rfl) ?_ (Nat.zero_le _) ?_
  · refine ent_weaken [] (by simp only [List.take_zero, cnt, List.map_nil, List.sum_nil, List.append_nil, ← zc_nums]; rfl) rfl (Nat.zero_le _) (hlowc _) rfl ?_
    simp (config := { maxSteps := 2000000 }) only [go_sem, reduceIte, Nat.reduceEqDiff, Nat.reduceAdd, Nat.reduceLT, Nat.reduceLeDiff, Nat.reduceBEq, Nat.reduceMul, Nat.reduceSub, Nat.reduceDiv, Int.reduceNeg, Int.reduceLT, Int.reduceLE, Int.reduceEq, Int.reduceToNat, lk168, lk82, lk83, lk81, lk33, lk27, ints, roadC]
    all_goals first | exact .refl _ | exact ⟨.refl _, .refl _⟩ | exact ⟨.refl _, .refl _, .refl _⟩ | exact ⟨.refl _, _, rfl⟩ | exact ⟨_, rfl⟩ | exact ⟨.refl _, [], by simp⟩ | exact ⟨[], by simp⟩
  rintro i hi
  simp (config := { maxSteps := 2000000 }) only [go_sem, reduceIte, Nat.reduceEqDiff, Nat.reduceAdd, Nat.reduceLT, Nat.reduceLeDiff, Nat.reduceBEq, Nat.reduceMul, Nat.reduceSub, Nat.reduceDiv, Int.reduceNeg, Int.reduceLT, Int.reduceLE, Int.reduceEq, Int.reduceToNat, lk168, lk82, lk83, lk81, lk33, lk27, ints, roadC]
  refine goE_if (fun h => ?_) (fun h => ?_)
  · have hlt : i < l.length := by simpa using h
    obtain ⟨x, hx⟩ := get_of_lt hlt
    obtain ⟨x0, x1⟩ := hrng x (List.mem_of_getElem? hx)
    have cx : (decide ((0 : Int) ≤ (i : Int)) && decide ((i : Int) < (l.length : Int))) = true := by simp; omega
    simp (config := { maxSteps := 2000000 }) only [go_sem, reduceIte, Nat.reduceEqDiff, Nat.reduceAdd, Nat.reduceLT, Nat.reduceLeDiff, Nat.reduceBEq, Nat.reduceMul, Nat.reduceSub, Nat.reduceDiv, Int.reduceNeg, Int.reduceLT, Int.reduceLE, Int.reduceEq, Int.reduceToNat, lk168, lk82, lk83, lk81, lk33, lk27]
    refine goE_loop (bad := []) (kp := kp168) (fun j : Nat => { slots := [(1, ints l), (2, .c (.ptr 0 0)), (5, .c (.ms 1 0 r.pl.toNat r.pl.toNat)), (6, I i), (7, I j)], heap := [.cells (roadC r), .cells (numsC r.pl.toNat (cntM r l i j))], marks := [] }) (fun j => j ≤ r.pl.toNat) (fun j => r.pl.toNat - j) 0 mo (by kernel_rfl) ?_ (Nat.zero_le _) ?_
    · refine ent_weaken [] (by simp only [cntM_zero, List.append_nil]; rfl) rfl (Nat.zero_le _) (hlowc _) rfl ?_
      simp (config := { maxSteps := 2000000 }) only [go_sem, reduceIte, Nat.reduceEqDiff, Nat.reduceAdd, Nat.reduceLT, Nat.reduceLeDiff, Nat.reduceBEq, Nat.reduceMul, Nat.reduceSub, Nat.reduceDiv, Int.reduceNeg, Int.reduceLT, Int.reduceLE, Int.reduceEq, Int.reduceToNat, lk168, lk82, lk83, lk81, lk33, lk27, ints]
      all_goals first | exact .refl _ | exact ⟨.refl _, .refl _⟩ | exact ⟨.refl _, .refl _, .refl _⟩ | exact ⟨.refl _, _, rfl⟩ | exact ⟨_, rfl⟩ | exact ⟨.refl _, [], by simp⟩ | exact ⟨[], by simp⟩
    rintro j hj
    simp (config := { maxSteps := 2000000 }) only [go_sem, reduceIte, Nat.reduceEqDiff, Nat.reduceAdd, Nat.reduceLT, Nat.reduceLeDiff, Nat.reduceBEq, Nat.reduceMul, Nat.reduceSub, Nat.reduceDiv, Int.reduceNeg, Int.reduceLT, Int.reduceLE, Int.reduceEq, Int.reduceToNat, lk168, lk82, lk83, lk81, lk33, lk27, ints, roadC]
    refine goE_if (fun h => ?_) (fun h => ?_)
    · have hjl : j < r.pl.toNat := by simp only [decide_eq_true_eq] at h; omega
      simp (config := { maxSteps := 2000000 }) only [go_sem, reduceIte, Nat.reduceEqDiff, Nat.reduceAdd, Nat.reduceLT, Nat.reduceLeDiff, Nat.reduceBEq, Nat.reduceMul, Nat.reduceSub, Nat.reduceDiv, Int.reduceNeg, Int.reduceLT, Int.reduceLE, Int.reduceEq, Int.reduceToNat, lk168, lk82, lk83, lk81, lk33, lk27, hx, iD, cx]
      refine dops_pure' (lights51 r x j hr x0 x1) rfl rfl (by first | exact wk_refls _ | (repeat constructor)) (by kernel_rfl) ?_
      simp (config := { maxSteps := 2000000 }) only [go_sem, reduceIte, Nat.reduceEqDiff, Nat.reduceAdd, Nat.reduceLT, Nat.reduceLeDiff, Nat.reduceBEq, Nat.reduceMul, Nat.reduceSub, Nat.reduceDiv, Int.reduceNeg, Int.reduceLT, Int.reduceLE, Int.reduceEq, Int.reduceToNat, lk168, lk82, lk83, lk81, lk33, lk27]
      have hsn : ∀ k, cnt r (l.take (i + 1)) k = cnt r (l.take i) k + if litB r (po r x) k then 1 else 0 := fun k => by rw [take_succ_eq hx, cnt_snoc]
      refine goE_if (fun h => ?_) (fun h => ?_)
      · have g1 := numsC_get (cntM r l i j) hjl
        have gl := numsC_len r.pl.toNat (cntM r l i j)
        have g3 : cntM r l i j j = cnt r (l.take i) (j : Int) := by simp [cntM]
        have b1 := cnt_bnd r (j : Int) (l.take i)
        have b2 : (l.take i).length ≤ i := List.length_take_le _ _
        have g4 : wr .i64 (cnt r (l.take i) (j : Int) + 1) = cnt r (l.take (i + 1)) (j : Int) := by
          rw [hsn, if_pos h]; exact wr_id (by omega) (by omega)
        have c1 : decide ((j : Int) < (r.pl.toNat : Int)) = true := decide_eq_true (by omega)
        have c3 : decide (j + 1 ≤ r.pl.toNat) = true := decide_eq_true (by omega)
        simp (config := { maxSteps := 2000000 }) only [go_sem, reduceIte, Nat.reduceEqDiff, Nat.reduceAdd, Nat.reduceLT, Nat.reduceLeDiff, Nat.reduceBEq, Nat.reduceMul, Nat.reduceSub, Nat.reduceDiv, Int.reduceNeg, Int.reduceLT, Int.reduceLE, Int.reduceEq, Int.reduceToNat, lk168, lk82, lk83, lk81, lk33, lk27, g1, gl, g3, g4, c1, c3, Nat.mul_one, wr_succ hjl (show r.pl.toNat ≤ 140737488355328 by omega)]
        refine ⟨by simp, by simp, j + 1, by omega, by omega, ?_⟩
        refine ent_weaken [] (by rw [numsC_set, cntM_upd rfl]; rfl) rfl (Nat.zero_le _) (hlowc _) rfl ?_
        simp (config := { maxSteps := 2000000 }) only [go_sem, reduceIte, Nat.reduceEqDiff, Nat.reduceAdd, Nat.reduceLT, Nat.reduceLeDiff, Nat.reduceBEq, Nat.reduceMul, Nat.reduceSub, Nat.reduceDiv, Int.reduceNeg, Int.reduceLT, Int.reduceLE, Int.reduceEq, Int.reduceToNat, lk168, lk82, lk83, lk81, lk33, lk27]
      · simp (config := { maxSteps := 2000000 }) only [go_sem, reduceIte, Nat.reduceEqDiff, Nat.reduceAdd, Nat.reduceLT, Nat.reduceLeDiff, Nat.reduceBEq, Nat.reduceMul, Nat.reduceSub, Nat.reduceDiv, Int.reduceNeg, Int.reduceLT, Int.reduceLE, Int.reduceEq, Int.reduceToNat, lk168, lk82, lk83, lk81, lk33, lk27, wr_succ hjl (show r.pl.toNat ≤ 140737488355328 by omega)]
        refine ⟨j + 1, by omega, by omega, ?_⟩
        refine ent_weaken [] (by rw [cntM_skip (by rw [hsn, h]; simp)]; rfl) rfl (Nat.zero_le _) (hlowc _) rfl ?_
        simp (config := { maxSteps := 2000000 }) only [go_sem, reduceIte, Nat.reduceEqDiff, Nat.reduceAdd, Nat.reduceLT, Nat.reduceLeDiff, Nat.reduceBEq, Nat.reduceMul, Nat.reduceSub, Nat.reduceDiv, Int.reduceNeg, Int.reduceLT, Int.reduceLE, Int.reduceEq, Int.reduceToNat, lk168, lk82, lk83, lk81, lk33, lk27]
    · have hj' : j = r.pl.toNat := by simp only [decide_eq_false_iff_not] at h; omega
      subst hj'
      simp (config := { maxSteps := 2000000 }) only [go_sem, reduceIte, Nat.reduceEqDiff, Nat.reduceAdd, Nat.reduceLT, Nat.reduceLeDiff, Nat.reduceBEq, Nat.reduceMul, Nat.reduceSub, Nat.reduceDiv, Int.reduceNeg, Int.reduceLT, Int.reduceLE, Int.reduceEq, Int.reduceToNat, lk168, lk82, lk83, lk81, lk33, lk27, wr_succ hlt hfit]
      refine ⟨i + 1, by omega, by omega, ?_⟩
      refine ent_weaken [] (by simp only [numsC, cntM_all, List.append_nil, roadC]) rfl (Nat.zero_le _) (hlowc _) rfl ?_
      simp (config := { maxSteps := 2000000 }) only [go_sem, reduceIte, Nat.reduceEqDiff, Nat.reduceAdd, Nat.reduceLT, Nat.reduceLeDiff, Nat.reduceBEq, Nat.reduceMul, Nat.reduceSub, Nat.reduceDiv, Int.reduceNeg, Int.reduceLT, Int.reduceLE, Int.reduceEq, Int.reduceToNat, lk168, lk82, lk83, lk81, lk33, lk27]
  · have hi' : i = l.length := by simp at h; omega
    subst hi'
    have hcl : (fun k : Nat => cnt r (l.take l.length) (k : Int)) = fun k : Nat => litP r (ind l) r.ps.length (k : Int) := by
      funext k
      rw [List.take_length, litP_cnt _ l hnd hrng]
    rw [hcl]
    simp (config := { maxSteps := 2000000 }) only [go_sem, reduceIte, Nat.reduceEqDiff, Nat.reduceAdd, Nat.reduceLT, Nat.reduceLeDiff, Nat.reduceBEq, Nat.reduceMul, Nat.reduceSub, Nat.reduceDiv, Int.reduceNeg, Int.reduceLT, Int.reduceLE, Int.reduceEq, Int.reduceToNat, lk168, lk82, lk83, lk81, lk33, lk27]
    refine ⟨1, numsC r.pl.toNat (fun k : Nat => litP r (ind l) r.ps.length (k : Int)), numsD r.pl.toNat (fun k : Nat => litP r (ind l) r.ps.length (k : Int)), _, rfl, toDs_d _, .v (.c (.ms 0 1 r.pl.toNat r.pl.toNat (by rw [numsD_len]; omega) (Nat.le_refl _) (by unfold lim; omega))), ?_⟩
    rw [List.drop_zero, chunk_nums, litL, List.map_map]
    all_goals first | exact .refl _ | exact ⟨.refl _, .refl _⟩ | exact ⟨.refl _, .refl _, .refl _⟩ | exact ⟨.refl _, _, rfl⟩ | exact ⟨_, rfl⟩ | exact ⟨.refl _, [], by simp⟩ | exact ⟨[], by simp⟩

set_option maxHeartbeats 2000000 in
theorem holds26 (r : Rd) (l : List Int) (h : okCh r l = 0) : Pure Tryz.prog 82 [roadV r, ints l] (B (holdsB r l)) := by
  refine pure_wkE (bad := []) (kp := kp82) (X := tx) (nt := 23) (rs := [.tmp 4]) Tryz.func82 rfl rfl rfl rfl mo (by kernel_rfl) rfl rfl (fun hf => ?_)
  obtain ⟨hr, hris⟩ := okCh_ok h
  have h1 := hr.p1
  have h40 := hr.p40
  have hll := litL_len r (ind l)
  simp (config := { maxSteps := 2000000 }) only [go_sem, reduceIte, Nat.reduceEqDiff, Nat.reduceAdd, Nat.reduceLT, Nat.reduceLeDiff, Nat.reduceBEq, Nat.reduceMul, Nat.reduceSub, Nat.reduceDiv, Int.reduceNeg, Int.reduceLT, Int.reduceLE, Int.reduceEq, Int.reduceToNat, lk168, lk82, lk83, lk81, lk33, lk27, roadV, roadC]
  refine aops_pure' (lit42 r l hr hris) rfl rfl (by first | exact wk_refls _ | (repeat constructor)) ?_
  simp (config := { maxSteps := 2000000 }) only [go_sem, reduceIte, Nat.reduceEqDiff, Nat.reduceAdd, Nat.reduceLT, Nat.reduceLeDiff, Nat.reduceBEq, Nat.reduceMul, Nat.reduceSub, Nat.reduceDiv, Int.reduceNeg, Int.reduceLT, Int.reduceLE, Int.reduceEq, Int.reduceToNat, lk168, lk82, lk83, lk81, lk33, lk27]
  refine goE_loop (bad := []) (kp := kp82) (fun i : Nat => { slots := [(2, .c (.ptr 0 0)), (5, ints (litL r (ind l))), (6, I i)], heap := [.cells (roadC r)], marks := [] }) (fun i => i ≤ (litL r (ind l)).length ∧ ∀ j x, j < i → (litL r (ind l))[j]? = some x → decide (x ≤ r.de) = false) (fun i => (litL r (ind l)).length - i) 0 mo (by kernel_rfl) ?_ ⟨Nat.zero_le _, by intro j x hj; omega⟩ ?_
  · refine ent_weaken [] rfl rfl (Nat.zero_le _) rfl rfl ?_
    simp (config := { maxSteps := 2000000 }) only [go_sem, reduceIte, Nat.reduceEqDiff, Nat.reduceAdd, Nat.reduceLT, Nat.reduceLeDiff, Nat.reduceBEq, Nat.reduceMul, Nat.reduceSub, Nat.reduceDiv, Int.reduceNeg, Int.reduceLT, Int.reduceLE, Int.reduceEq, Int.reduceToNat, lk168, lk82, lk83, lk81, lk33, lk27, ints, roadC]
    all_goals first | exact .refl _ | exact ⟨.refl _, .refl _⟩ | exact ⟨.refl _, .refl _, .refl _⟩ | exact ⟨.refl _, _, rfl⟩ | exact ⟨_, rfl⟩ | exact ⟨.refl _, [], by simp⟩ | exact ⟨[], by simp⟩
  rintro i ⟨hi, hall⟩
  simp (config := { maxSteps := 2000000 }) only [go_sem, reduceIte, Nat.reduceEqDiff, Nat.reduceAdd, Nat.reduceLT, Nat.reduceLeDiff, Nat.reduceBEq, Nat.reduceMul, Nat.reduceSub, Nat.reduceDiv, Int.reduceNeg, Int.reduceLT, Int.reduceLE, Int.reduceEq, Int.reduceToNat, lk168, lk82, lk83, lk81, lk33, lk27, ints, roadC]
  refine goE_if (fun h => ?_) (fun h => ?_)
  · have hlt : i < (litL r (ind l)).length := by simpa using h
    obtain ⟨x, hx⟩ := get_of_lt hlt
    have cx : (decide ((0 : Int) ≤ (i : Int)) && decide ((i : Int) < ((litL r (ind l)).length : Int))) = true := by simp; omega
    simp (config := { maxSteps := 2000000 }) only [go_sem, reduceIte, Nat.reduceEqDiff, Nat.reduceAdd, Nat.reduceLT, Nat.reduceLeDiff, Nat.reduceBEq, Nat.reduceMul, Nat.reduceSub, Nat.reduceDiv, Int.reduceNeg, Int.reduceLT, Int.reduceLE, Int.reduceEq, Int.reduceToNat, lk168, lk82, lk83, lk81, lk33, lk27, hx, iD, cx]
    refine goE_if (fun h => ?_) (fun h => ?_)
    · have e : holdsB r l = false := by
        rw [holdsB, List.all_eq_false]
        exact ⟨x, List.mem_of_getElem? hx, by simpa using h⟩
      simp (config := { maxSteps := 2000000 }) only [go_sem, reduceIte, Nat.reduceEqDiff, Nat.reduceAdd, Nat.reduceLT, Nat.reduceLeDiff, Nat.reduceBEq, Nat.reduceMul, Nat.reduceSub, Nat.reduceDiv, Int.reduceNeg, Int.reduceLT, Int.reduceLE, Int.reduceEq, Int.reduceToNat, lk168, lk82, lk83, lk81, lk33, lk27, e]
    · simp (config := { maxSteps := 2000000 }) only [go_sem, reduceIte, Nat.reduceEqDiff, Nat.reduceAdd, Nat.reduceLT, Nat.reduceLeDiff, Nat.reduceBEq, Nat.reduceMul, Nat.reduceSub, Nat.reduceDiv, Int.reduceNeg, Int.reduceLT, Int.reduceLE, Int.reduceEq, Int.reduceToNat, lk168, lk82, lk83, lk81, lk33, lk27, wr_succ hlt (show (litL r (ind l)).length ≤ 140737488355328 by omega)]
      refine ⟨i + 1, ⟨hlt, upto_succ hall hx h⟩, by omega, ?_⟩
      refine ent_weaken [] rfl rfl (Nat.zero_le _) rfl rfl ?_
      simp (config := { maxSteps := 2000000 }) only [go_sem, reduceIte, Nat.reduceEqDiff, Nat.reduceAdd, Nat.reduceLT, Nat.reduceLeDiff, Nat.reduceBEq, Nat.reduceMul, Nat.reduceSub, Nat.reduceDiv, Int.reduceNeg, Int.reduceLT, Int.reduceLE, Int.reduceEq, Int.reduceToNat, lk168, lk82, lk83, lk81, lk33, lk27]
  · have hi' : i = (litL r (ind l)).length := by simp at h; omega
    have e : holdsB r l = true := by
      rw [holdsB, List.all_eq_true]
      intro x hx
      obtain ⟨j, hj⟩ := List.getElem?_of_mem hx
      have := hall j x (by have := (List.getElem?_eq_some_iff.1 hj).1; omega) hj
      simp at this ⊢; omega
    simp (config := { maxSteps := 2000000 }) only [go_sem, reduceIte, Nat.reduceEqDiff, Nat.reduceAdd, Nat.reduceLT, Nat.reduceLeDiff, Nat.reduceBEq, Nat.reduceMul, Nat.reduceSub, Nat.reduceDiv, Int.reduceNeg, Int.reduceLT, Int.reduceLE, Int.reduceEq, Int.reduceToNat, lk168, lk82, lk83, lk81, lk33, lk27, e]

/-- What the posts of a list cost. -/
def cost (r : Rd) (l : List Int) : Int := (l.map fun i => (po r i).co).sum
theorem costP_ext {r : Rd} {f g : Nat → Int} : ∀ m, (∀ i, i < m → f i = g i) → costP r f m = costP r g m
  | 0, _ => rfl
  | m + 1, h => by simp only [costP, costP_ext m (fun i hi => h i (by omega)), h m (by omega)]
theorem costP_add {r : Rd} {f : Nat → Int} {x : Nat} (hf : f x = 0) : ∀ m, x < m → costP r (upd f x 1) m = costP r f m + (po r x).co
  | 0, h => by omega
  | m + 1, h => by
    simp only [costP]
    by_cases e : x = m
    · subst e
      rw [costP_ext (f := upd f x 1) (g := f) x (fun i hi => upd_ne _ _ (by omega)), upd_same, hf]
      omega
    · rw [costP_add hf m (by omega), upd_ne _ _ (Ne.symm e)]
      omega
theorem costP_zero (r : Rd) : ∀ m, costP r zf m = 0
  | 0 => rfl
  | m + 1 => by simp [costP, costP_zero r m, zf]
theorem costP_cost {r : Rd} : ∀ (l : List Int), l.Nodup → (∀ x ∈ l, 0 ≤ x ∧ x < r.ps.length) → costP r (ind l) r.ps.length = cost r l
  | [], _, _ => by
    have : ind [] = zf := by funext j; simp [ind, zf]
    rw [this, costP_zero]; rfl
  | x :: l, hn, hr => by
    rw [List.nodup_cons] at hn
    obtain ⟨h0, h1⟩ := hr x (by simp)
    have hx2 : ((x.toNat : Nat) : Int) = x := by omega
    have hx : ind (x :: l) = upd (ind l) x.toNat 1 := by
      funext j
      simp only [ind, upd, List.mem_cons]
      by_cases e : j = x.toNat
      · subst e; simp [hx2]
      · have : ¬ (j : Int) = x := by omega
        simp [e, this]
    have hz : ind l x.toNat = 0 := by simp [ind, hx2, hn.1]
    rw [hx, costP_add hz _ (by omega), costP_cost l hn.2 (fun y hy => hr y (by simp [hy])), hx2]
    simp only [cost, List.map_cons, List.sum_cons]
    omega
theorem cost_bnd {r : Rd} (hr : OkR r) : ∀ l : List Int, (∀ x ∈ l, 0 ≤ x ∧ x < r.ps.length) → 0 ≤ cost r l ∧ cost r l ≤ 1000000 * l.length
  | [], _ => by simp [cost]
  | x :: l, h => by
    have ih := cost_bnd hr l (fun y hy => h y (by simp [hy]))
    obtain ⟨h0, h1⟩ := h x (by simp)
    have := hr.post h0 h1
    simp only [cost, List.map_cons, List.sum_cons, List.length_cons] at ih ⊢
    omega
theorem cost_snoc (r : Rd) (l : List Int) (x : Int) : cost r (l ++ [x]) = cost r l + (po r x).co := by simp [cost, List.sum_append]
theorem rises_len {l : List Int} {n : Int} (h : rises l n = true) (hn : 0 ≤ n) : (l.length : Int) ≤ n := by
  have key : ∀ (l : List Int) (a : Int), risesB l a n = true → a < n → (l.length : Int) ≤ n - a - 1 := by
    intro l
    induction l with
    | nil => intro a _ ha; simp; omega
    | cons x l ih =>
      intro a h ha
      simp only [risesB, Bool.and_eq_true, decide_eq_true_eq] at h
      have := ih x h.2 h.1.2
      simp only [List.length_cons]; omega
  by_cases h0 : n = 0
  · cases l with
    | nil => simp; omega
    | cons x l =>
      simp only [rises, risesB, Bool.and_eq_true, decide_eq_true_eq] at h
      omega
  · have := key l (-1) h (by omega)
    omega
set_option maxHeartbeats 2000000 in
theorem cost36 (r : Rd) (l : List Int) (h : okCh r l = 0) : Pure Tryz.prog 83 [roadV r, ints l] (I (cost r l)) := by
  refine pure_wkE (bad := []) (kp := kp83) (X := tx) (nt := 25) (rs := [.tmp 4]) Tryz.func83 rfl rfl rfl rfl mo (by kernel_rfl) rfl rfl (fun hf => ?_)
  have hfit := fit_ints (hf (ints l) (by simp))
  obtain ⟨hr, hris⟩ := okCh_ok h
  obtain ⟨hnd, hrng⟩ := rises_ok hris
  have hlen := hr.len
  have hll := rises_len hris (by omega)
  simp (config := { maxSteps := 2000000 }) only [go_sem, reduceIte, Nat.reduceEqDiff, Nat.reduceAdd, Nat.reduceLT, Nat.reduceLeDiff, Nat.reduceBEq, Nat.reduceMul, Nat.reduceSub, Nat.reduceDiv, Int.reduceNeg, Int.reduceLT, Int.reduceLE, Int.reduceEq, Int.reduceToNat, lk168, lk82, lk83, lk81, lk33, lk27, roadV, roadC]
  refine goE_loop (bad := []) (kp := kp83) (fun i : Nat => { slots := [(1, ints l), (2, .c (.ptr 0 0)), (5, I (cost r (l.take i))), (6, I i)], heap := [.cells (roadC r)], marks := [] }) (fun i => i ≤ l.length) (fun i => l.length - i) 0 mo (by kernel_rfl) ?_ (Nat.zero_le _) ?_
  · refine ent_weaken [] rfl rfl (Nat.zero_le _) rfl rfl ?_
    simp (config := { maxSteps := 2000000 }) only [go_sem, reduceIte, Nat.reduceEqDiff, Nat.reduceAdd, Nat.reduceLT, Nat.reduceLeDiff, Nat.reduceBEq, Nat.reduceMul, Nat.reduceSub, Nat.reduceDiv, Int.reduceNeg, Int.reduceLT, Int.reduceLE, Int.reduceEq, Int.reduceToNat, lk168, lk82, lk83, lk81, lk33, lk27, ints, roadC, cost, List.sum_nil]
    all_goals first | exact .refl _ | exact ⟨.refl _, .refl _⟩ | exact ⟨.refl _, .refl _, .refl _⟩ | exact ⟨.refl _, _, rfl⟩ | exact ⟨_, rfl⟩ | exact ⟨.refl _, [], by simp⟩ | exact ⟨[], by simp⟩
  rintro i hi
  simp (config := { maxSteps := 2000000 }) only [go_sem, reduceIte, Nat.reduceEqDiff, Nat.reduceAdd, Nat.reduceLT, Nat.reduceLeDiff, Nat.reduceBEq, Nat.reduceMul, Nat.reduceSub, Nat.reduceDiv, Int.reduceNeg, Int.reduceLT, Int.reduceLE, Int.reduceEq, Int.reduceToNat, lk168, lk82, lk83, lk81, lk33, lk27, ints, roadC]
  refine goE_if (fun h => ?_) (fun h => ?_)
  · have hlt : i < l.length := by simpa using h
    obtain ⟨x, hx⟩ := get_of_lt hlt
    obtain ⟨x0, x1⟩ := hrng x (List.mem_of_getElem? hx)
    obtain ⟨hp, _, _, _, q3, q4⟩ := hr.post x0 x1
    have b1 := cost_bnd hr (l.take i) (fun y hy => hrng y (List.mem_of_mem_take hy))
    have b2 : (l.take i).length ≤ i := List.length_take_le _ _
    have w1 : wr .i64 (cost r (l.take i) + (po r x).co) = cost r (l.take (i + 1)) := by
      rw [take_succ_eq hx, cost_snoc]; exact wr_id (by omega) (by omega)
    have cx : (decide ((0 : Int) ≤ (i : Int)) && decide ((i : Int) < (l.length : Int))) = true := by simp; omega
    have cy : (decide ((0 : Int) ≤ x) && decide (x < (r.ps.length : Int))) = true := by rw [decide_eq_true x0, decide_eq_true x1]; rfl
    simp (config := { maxSteps := 2000000 }) only [go_sem, reduceIte, Nat.reduceEqDiff, Nat.reduceAdd, Nat.reduceLT, Nat.reduceLeDiff, Nat.reduceBEq, Nat.reduceMul, Nat.reduceSub, Nat.reduceDiv, Int.reduceNeg, Int.reduceLT, Int.reduceLE, Int.reduceEq, Int.reduceToNat, lk168, lk82, lk83, lk81, lk33, lk27, hx, hp, iD, pD, cx, cy, w1, wr_succ hlt hfit]
    refine ⟨i + 1, hlt, by omega, ?_⟩
    refine ent_weaken [] rfl rfl (Nat.zero_le _) rfl rfl ?_
    simp (config := { maxSteps := 2000000 }) only [go_sem, reduceIte, Nat.reduceEqDiff, Nat.reduceAdd, Nat.reduceLT, Nat.reduceLeDiff, Nat.reduceBEq, Nat.reduceMul, Nat.reduceSub, Nat.reduceDiv, Int.reduceNeg, Int.reduceLT, Int.reduceLE, Int.reduceEq, Int.reduceToNat, lk168, lk82, lk83, lk81, lk33, lk27]
  · have hi' : i = l.length := by simp at h; omega
    subst hi'
    simp (config := { maxSteps := 2000000 }) only [go_sem, reduceIte, Nat.reduceEqDiff, Nat.reduceAdd, Nat.reduceLT, Nat.reduceLeDiff, Nat.reduceBEq, Nat.reduceMul, Nat.reduceSub, Nat.reduceDiv, Int.reduceNeg, Int.reduceLT, Int.reduceLE, Int.reduceEq, Int.reduceToNat, lk168, lk82, lk83, lk81, lk33, lk27, List.take_length]
theorem costL_eq {r : Rd} {l : List Int} (h : okCh r l = 0) : costL r l = cost r l := by
  obtain ⟨hr, hris⟩ := okCh_ok h
  obtain ⟨hnd, hrng⟩ := rises_ok hris
  exact costP_cost l hnd hrng
set_option maxHeartbeats 1000000 in
set_option maxHeartbeats 1000000 in
theorem check18 (r : Rd) (l : List Int) : Pure Tryz.prog 33 [roadV r, ints l] (.tup [I (if okHold r l = 0 then costL r l else 0), I (okHold r l)]) := by
  refine pure_wkE (bad := []) (kp := kp33) (X := tx) (nt := 20) (rs := [.tmp 4, .tmp 5]) Tryz.func33 rfl rfl rfl rfl mo (by kernel_rfl) rfl rfl (fun hf => ?_)
  simp (config := { maxSteps := 2000000 }) only [go_sem, reduceIte, Nat.reduceEqDiff, Nat.reduceAdd, Nat.reduceLT, Nat.reduceLeDiff, Nat.reduceBEq, Nat.reduceMul, Nat.reduceSub, Nat.reduceDiv, Int.reduceNeg, Int.reduceLT, Int.reduceLE, Int.reduceEq, Int.reduceToNat, lk168, lk82, lk83, lk81, lk33, lk27, roadV, roadC]
  refine aops_pure' (isChoice25 r l) rfl rfl (by first | exact wk_refls _ | (repeat constructor)) ?_
  by_cases h : okCh r l = 0
  · simp (config := { maxSteps := 2000000 }) only [go_sem, reduceIte, Nat.reduceEqDiff, Nat.reduceAdd, Nat.reduceLT, Nat.reduceLeDiff, Nat.reduceBEq, Nat.reduceMul, Nat.reduceSub, Nat.reduceDiv, Int.reduceNeg, Int.reduceLT, Int.reduceLE, Int.reduceEq, Int.reduceToNat, lk168, lk82, lk83, lk81, lk33, lk27, h]
    refine aops_pure' (holds26 r l h) rfl rfl (by first | exact wk_refls _ | (repeat constructor)) ?_
    cases hh : holdsB r l with
    | true =>
      have e : okHold r l = 0 := by simp [okHold, h, hh]
      simp (config := { maxSteps := 2000000 }) only [go_sem, reduceIte, Nat.reduceEqDiff, Nat.reduceAdd, Nat.reduceLT, Nat.reduceLeDiff, Nat.reduceBEq, Nat.reduceMul, Nat.reduceSub, Nat.reduceDiv, Int.reduceNeg, Int.reduceLT, Int.reduceLE, Int.reduceEq, Int.reduceToNat, lk168, lk82, lk83, lk81, lk33, lk27]
      refine aops_pure' (cost36 r l h) rfl rfl (by first | exact wk_refls _ | (repeat constructor)) ?_
      simp (config := { maxSteps := 2000000 }) only [go_sem, reduceIte, Nat.reduceEqDiff, Nat.reduceAdd, Nat.reduceLT, Nat.reduceLeDiff, Nat.reduceBEq, Nat.reduceMul, Nat.reduceSub, Nat.reduceDiv, Int.reduceNeg, Int.reduceLT, Int.reduceLE, Int.reduceEq, Int.reduceToNat, lk168, lk82, lk83, lk81, lk33, lk27, e, costL_eq h]
    | false =>
      have e : okHold r l = 18 := by simp [okHold, h, hh]
      simp (config := { maxSteps := 2000000 }) only [go_sem, reduceIte, Nat.reduceEqDiff, Nat.reduceAdd, Nat.reduceLT, Nat.reduceLeDiff, Nat.reduceBEq, Nat.reduceMul, Nat.reduceSub, Nat.reduceDiv, Int.reduceNeg, Int.reduceLT, Int.reduceLE, Int.reduceEq, Int.reduceToNat, lk168, lk82, lk83, lk81, lk33, lk27, e]
  · have e : okHold r l = okCh r l := by simp [okHold, h]
    simp (config := { maxSteps := 2000000 }) only [go_sem, reduceIte, Nat.reduceEqDiff, Nat.reduceAdd, Nat.reduceLT, Nat.reduceLeDiff, Nat.reduceBEq, Nat.reduceMul, Nat.reduceSub, Nat.reduceDiv, Int.reduceNeg, Int.reduceLT, Int.reduceLE, Int.reduceEq, Int.reduceToNat, lk168, lk82, lk83, lk81, lk33, lk27, h]
    refine aops_pure' (isChoice25 r l) rfl rfl (by first | exact wk_refls _ | (repeat constructor)) ?_
    simp (config := { maxSteps := 2000000 }) only [go_sem, reduceIte, Nat.reduceEqDiff, Nat.reduceAdd, Nat.reduceLT, Nat.reduceLeDiff, Nat.reduceBEq, Nat.reduceMul, Nat.reduceSub, Nat.reduceDiv, Int.reduceNeg, Int.reduceLT, Int.reduceLE, Int.reduceEq, Int.reduceToNat, lk168, lk82, lk83, lk81, lk33, lk27, e, h]
end Go.Proofs.YtfgdbeijjbijnaaGreatDoor

/- The plain law: a step is gone. -/
set_option linter.unusedSimpArgs false
set_option linter.unusedVariables false
set_option maxRecDepth 100000
namespace Go.Proofs.YtfgdbeijjbijnaaGreatDoor
open Go Go.Abs Go.Proofs

/-- A street with posts that stand, as it is between steps. -/
structure OkW (r : Rd) (w : W) (N : Int) : Prop where
  st : ∀ i, w.1 i = 0 ∨ w.1 i = 1
  lit : ∀ i : Nat, w.1 i = 1 → i < r.ps.length ∧ rFrom r i < rTo r i
  b0 : ∀ k, 0 ≤ w.2 k
  bN : ∀ k, w.2 k ≤ N
/-- By how much a step goes over a place. -/
def cr (s : Stp) (p : Nat) : Int := (if (p : Int) < s.to then 1 else 0) - (if (p : Int) < s.fr then 1 else 0)
/-- How often a place is lit, less how often one goes back over it. -/
def netw (r : Rd) (w : W) (p : Nat) : Int := litP r w.1 r.ps.length p - w.2 p
theorem mem_steps {r : Rd} {w : W} {s : Stp} : s ∈ stepsL r w.1 w.2 ↔ (∃ k, k < r.pl.toNat ∧ s = ⟨(k : Int) + 1, k, 0, -1⟩) ∨ (∃ k, k < r.pl.toNat ∧ 0 < w.2 k ∧ s = ⟨k, (k : Int) + 1, 0, -1⟩) ∨ (∃ i, i < r.ps.length ∧ rFrom r i < rTo r i ∧ s = postS r w.1 i) := by
  simp only [stepsL, List.mem_append, List.mem_flatMap, List.mem_range, backL, List.mem_cons, postL]
  constructor
  · rintro (⟨k, hk, h | h⟩ | ⟨i, hi, h⟩)
    · exact .inl ⟨k, hk, h⟩
    · split at h
      · rename_i hb; exact .inr (.inl ⟨k, hk, hb, by simpa using h⟩)
      · simp at h
    · split at h
      · rename_i hb; exact .inr (.inr ⟨i, hi, hb, by simpa using h⟩)
      · simp at h
  · rintro (⟨k, hk, h⟩ | ⟨k, hk, hb, h⟩ | ⟨i, hi, hb, h⟩)
    · exact .inl ⟨k, hk, .inl h⟩
    · exact .inl ⟨k, hk, .inr (by rw [if_pos hb]; simp [h])⟩
    · exact .inr ⟨i, hi, by rw [if_pos hb]; simp [h]⟩
theorem litP_upd {r : Rd} {f : Nat → Int} {x : Nat} {v : Int} (p : Int) : ∀ m, x < m → litP r (upd f x v) m p = litP r f m p + if litB r (po r x) p then v - f x else 0
  | 0, h => by omega
  | m + 1, h => by
    simp only [litP]
    by_cases e : x = m
    · subst e
      rw [litP_ext (f := upd f x v) (g := f) p x (fun i hi => upd_ne _ _ (by omega)), upd_same]
      split <;> omega
    · rw [litP_upd p m (by omega), upd_ne _ _ (Ne.symm e)]
      omega
theorem litB_iff (r : Rd) (i : Nat) (p : Nat) : litB r (po r i) p = true ↔ rFrom r i ≤ p ∧ (p : Int) < rTo r i := by
  simp only [litB, decide_eq_true_eq, rFrom, rTo]; omega
theorem okL_steps {r : Rd} {w : W} (hr : OkR r) : OkL (stepsL r w.1 w.2) := by
  refine ⟨steps_ok hr, fun s hs => ?_⟩
  rcases mem_steps.1 hs with ⟨k, _, rfl⟩ | ⟨k, _, _, rfl⟩ | ⟨i, _, hft, rfl⟩
  · simp; omega
  · simp; omega
  · simp only [postS]; split <;> simp only [] <;> omega

theorem step_take {r : Rd} {w : W} {N : Int} {pi : Nat → Int} {s : Stp} (hr : OkR r) (hw : OkW r w N) (hN : N ≤ 1000000) (hs : s ∈ stepsL r w.1 w.2) (hrc : RC (stepsL r w.1 w.2) pi) (ht : pi s.to.toNat = pi s.fr.toNat + s.co) :
    OkW r (takeS s w) (N + 1) ∧ RC (stepsL r (takeS s w).1 (takeS s w).2) pi ∧ (∀ p, p < r.pl.toNat → netw r (takeS s w) p = netw r w p + cr s p) ∧ (∀ t ∈ stepsL r w.1 w.2, t.to ≠ s.to → t ∈ stepsL r (takeS s w).1 (takeS s w).2) := by
  have p40 := hr.p40
  rcases mem_steps.1 hs with ⟨k, hk, rfl⟩ | ⟨k, hk, hb, rfl⟩ | ⟨i, hi, hft, rfl⟩
  · -- back over a place
    have hbk := hw.b0 k
    have hbN := hw.bN k
    have e : takeS ⟨(k : Int) + 1, k, 0, -1⟩ w = (w.1, upd w.2 k (w.2 k + 1)) := by
      simp only [takeS, ne_eq, not_true, if_false]
      rw [if_pos (by omega)]
      simp only [Int.toNat_natCast]
      rw [wr_id (by omega) (by omega)]
    rw [e]
    have hk1 : ((k : Int) + 1).toNat = k + 1 := by omega
    simp only [Int.toNat_natCast, hk1, Int.add_zero] at ht
    refine ⟨⟨hw.st, hw.lit, fun j => ?_, fun j => ?_⟩, fun t ht' => ?_, fun p hp => ?_, fun t ht' hne => ?_⟩
    · simp only [upd]; split
      · omega
      · exact hw.b0 j
    · simp only [upd]; split
      · omega
      · have := hw.bN j; omega
    · rcases mem_steps.1 ht' with ⟨k', h1, rfl⟩ | ⟨k', h1, h2, rfl⟩ | ⟨i, h1, h2, rfl⟩
      · exact hrc _ (mem_steps.2 (.inl ⟨k', h1, rfl⟩))
      · by_cases e : k' = k
        · subst e
          simp only [Int.toNat_natCast, hk1, Int.add_zero]
          omega
        · simp only [upd, e, if_false] at h2
          exact hrc _ (mem_steps.2 (.inr (.inl ⟨k', h1, h2, rfl⟩)))
      · exact hrc _ (mem_steps.2 (.inr (.inr ⟨i, h1, h2, rfl⟩)))
    · simp only [netw, cr, upd]
      by_cases e : p = k
      · subst e; simp; omega
      · have h1 : ((p : Int) < (k : Int)) ↔ ((p : Int) < (k : Int) + 1) := by omega
        simp only [e, if_false, h1]; omega
    · rcases mem_steps.1 ht' with ⟨k', h1, rfl⟩ | ⟨k', h1, h2, rfl⟩ | ⟨i, h1, h2, rfl⟩
      · exact mem_steps.2 (.inl ⟨k', h1, rfl⟩)
      · refine mem_steps.2 (.inr (.inl ⟨k', h1, ?_, rfl⟩))
        simp only [upd]; split <;> omega
      · exact mem_steps.2 (.inr (.inr ⟨i, h1, h2, rfl⟩))
  · -- on again
    have hbN := hw.bN k
    have e : takeS ⟨k, (k : Int) + 1, 0, -1⟩ w = (w.1, upd w.2 k (w.2 k - 1)) := by
      simp only [takeS, ne_eq, not_true, if_false]
      rw [if_neg (by omega)]
      simp only [Int.toNat_natCast]
      rw [wr_id (by omega) (by omega)]
    rw [e]
    have hk1 : ((k : Int) + 1).toNat = k + 1 := by omega
    simp only [Int.toNat_natCast, hk1, Int.add_zero] at ht
    refine ⟨⟨hw.st, hw.lit, fun j => ?_, fun j => ?_⟩, fun t ht' => ?_, fun p hp => ?_, fun t ht' hne => ?_⟩
    · simp only [upd]; split
      · omega
      · exact hw.b0 j
    · simp only [upd]; split
      · omega
      · have := hw.bN j; omega
    · rcases mem_steps.1 ht' with ⟨k', h1, rfl⟩ | ⟨k', h1, h2, rfl⟩ | ⟨i, h1, h2, rfl⟩
      · exact hrc _ (mem_steps.2 (.inl ⟨k', h1, rfl⟩))
      · refine hrc _ (mem_steps.2 (.inr (.inl ⟨k', h1, ?_, rfl⟩)))
        simp only [upd] at h2
        split at h2
        · rename_i e; subst e; exact hb
        · exact h2
      · exact hrc _ (mem_steps.2 (.inr (.inr ⟨i, h1, h2, rfl⟩)))
    · simp only [netw, cr, upd]
      by_cases e : p = k
      · subst e; simp; omega
      · have h1 : ((p : Int) < (k : Int)) ↔ ((p : Int) < (k : Int) + 1) := by omega
        simp only [e, if_false, h1]; omega
    · rcases mem_steps.1 ht' with ⟨k', h1, rfl⟩ | ⟨k', h1, h2, rfl⟩ | ⟨i, h1, h2, rfl⟩
      · exact mem_steps.2 (.inl ⟨k', h1, rfl⟩)
      · refine mem_steps.2 (.inr (.inl ⟨k', h1, ?_, rfl⟩))
        simp only at hne
        simp only [upd]; split <;> omega
      · exact mem_steps.2 (.inr (.inr ⟨i, h1, h2, rfl⟩))
  · -- a post
    have hlen := hr.len
    have hpo : (postS r w.1 i).po = (i : Int) := by simp only [postS]; split <;> rfl
    have hst := hw.st i
    have e : takeS (postS r w.1 i) w = (upd w.1 i (1 - w.1 i), w.2) := by
      simp only [takeS, hpo]
      rw [if_pos (by omega), Int.toNat_natCast, wr_id (by omega) (by omega)]
    rw [e]
    have hf0 : 0 ≤ rFrom r i := by
      have := hr.post (i := (i : Int)) (by omega) (by omega)
      have := hr.i0
      simp only [rFrom]; omega
    refine ⟨⟨fun j => ?_, fun j hj => ?_, hw.b0, fun j => by have := hw.bN j; show w.2 j ≤ N + 1; omega⟩, fun t ht' => ?_, fun p hp => ?_, fun t ht' hne => ?_⟩
    · simp only [upd]; split
      · omega
      · exact hw.st j
    · simp only [upd] at hj
      split at hj
      · rename_i e; subst e; exact ⟨hi, hft⟩
      · exact hw.lit j hj
    · rcases mem_steps.1 ht' with ⟨k', h1, rfl⟩ | ⟨k', h1, h2, rfl⟩ | ⟨i', h1, h2, rfl⟩
      · exact hrc _ (mem_steps.2 (.inl ⟨k', h1, rfl⟩))
      · exact hrc _ (mem_steps.2 (.inr (.inl ⟨k', h1, h2, rfl⟩)))
      · by_cases e : i' = i
        · subst e
          rcases hst with h | h
          · have e1 : postS r w.1 i' = ⟨rFrom r i', rTo r i', (po r i').co, i'⟩ := by simp [postS, h]
            have e2 : postS r (upd w.1 i' (1 - w.1 i')) i' = ⟨rTo r i', rFrom r i', -(po r i').co, i'⟩ := by simp [postS, h, upd_same]
            rw [e1] at ht
            rw [e2]
            simp only at ht ⊢
            omega
          · have e1 : postS r w.1 i' = ⟨rTo r i', rFrom r i', -(po r i').co, i'⟩ := by simp [postS, h]
            have e2 : postS r (upd w.1 i' (1 - w.1 i')) i' = ⟨rFrom r i', rTo r i', (po r i').co, i'⟩ := by simp [postS, h, upd_same]
            rw [e1] at ht
            rw [e2]
            simp only at ht ⊢
            omega
        · have e2 : postS r (upd w.1 i (1 - w.1 i)) i' = postS r w.1 i' := by simp [postS, upd_ne _ _ e]
          rw [e2]
          exact hrc _ (mem_steps.2 (.inr (.inr ⟨i', h1, h2, rfl⟩)))
    · simp only [netw]
      rw [litP_upd (p : Int) r.ps.length hi]
      have hb := litB_iff r i p
      rcases hst with h | h
      · have e1 : postS r w.1 i = ⟨rFrom r i, rTo r i, (po r i).co, i⟩ := by simp [postS, h]
        rw [e1]
        simp only [cr, h]
        by_cases hl : litB r (po r i) (p : Int) = true
        · have := hb.1 hl
          rw [if_pos hl, if_pos this.2, if_neg (by omega)]; omega
        · have : ¬ (rFrom r i ≤ p ∧ (p : Int) < rTo r i) := fun h => hl (hb.2 h)
          rw [if_neg hl]
          by_cases h3 : (p : Int) < rFrom r i
          · rw [if_pos h3, if_pos (by omega)]; omega
          · rw [if_neg h3, if_neg (by omega)]; omega
      · have e1 : postS r w.1 i = ⟨rTo r i, rFrom r i, -(po r i).co, i⟩ := by simp [postS, h]
        rw [e1]
        simp only [cr, h]
        by_cases hl : litB r (po r i) (p : Int) = true
        · have := hb.1 hl
          rw [if_pos hl, if_pos this.2, if_neg (by omega)]; omega
        · have : ¬ (rFrom r i ≤ p ∧ (p : Int) < rTo r i) := fun h => hl (hb.2 h)
          rw [if_neg hl]
          by_cases h3 : (p : Int) < rFrom r i
          · rw [if_pos h3, if_pos (by omega)]; omega
          · rw [if_neg h3, if_neg (by omega)]; omega
    · rcases mem_steps.1 ht' with ⟨k', h1, rfl⟩ | ⟨k', h1, h2, rfl⟩ | ⟨i', h1, h2, rfl⟩
      · exact mem_steps.2 (.inl ⟨k', h1, rfl⟩)
      · exact mem_steps.2 (.inr (.inl ⟨k', h1, h2, rfl⟩))
      · by_cases e : i' = i
        · subst e; exact absurd rfl hne
        · exact mem_steps.2 (.inr (.inr ⟨i', h1, h2, by simp [postS, upd_ne _ _ e]⟩))
end Go.Proofs.YtfgdbeijjbijnaaGreatDoor

/- The plain law: way after way. -/
set_option linter.unusedSimpArgs false
set_option linter.unusedVariables false
set_option maxRecDepth 100000
namespace Go.Proofs.YtfgdbeijjbijnaaGreatDoor
open Go Go.Abs Go.Proofs

def crS (c : List Stp) (p : Nat) : Int := (c.map (fun s => cr s p)).sum
theorem augment {r : Rd} {pi : Nat → Int} (hr : OkR r) : ∀ {c : List Stp} {w : W} {N : Int}, OkW r w N → N + c.length ≤ 1000000 → (∀ s ∈ c, s ∈ stepsL r w.1 w.2 ∧ pi s.to.toNat = pi s.fr.toNat + s.co) → c.Pairwise (fun s t => t.to ≠ s.to) → RC (stepsL r w.1 w.2) pi →
    OkW r (takes c w) (N + c.length) ∧ RC (stepsL r (takes c w).1 (takes c w).2) pi ∧ ∀ p, p < r.pl.toNat → netw r (takes c w) p = netw r w p + crS c p
  | [], w, N, hw, _, _, _, hrc => ⟨by simpa [takes] using hw, hrc, fun p _ => by simp [takes, crS]⟩
  | s :: c, w, N, hw, hN, hs, hd, hrc => by
    rw [List.pairwise_cons] at hd
    rw [List.length_cons] at hN
    obtain ⟨h1, h2, h3, h4⟩ := step_take hr hw (by omega) (hs s (by simp)).1 hrc (hs s (by simp)).2
    obtain ⟨g1, g2, g3⟩ := augment hr (c := c) h1 (by omega) (fun t ht => ⟨h4 t (hs t (by simp [ht])).1 (hd.1 t ht), (hs t (by simp [ht])).2⟩) hd.2 h2
    refine ⟨?_, g2, fun p hp => ?_⟩
    · have : N + ((s :: c).length : Int) = N + 1 + c.length := by simp; omega
      rw [this]; exact g1
    · have := g3 p hp
      have h5 := h3 p hp
      show netw r (takes c (takeS s w)) p = _
      rw [this, h5]
      simp only [crS, List.map_cons, List.sum_cons]; omega
theorem crS_chain {l : List Stp} {pi : Nat → Int} {q : FS} (hl : OkL l) (hi : Inv l pi q) (hfx : Fix l q.far) (p : Nat) : ∀ {c : List Stp} {v : Nat}, Ch q.by' v c → v ≤ 40 → q.far v ≠ never → crS c p = if p < v then 1 else 0
  | [], v, h, _, _ => by cases h; simp [crS]
  | s :: c, v, h, hv, hvn => by
    obtain ⟨h1, h2, h3⟩ := ch_to hi h hv hvn
    have hs := (ch_ok hl hi hfx h hv hvn s (by simp)).1
    have ho := hl.ok s hs
    have b0 := ho.f0
    have b1 := ho.f40
    have ih := crS_chain hl hi hfx p h2 (by omega) h3
    simp only [crS, List.map_cons, List.sum_cons] at ih ⊢
    rw [ih]
    simp only [cr, h1]
    have e1 : ((p : Int) < (v : Int)) ↔ p < v := by omega
    have e2 : ((p : Int) < s.fr) ↔ p < s.fr.toNat := by omega
    simp only [e1, e2]
    omega
theorem ch_len {l : List Stp} {pi : Nat → Int} {q : FS} (hl : OkL l) (hi : Inv l pi q) (hfx : Fix l q.far) {c : List Stp} {v : Nat} (h : Ch q.by' v c) (hv : v ≤ 40) (hvn : q.far v ≠ never) : c.length ≤ 41 := by
  have hd := ch_distinct hl hi h hv hvn
  have hok := ch_ok hl hi hfx h hv hvn
  have hnd : (c.map (fun s => s.to.toNat)).Nodup := by
    rw [List.nodup_iff_pairwise_ne, List.pairwise_map]
    refine hd.imp_of_mem (fun {a b} ha hb hne e => hne ?_)
    have h1 := (hl.ok a (hok a ha).1).t0
    have h2 := (hl.ok b (hok b hb).1).t0
    omega
  have := hnd.length_le_of_subset (l₂ := List.range 41) (fun x hx => by
    obtain ⟨s, hs, rfl⟩ := List.mem_map.1 hx
    have h1 := (hl.ok s (hok s hs).1).t0
    have h2 := (hl.ok s (hok s hs).1).t40
    simp; omega)
  simpa using this
theorem steps_pl {r : Rd} {w : W} (hr : OkR r) {s : Stp} (hs : s ∈ stepsL r w.1 w.2) : s.fr.toNat ≤ r.pl.toNat ∧ s.to.toNat ≤ r.pl.toNat := by
  have p1 := hr.p1
  rcases mem_steps.1 hs with ⟨k, hk, rfl⟩ | ⟨k, hk, _, rfl⟩ | ⟨i, hi, hft, rfl⟩
  · refine ⟨?_, ?_⟩ <;> simp only [] <;> omega
  · refine ⟨?_, ?_⟩ <;> simp only [] <;> omega
  · have := hr.post (i := (i : Int)) (by omega) (by omega)
    have := hr.i0
    simp only [postS]
    split
    · simp only [rFrom, rTo] at hft ⊢; omega
    · simp only [rFrom, rTo] at hft ⊢; omega
/-- What the ends are worth, out of what they cost. -/
def worth (r : Rd) (f : Nat → Int) : Nat → Int := fun v => if v ≤ r.pl.toNat then f v else 0
theorem reach_down {r : Rd} {w : W} {pi : Nat → Int} {q : FS} (hr : OkR r) (hi : Inv (stepsL r w.1 w.2) pi q) (hfx : Fix (stepsL r w.1 w.2) q.far) {v : Nat} (hv : v < r.pl.toNat) (h : q.far (v + 1) ≠ never) : q.far v ≠ never := by
  have p40 := hr.p40
  have hs : (⟨(v : Int) + 1, v, 0, -1⟩ : Stp) ∈ stepsL r w.1 w.2 := mem_steps.2 (.inl ⟨v, hv, rfl⟩)
  have e : ((v : Int) + 1).toNat = v + 1 := by omega
  have := hfx _ hs (by simpa only [e] using h)
  simp only [e, Int.toNat_natCast] at this
  have hh := hi.high (v + 1) (by omega) h
  have := rcn_le q.far 41
  have hlt : q.far v < never := by unfold never; omega
  intro hn
  omega
theorem reach_le {r : Rd} {w : W} {pi : Nat → Int} {q : FS} (hr : OkR r) (hi : Inv (stepsL r w.1 w.2) pi q) (hfx : Fix (stepsL r w.1 w.2) q.far) {v : Nat} (hv : v ≤ r.pl.toNat) (h : q.far v ≠ never) : ∀ u, u ≤ v → q.far u ≠ never := by
  intro u hu
  induction v with
  | zero => have : u = 0 := by omega
            subst this; exact h
  | succ v ih =>
    by_cases e : u = v + 1
    · subst e; exact h
    · exact ih (by omega) (reach_down hr hi hfx (by omega) h) (by omega)
theorem worth_ok {r : Rd} {w : W} {pi : Nat → Int} {q : FS} (hr : OkR r) (hpb : PB pi) (hi : Inv (stepsL r w.1 w.2) pi q) (hfx : Fix (stepsL r w.1 w.2) q.far) (h : q.far r.pl.toNat ≠ never) : PB (worth r q.far) ∧ RC (stepsL r w.1 w.2) (worth r q.far) := by
  have p40 := hr.p40
  have hall := reach_le hr hi hfx (Nat.le_refl _) h
  have hrl := rcn_le q.far 41
  refine ⟨⟨by simp [worth, hi.zero], fun v hv => ?_, fun v hv => ?_⟩, fun s hs => ?_⟩
  · simp only [worth]; split
    · exact hi.nonneg hpb hv
    · omega
  · simp only [worth]; split
    · rename_i h2
      have := hi.high v hv (hall v h2)
      omega
    · omega
  · obtain ⟨h1, h2⟩ := steps_pl hr hs
    simp only [worth, h1, h2, if_true]
    exact hfx s hs (hall _ h1)
/-- Both places of all posts. -/
def one' : Nat → Int := fun _ => 1
theorem litP_eq {r : Rd} {f g : Nat → Int} (p : Int) : ∀ m : Nat, (∀ i : Nat, i < m → litB r (po r i) p = true → f i = g i) → litP r f m p = litP r g m p
  | 0, _ => rfl
  | m + 1, h => by
    simp only [litP, litP_eq p m (fun i hi => h i (by omega))]
    by_cases hb : litB r (po r m) p = true
    · rw [if_pos hb, if_pos hb, h m (by omega) hb]
    · rw [if_neg hb, if_neg hb]
/-- A place that cannot be lit once more. -/
theorem cut_ok {r : Rd} {w : W} {pi : Nat → Int} {q : FS} {N : Int} (hr : OkR r) (hw : OkW r w N) (hi : Inv (stepsL r w.1 w.2) pi q) (hfx : Fix (stepsL r w.1 w.2) q.far) (h : q.far r.pl.toNat = never) : ∃ p, p < r.pl.toNat ∧ litP r one' r.ps.length (p : Nat) = netw r w p := by
  have p40 := hr.p40
  have p1 := hr.p1
  obtain ⟨c, hc, hc1, hc2⟩ : ∃ c, c < r.pl.toNat ∧ q.far c ≠ never ∧ q.far (c + 1) = never := by
    have key : ∀ n, q.far n = never → ∃ c, c < n ∧ q.far c ≠ never ∧ q.far (c + 1) = never := by
      intro n
      induction n with
      | zero => intro hn; rw [hi.zero] at hn; exact absurd hn (by decide)
      | succ n ih =>
        intro hn
        by_cases e : q.far n = never
        · obtain ⟨c, h1, h2⟩ := ih e; exact ⟨c, by omega, h2⟩
        · exact ⟨n, by omega, e, hn⟩
    exact key _ h
  have hfin : ∀ s ∈ stepsL r w.1 w.2, q.far s.fr.toNat ≠ never → q.far s.to.toNat ≠ never := fun s hs hn => by
    have h1 := hfx s hs hn
    have ho := steps_ok hr s hs
    have f0 := ho.f0; have f40 := ho.f40; have c1 := ho.c1
    have := hi.high _ (by omega) hn
    have := rcn_le q.far 41
    intro e; rw [e] at h1; unfold never at h1; omega
  have hb : w.2 c = 0 := by
    have := hw.b0 c
    by_cases h0 : 0 < w.2 c
    · have hs : (⟨c, (c : Int) + 1, 0, -1⟩ : Stp) ∈ stepsL r w.1 w.2 := mem_steps.2 (.inr (.inl ⟨c, hc, h0, rfl⟩))
      have e : ((c : Int) + 1).toNat = c + 1 := by omega
      have := hfin _ hs (by simpa using hc1)
      rw [show ((⟨c, (c : Int) + 1, 0, -1⟩ : Stp)).to.toNat = c + 1 from e] at this
      exact absurd hc2 this
    · omega
  refine ⟨c, hc, ?_⟩
  rw [netw, hb, Int.sub_zero]
  refine litP_eq _ _ (fun i hi' hl => ?_)
  rcases hw.st i with h0 | h1
  · exfalso
    have hlb := (litB_iff r i c).1 hl
    have hft : rFrom r i < rTo r i := by omega
    have hs : postS r w.1 i ∈ stepsL r w.1 w.2 := mem_steps.2 (.inr (.inr ⟨i, hi', hft, rfl⟩))
    have e : postS r w.1 i = ⟨rFrom r i, rTo r i, (po r i).co, i⟩ := by simp [postS, h0]
    have hpl := steps_pl hr hs
    rw [e] at hs hpl
    have ho := steps_ok hr _ hs
    have f0 := ho.f0
    simp only at hpl f0
    have hfr := reach_le hr hi hfx (Nat.le_of_lt hc) hc1 (rFrom r i).toNat (by omega)
    have hto := hfin _ hs hfr
    exact absurd hc2 (reach_le hr hi hfx hpl.2 hto (c + 1) (by omega))
  · rw [h1]; rfl
end Go.Proofs.YtfgdbeijjbijnaaGreatDoor

/- The bound of prices. -/
set_option linter.unusedSimpArgs false
set_option linter.unusedVariables false
set_option maxRecDepth 100000
namespace Go.Proofs.YtfgdbeijjbijnaaGreatDoor
open Go Go.Abs Go.Proofs
/-- The prices of the first places that a post lights. -/
def litS (r : Rd) (l : List Int) (i : Int) : Nat → Int
  | 0 => 0
  | m + 1 => litS r l i m + if litB r (po r i) m then (l[m]?).getD 0 else 0
def bndP (r : Rd) (l : List Int) : Nat → Int
  | 0 => (r.de + 1) * l.sum
  | i + 1 => bndP r l i - max 0 (litS r l i l.length - (po r i).co)
def OkX (l : List Int) : Prop := ∀ x ∈ l, 0 ≤ x ∧ x ≤ 1099511627776
theorem lit_none {r : Rd} {l : List Int} {i : Int} (hft : ¬ rFrom r i < rTo r i) : ∀ m, litS r l i m = 0
  | 0 => rfl
  | m + 1 => by
    have hb : litB r (po r i) (m : Int) = false := by
      simp only [litB, decide_eq_false_iff_not]; simp only [rFrom, rTo] at hft; omega
    simp [litS, lit_none hft m, hb]

end Go.Proofs.YtfgdbeijjbijnaaGreatDoor

/- The cheapest ways through a street: solve. -/
set_option linter.unusedSimpArgs false
set_option linter.unusedVariables false
set_option maxRecDepth 100000
namespace Go.Proofs.YtfgdbeijjbijnaaGreatDoor
open Go Go.Abs Go.Proofs
def kp77 : List (Nat × List Nat) := [(0, [0, 2]), (1, [0, 2, 4]), (2, [0, 2, 4, 14, 15]), (3, [0, 2, 4, 14, 15, 16]), (4, [0, 2, 4, 14, 15]), (5, [0, 2, 4, 5, 14, 15]), (6, [0, 2, 4, 5, 14, 15, 29]), (7, [2, 3]), (8, [0, 2, 4, 5, 6, 14, 15]), (9, [0, 2, 4, 5, 6, 14, 15, 37]), (10, [0, 2, 4, 5, 6, 7, 8, 14, 15]), (11, [0, 2, 4, 5, 6, 7, 14, 15, 45]), (12, [0, 2, 4, 5, 6, 7, 14, 15]), (13, [0, 2, 4, 5, 6, 7, 14, 15, 49]), (14, [2, 3]), (15, [0, 2, 4, 5, 7, 14, 15]), (16, [0, 2, 4, 5, 7, 14, 15]), (17, [0, 2, 4, 5, 6, 14, 15]), (18, [0, 2, 4, 14, 15]), (19, [2, 3])]
theorem lk77 : lookK kp77 0 = some [0, 2] ∧ lookK kp77 1 = some [0, 2, 4] ∧ lookK kp77 2 = some [0, 2, 4, 14, 15] ∧ lookK kp77 3 = some [0, 2, 4, 14, 15, 16] ∧ lookK kp77 4 = some [0, 2, 4, 14, 15] ∧ lookK kp77 5 = some [0, 2, 4, 5, 14, 15] ∧ lookK kp77 6 = some [0, 2, 4, 5, 14, 15, 29] ∧ lookK kp77 7 = some [2, 3] ∧ lookK kp77 8 = some [0, 2, 4, 5, 6, 14, 15] ∧ lookK kp77 9 = some [0, 2, 4, 5, 6, 14, 15, 37] ∧ lookK kp77 10 = some [0, 2, 4, 5, 6, 7, 8, 14, 15] ∧ lookK kp77 11 = some [0, 2, 4, 5, 6, 7, 14, 15, 45] ∧ lookK kp77 12 = some [0, 2, 4, 5, 6, 7, 14, 15] ∧ lookK kp77 13 = some [0, 2, 4, 5, 6, 7, 14, 15, 49] ∧ lookK kp77 14 = some [2, 3] ∧ lookK kp77 15 = some [0, 2, 4, 5, 7, 14, 15] ∧ lookK kp77 16 = some [0, 2, 4, 5, 7, 14, 15] ∧ lookK kp77 17 = some [0, 2, 4, 5, 6, 14, 15] ∧ lookK kp77 18 = some [0, 2, 4, 14, 15] ∧ lookK kp77 19 = some [2, 3] := ⟨rfl, rfl, rfl, rfl, rfl, rfl, rfl, rfl, rfl, rfl, rfl, rfl, rfl, rfl, rfl, rfl, rfl, rfl, rfl, rfl⟩

def FPw (r : Rd) (w : W) (f5 : Nat → Int) : FP := ⟨r, w.1, w.2, zf, f5, zf, .skip, .skip⟩
def HS (r : Rd) (w : W) : List AB := [.gl 0 noneD, .cells (roadC r), .cells (roadC r), .cells (netC r w.1 w.2)]
theorem HS_low (r : Rd) (w : W) (n : Nat) : (HS r w).all (AB.low n) = true := by
  simp only [HS, List.all_cons, List.all_nil, AB.low, netC_low, roadC_low, Bool.and_self]
/-- In the midst of a way. -/
def HP (r : Rd) (w : W) (far : Nat → Int) (es : List (Int × Stp)) : List AB :=
  [.gl 0 noneD, .cells (roadC r), .cells (roadC r), .cells (netC r w.1 w.2), .cells (numsC 41 zf), .cells (numsC 41 far), .cells (numsC 41 far), .cells (numsC 41 far), .mp (byE es)]
theorem HP_low (r : Rd) (w : W) (far : Nat → Int) (es : List (Int × Stp)) (n : Nat) : (HP r w far es).all (AB.low n) = true := by
  simp only [HP, List.all_cons, List.all_nil, AB.low, netC_low, roadC_low, numsC_low, byE_low, Bool.and_self]
theorem take64' (r : Rd) (w : W) (far : Nat → Int) (es : List (Int × Stp)) (s t : Stp) (hs : OkT s) :
    ACall Tryz.prog 162 [.c (.ptr 3 0), sV s] (HP r w far es ++ [.cells (sC t)]) (one (.tup []) (HP r (takeS s w) far es ++ [.cells (sC t)])) :=
  take64 (FPw r w far) [.cells (numsC 41 zf), .cells (numsC 41 far), .cells (numsC 41 far), .cells (numsC 41 far), .mp (byE es), .cells (sC t)] s hs (fun st bk => by
    simp only [HN, List.all_append, List.all_cons, List.all_nil, AB.low, netC_low, roadC_low, numsC_low, byE_low, Bool.and_self]; rfl)
theorem find63' (r : Rd) (w : W) (f5 : Nat → Int) (qf : FS) (n : Nat) (hr : OkR r) (hst : ∀ i, 0 ≤ w.1 i ∧ w.1 i ≤ 1) (hf : findR (stepsL r w.1 w.2) n q0 = some qf) :
    ACall Tryz.prog 161 [.c (.ptr 3 0)] (HS r w ++ [.cells (numsC 41 zf), .cells (numsC 41 f5)]) (one (.tup [.agg (numsC 41 qf.far), .c (.mp 8)]) (HS r w ++ [.cells (numsC 41 zf), .cells (numsC 41 f5), .cells (numsC 41 qf.far), .cells (numsC 41 qf.far), .mp (byE qf.by')])) :=
  find63 (FPw r w f5) qf n hr hst hf
theorem OkT.ne {s : Stp} (h : OkT s) : s.po ≠ -2 := fun e => by
  have := h.post (by omega); omega

set_option maxHeartbeats 8000000 in
theorem solve54 (r : Rd) (w : W) (m : Nat) (b : Bool) (w' : W) (far : Nat → Int) (hr : OkR r) (hst : ∀ i, 0 ≤ w.1 i ∧ w.1 i ≤ 1) (hw : waysR r m (r.de.toNat + 1) w zf = some (b, w', far)) :
    ACall Tryz.prog 77 [.c (.ptr 3 0)] (HS r w) (one (.tup [.agg (numsC 41 far), B b]) (HS r w')) := by
  refine ACall.drop2 (by simp [HS]) rfl (HS_low _ _ _) ?_
  refine acall_fitE (bad := []) (kp := kp77) (X := tx) (nt := 60) (rs := [.cell 2 162, .tmp 3]) Tryz.func77 rfl rfl rfl rfl mo (by kernel_rfl) (fun hf' => ?_)
  have hz : List.replicate 41 (C.d (D.int .i64 0)) = numsC 41 zf := by rfl
  have nl := netC_len r w.1 w.2
  have n1 := nC1 r w.1 w.2
  have d0 := hr.d0
  have d2 := hr.d2
  have p1 := hr.p1
  have p40 := hr.p40
  have wd : wr .i64 (r.de + 1) = r.de + 1 := wr_id (by omega) (by omega)
  simp (config := { maxSteps := 2000000 }) only [go_sem, reduceIte, Nat.reduceEqDiff, Nat.reduceAdd, Nat.reduceLT, Nat.reduceLeDiff, Nat.reduceBEq, Nat.reduceMul, Nat.reduceSub, Nat.reduceDiv, Int.reduceNeg, Int.reduceLT, Int.reduceLE, Int.reduceEq, Int.reduceToNat, lk77, HS, hz, nl, n1, wd]
  refine goE_loop (bad := []) (kp := kp77) (fun a : Nat × W × (Nat → Int) => { slots := [(0, .c (.ptr 3 0)), (2, .c (.ptr 4 0)), (4, .c (.ptr 5 0)), (14, I (r.de + 1)), (15, I (a.1 : Int))], heap := HS r a.2.1 ++ [.cells (numsC 41 zf), .cells (numsC 41 a.2.2)], marks := [] })
    (fun a => a.1 ≤ r.de.toNat + 1 ∧ (∀ i, 0 ≤ a.2.1.1 i ∧ a.2.1.1 i ≤ 1) ∧ waysR r m (r.de.toNat + 1 - a.1) a.2.1 a.2.2 = some (b, w', far)) (fun a => r.de.toNat + 1 - a.1) (0, w, zf) mo (by kernel_rfl) ?_ ⟨Nat.zero_le _, hst, hw⟩ ?_
  · refine ent_weaken [] (by simp only [HS, List.append_nil]; rfl) rfl (show 4 ≤ 6 by decide) (by rw [List.all_append, HS_low]; simp only [List.all_cons, List.all_nil, AB.low, numsC_low, Bool.and_self]) rfl ?_
    simp (config := { maxSteps := 2000000 }) only [go_sem, reduceIte, Nat.reduceEqDiff, Nat.reduceAdd, Nat.reduceLT, Nat.reduceLeDiff, Nat.reduceBEq, Nat.reduceMul, Nat.reduceSub, Nat.reduceDiv, Int.reduceNeg, Int.reduceLT, Int.reduceLE, Int.reduceEq, Int.reduceToNat, lk77, HS]
    all_goals first | exact .refl _ | exact ⟨.refl _, .refl _⟩ | exact ⟨.refl _, .refl _, .refl _⟩ | exact ⟨.refl _, _, rfl⟩ | exact ⟨_, rfl⟩ | exact ⟨.refl _, [], by simp⟩ | exact ⟨[], by simp⟩
  clear hst hw nl n1
  rintro ⟨k, w, f5⟩ ⟨hk, hst, hw⟩
  simp only at hk hst hw
  simp (config := { maxSteps := 2000000 }) only [go_sem, reduceIte, Nat.reduceEqDiff, Nat.reduceAdd, Nat.reduceLT, Nat.reduceLeDiff, Nat.reduceBEq, Nat.reduceMul, Nat.reduceSub, Nat.reduceDiv, Int.reduceNeg, Int.reduceLT, Int.reduceLE, Int.reduceEq, Int.reduceToNat, lk77, HS]
  refine goE_if (fun h => ?_) (fun h => ?_)
  · have hlt : k < r.de.toNat + 1 := by simp at h; omega
    have hsub : r.de.toNat + 1 - k = (r.de.toNat - k) + 1 := by omega
    rw [hsub, waysR] at hw
    cases hfd : findR (stepsL r w.1 w.2) m q0 with
    | none => rw [hfd] at hw; cases hw
    | some q =>
    rw [hfd] at hw
    simp only at hw
    have hl := find63' r w f5 q m hr hst hfd
    simp only [HS, List.cons_append, List.nil_append] at hl
    simp (config := { maxSteps := 2000000 }) only [go_sem, reduceIte, Nat.reduceEqDiff, Nat.reduceAdd, Nat.reduceLT, Nat.reduceLeDiff, Nat.reduceBEq, Nat.reduceMul, Nat.reduceSub, Nat.reduceDiv, Int.reduceNeg, Int.reduceLT, Int.reduceLE, Int.reduceEq, Int.reduceToNat, lk77]
    refine aops_at (hl) rfl rfl (by first | exact wk_refls _ | (repeat constructor)) ?_
    have nl := netC_len r w.1 w.2
    have n0 := nC0 r w.1 w.2
    have gl := numsC_len 41 q.far
    have g1 := numsC_get q.far (j := r.pl.toNat) (n := 41) (by omega)
    have c1 : (decide ((0 : Int) ≤ r.pl) && decide (r.pl < ((41 : Nat) : Int))) = true := by simp; omega
    have c2 : decide (r.pl.toNat + 1 ≤ 41) = true := by simp; omega
    have c2' : decide (r.pl.toNat ≤ 40) = true := by simp; omega
    have gl5 := numsC_len 41 f5
    simp (config := { maxSteps := 2000000 }) only [go_sem, reduceIte, Nat.reduceEqDiff, Nat.reduceAdd, Nat.reduceLT, Nat.reduceLeDiff, Nat.reduceBEq, Nat.reduceMul, Nat.reduceSub, Nat.reduceDiv, Int.reduceNeg, Int.reduceLT, Int.reduceLE, Int.reduceEq, Int.reduceToNat, lk77, set_all, nl, n0, gl, gl5, g1, c1, c2, c2', Nat.mul_one]
    by_cases hnev : q.far r.pl.toNat = never
    · rw [if_pos hnev] at hw
      simp only [Option.some.injEq, Prod.mk.injEq] at hw
      obtain ⟨rfl, rfl, rfl⟩ := hw
      have hnev' : q.far r.pl.toNat = 1125899906842624 := hnev
      have glz := numsC_len 41 zf
      simp (config := { maxSteps := 2000000 }) only [go_sem, reduceIte, Nat.reduceEqDiff, Nat.reduceAdd, Nat.reduceLT, Nat.reduceLeDiff, Nat.reduceBEq, Nat.reduceMul, Nat.reduceSub, Nat.reduceDiv, Int.reduceNeg, Int.reduceLT, Int.reduceLE, Int.reduceEq, Int.reduceToNat, lk77, hnev', hz, set_all, glz, take_all, fillC]
      exact ⟨_, rfl⟩
    have hnev' : ¬ q.far r.pl.toNat = 1125899906842624 := hnev
    rw [if_neg hnev] at hw
    have hby : ∀ e ∈ q.by', OkT e.2 := findR_by (P := OkT) (steps_okT hr) hfd (fun e he => by cases he)
    cases hpt : pathR m r.pl q.by' w with
    | none => rw [hpt] at hw; cases hw
    | some res =>
    rw [hpt] at hw
    simp (config := { maxSteps := 2000000 }) only [go_sem, reduceIte, Nat.reduceEqDiff, Nat.reduceAdd, Nat.reduceLT, Nat.reduceLeDiff, Nat.reduceBEq, Nat.reduceMul, Nat.reduceSub, Nat.reduceDiv, Int.reduceNeg, Int.reduceLT, Int.reduceLE, Int.reduceEq, Int.reduceToNat, lk77, hnev', nl, n0]
    refine goE_loop (bad := []) (kp := kp77) (fun a : Nat × Int × List (Int × Stp) × W => { slots := [(0, .c (.ptr 3 0)), (2, .c (.ptr 4 0)), (4, .c (.ptr 5 0)), (5, .c (.mp 8)), (6, I a.2.1), (14, I (r.de + 1)), (15, I (k : Int))], heap := HP r a.2.2.2 q.far a.2.2.1, marks := [] })
      (fun a => (∀ i, 0 ≤ a.2.2.2.1 i ∧ a.2.2.2.1 i ≤ 1) ∧ (∀ e ∈ a.2.2.1, OkT e.2) ∧ pathR a.1 a.2.1 a.2.2.1 a.2.2.2 = some res) (fun a => a.1) (m, r.pl, q.by', w) mo (by kernel_rfl) ?_ ⟨hst, hby, hpt⟩ ?_
    · refine ent_weaken [] (by simp only [HP, List.append_nil]) rfl (show 4 ≤ 9 by decide) (HP_low _ _ _ _ _) rfl ?_
      simp (config := { maxSteps := 2000000 }) only [go_sem, reduceIte, Nat.reduceEqDiff, Nat.reduceAdd, Nat.reduceLT, Nat.reduceLeDiff, Nat.reduceBEq, Nat.reduceMul, Nat.reduceSub, Nat.reduceDiv, Int.reduceNeg, Int.reduceLT, Int.reduceLE, Int.reduceEq, Int.reduceToNat, lk77, HP]
    clear hpt hby hst hfd hl h
    rintro ⟨n, at', es, w⟩ ⟨hst, hby, hpt⟩
    simp only at hst hby hpt
    cases n with
    | zero => cases hpt
    | succ n =>
    simp (config := { maxSteps := 2000000 }) only [go_sem, reduceIte, Nat.reduceEqDiff, Nat.reduceAdd, Nat.reduceLT, Nat.reduceLeDiff, Nat.reduceBEq, Nat.reduceMul, Nat.reduceSub, Nat.reduceDiv, Int.reduceNeg, Int.reduceLT, Int.reduceLE, Int.reduceEq, Int.reduceToNat, lk77, HP]
    refine goE_if (fun h => ?_) (fun h => ?_)
    · have hat : at' ≠ 0 := by simpa using h
      rw [pathR, if_neg hat] at hpt
      cases hfn : fnd at' es 0 with
      | none =>
        rw [hfn] at hpt
        cases hpt
        have hw : some (false, w, zf) = some (b, w', far) := hw
        cases hw
        have glz := numsC_len 41 zf
        simp (config := { maxSteps := 2000000 }) only [go_sem, reduceIte, Nat.reduceEqDiff, Nat.reduceAdd, Nat.reduceLT, Nat.reduceLeDiff, Nat.reduceBEq, Nat.reduceMul, Nat.reduceSub, Nat.reduceDiv, Int.reduceNeg, Int.reduceLT, Int.reduceLE, Int.reduceEq, Int.reduceToNat, lk77, findE_byI, hfn, keyOk, lookV, glOf, noneD, eqCs, eqC, hz, set_all, glz, take_all, fillC, Option.isSome_none, decide_eq_true_eq]
        exact ⟨_, rfl⟩
      | some is =>
        obtain ⟨i, s⟩ := is
        rw [hfn] at hpt
        have hpt : pathR n s.fr (delB at' es) (takeS s w) = some res := hpt
        have hdel : ∀ x, delE (byE es) (some (i, x)) = byE (delB at' es) := fun x => by
          simp only [delE, delB, hfn, byE]; exact erase_map _ _ _
        have hs : OkT s := hby (at', s) (fnd_mem hfn)
        have hne := hs.ne
        simp (config := { maxSteps := 2000000 }) only [go_sem, reduceIte, Nat.reduceEqDiff, Nat.reduceAdd, Nat.reduceLT, Nat.reduceLeDiff, Nat.reduceBEq, Nat.reduceMul, Nat.reduceSub, Nat.reduceDiv, Int.reduceNeg, Int.reduceLT, Int.reduceLE, Int.reduceEq, Int.reduceToNat, lk77, findE_byI, hfn, keyOk, lookV, glOf, noneD, eqCs, eqC, sV, sC, hne, hdel]
        have hl2 := take64' r w q.far (delB at' es) s s hs
        simp only [HP, sV, sC, List.cons_append, List.nil_append, noneD] at hl2
        refine aops_at (hl2) rfl rfl (by first | exact wk_refls _ | (repeat constructor)) ?_
        simp (config := { maxSteps := 2000000 }) only [go_sem, reduceIte, Nat.reduceEqDiff, Nat.reduceAdd, Nat.reduceLT, Nat.reduceLeDiff, Nat.reduceBEq, Nat.reduceMul, Nat.reduceSub, Nat.reduceDiv, Int.reduceNeg, Int.reduceLT, Int.reduceLE, Int.reduceEq, Int.reduceToNat, lk77]
        refine ⟨(n, s.fr, delB at' es, takeS s w), ⟨takeS_st hst, fun e he => hby e (delB_mem he), hpt⟩, Nat.lt_succ_self n, ?_⟩
        refine ent_weaken [AB.cells (sC s)] (by simp only [HP, sC]; rfl) rfl (show 4 ≤ 9 by decide) (HP_low _ _ _ _ _) rfl ?_
        simp (config := { maxSteps := 2000000 }) only [go_sem, reduceIte, Nat.reduceEqDiff, Nat.reduceAdd, Nat.reduceLT, Nat.reduceLeDiff, Nat.reduceBEq, Nat.reduceMul, Nat.reduceSub, Nat.reduceDiv, Int.reduceNeg, Int.reduceLT, Int.reduceLE, Int.reduceEq, Int.reduceToNat, lk77, HP]
    · have hat : at' = 0 := by simpa using h
      rw [pathR, if_pos hat] at hpt
      cases hpt
      have hw : waysR r m (r.de.toNat - k) w q.far = some (b, w', far) := hw
      simp (config := { maxSteps := 2000000 }) only [go_sem, reduceIte, Nat.reduceEqDiff, Nat.reduceAdd, Nat.reduceLT, Nat.reduceLeDiff, Nat.reduceBEq, Nat.reduceMul, Nat.reduceSub, Nat.reduceDiv, Int.reduceNeg, Int.reduceLT, Int.reduceLE, Int.reduceEq, Int.reduceToNat, lk77, wr_succ hlt (show r.de.toNat + 1 ≤ 140737488355328 by omega)]
      refine ⟨(k + 1, w, q.far), ⟨by omega, hst, by rw [show r.de.toNat + 1 - (k + 1) = r.de.toNat - k by omega]; exact hw⟩, by omega, ?_⟩
      refine ent_weaken [AB.cells (numsC 41 q.far), AB.cells (numsC 41 q.far), AB.mp (byE es)] (by simp only [HS]; rfl) rfl (show 4 ≤ 6 by decide) (by simp only [List.all_cons, List.all_nil, AB.low, numsC_low, netC_low, roadC_low, Bool.and_self]) rfl ?_
      simp (config := { maxSteps := 2000000 }) only [go_sem, reduceIte, Nat.reduceEqDiff, Nat.reduceAdd, Nat.reduceLT, Nat.reduceLeDiff, Nat.reduceBEq, Nat.reduceMul, Nat.reduceSub, Nat.reduceDiv, Int.reduceNeg, Int.reduceLT, Int.reduceLE, Int.reduceEq, Int.reduceToNat, lk77, HS]
  · have hk' : k = r.de.toNat + 1 := by simp at h; omega
    subst hk'
    rw [Nat.sub_self, waysR] at hw
    simp only [Option.some.injEq, Prod.mk.injEq] at hw
    obtain ⟨rfl, rfl, rfl⟩ := hw
    have gl5 := numsC_len 41 f5
    simp (config := { maxSteps := 2000000 }) only [go_sem, reduceIte, Nat.reduceEqDiff, Nat.reduceAdd, Nat.reduceLT, Nat.reduceLeDiff, Nat.reduceBEq, Nat.reduceMul, Nat.reduceSub, Nat.reduceDiv, Int.reduceNeg, Int.reduceLT, Int.reduceLE, Int.reduceEq, Int.reduceToNat, lk77, set_all, gl5, take_all, numsC_len]
    exact ⟨_, rfl⟩
end Go.Proofs.YtfgdbeijjbijnaaGreatDoor

