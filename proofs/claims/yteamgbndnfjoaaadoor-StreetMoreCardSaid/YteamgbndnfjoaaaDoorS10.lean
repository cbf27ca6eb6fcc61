/- The bound of prices. -/
import Derived.Test.YteamgbndnfjoaaaDoorS11
set_option linter.unusedSimpArgs false
set_option linter.unusedVariables false
set_option maxRecDepth 100000
namespace Go.Proofs.YteamgbndnfjoaaaDoor
open Go Go.Abs Go.Proofs
def kp29 : List (Nat × List Nat) := [(0, [1, 2]), (1, [1, 2, 6]), (2, [1, 2, 6, 15]), (3, [4, 5]), (4, [1, 2, 19]), (5, [4, 5]), (6, [1, 2, 25]), (7, [4, 5]), (8, [1, 2, 7]), (9, [1, 2, 7, 8]), (10, [1, 7, 8, 43, 44, 45]), (11, [1, 7, 8, 43, 44, 45, 46]), (12, [1, 7, 8, 9, 10, 43, 44, 45]), (13, [1, 7, 8, 10, 11, 12, 43, 44, 45]), (14, [1, 7, 8, 10, 11, 12, 43, 44, 45, 58]), (15, [1, 7, 8, 43, 44, 45]), (16, [1, 7, 8, 43, 44, 45]), (17, [4, 5])]
theorem lk29 : lookK kp29 0 = some [1, 2] ∧ lookK kp29 1 = some [1, 2, 6] ∧ lookK kp29 2 = some [1, 2, 6, 15] ∧ lookK kp29 3 = some [4, 5] ∧ lookK kp29 4 = some [1, 2, 19] ∧ lookK kp29 5 = some [4, 5] ∧ lookK kp29 6 = some [1, 2, 25] ∧ lookK kp29 7 = some [4, 5] ∧ lookK kp29 8 = some [1, 2, 7] ∧ lookK kp29 9 = some [1, 2, 7, 8] ∧ lookK kp29 10 = some [1, 7, 8, 43, 44, 45] ∧ lookK kp29 11 = some [1, 7, 8, 43, 44, 45, 46] ∧ lookK kp29 12 = some [1, 7, 8, 9, 10, 43, 44, 45] ∧ lookK kp29 13 = some [1, 7, 8, 10, 11, 12, 43, 44, 45] ∧ lookK kp29 14 = some [1, 7, 8, 10, 11, 12, 43, 44, 45, 58] ∧ lookK kp29 15 = some [1, 7, 8, 43, 44, 45] ∧ lookK kp29 16 = some [1, 7, 8, 43, 44, 45] ∧ lookK kp29 17 = some [4, 5] := ⟨rfl, rfl, rfl, rfl, rfl, rfl, rfl, rfl, rfl, rfl, rfl, rfl, rfl, rfl, rfl, rfl, rfl, rfl⟩
def kp30 : List (Nat × List Nat) := [(0, [1, 2]), (1, [1, 2, 13]), (2, [4, 5]), (3, [1, 2, 20]), (4, [4, 5]), (5, [1, 2, 6]), (6, [1, 2, 6, 7]), (7, [1, 2, 6, 7, 24]), (8, [1, 2, 6, 7]), (9, [1, 2, 6, 7, 38]), (10, [4, 5]), (11, [1, 2, 6, 7]), (12, [1, 2, 6, 8]), (13, [1, 2, 6, 8, 53]), (14, [1, 2, 6, 8]), (15, [1, 2, 6, 8, 9]), (16, [1, 2, 6, 8, 9, 10]), (17, [1, 2, 6, 8, 9, 10, 59]), (18, [1, 2, 6, 8, 9, 10]), (19, [1, 2, 6, 8, 9, 10, 65]), (20, [1, 2, 6, 8, 9, 10]), (21, [1, 2, 6, 8]), (22, [4, 5])]
theorem lk30 : lookK kp30 0 = some [1, 2] ∧ lookK kp30 1 = some [1, 2, 13] ∧ lookK kp30 2 = some [4, 5] ∧ lookK kp30 3 = some [1, 2, 20] ∧ lookK kp30 4 = some [4, 5] ∧ lookK kp30 5 = some [1, 2, 6] ∧ lookK kp30 6 = some [1, 2, 6, 7] ∧ lookK kp30 7 = some [1, 2, 6, 7, 24] ∧ lookK kp30 8 = some [1, 2, 6, 7] ∧ lookK kp30 9 = some [1, 2, 6, 7, 38] ∧ lookK kp30 10 = some [4, 5] ∧ lookK kp30 11 = some [1, 2, 6, 7] ∧ lookK kp30 12 = some [1, 2, 6, 8] ∧ lookK kp30 13 = some [1, 2, 6, 8, 53] ∧ lookK kp30 14 = some [1, 2, 6, 8] ∧ lookK kp30 15 = some [1, 2, 6, 8, 9] ∧ lookK kp30 16 = some [1, 2, 6, 8, 9, 10] ∧ lookK kp30 17 = some [1, 2, 6, 8, 9, 10, 59] ∧ lookK kp30 18 = some [1, 2, 6, 8, 9, 10] ∧ lookK kp30 19 = some [1, 2, 6, 8, 9, 10, 65] ∧ lookK kp30 20 = some [1, 2, 6, 8, 9, 10] ∧ lookK kp30 21 = some [1, 2, 6, 8] ∧ lookK kp30 22 = some [4, 5] := ⟨rfl, rfl, rfl, rfl, rfl, rfl, rfl, rfl, rfl, rfl, rfl, rfl, rfl, rfl, rfl, rfl, rfl, rfl, rfl, rfl, rfl, rfl, rfl⟩

def badX (x : Int) : Bool := decide (x < 0 ∨ 1099511627776 < x)
def okPr (r : Rd) (l : List Int) : Int := if okRoad r ≠ 0 then okRoad r else if (l.length : Int) ≠ r.pl then 15 else if l.any badX then 3 else 0
/-- The prices of the first places that a post lights. -/
def litS (r : Rd) (l : List Int) (i : Int) : Nat → Int
  | 0 => 0
  | m + 1 => litS r l i m + if litB r (po r i) m then (l[m]?).getD 0 else 0
def bndP (r : Rd) (l : List Int) : Nat → Int
  | 0 => (r.de + 1) * l.sum
  | i + 1 => bndP r l i - max 0 (litS r l i l.length - (po r i).co)
def OkX (l : List Int) : Prop := ∀ x ∈ l, 0 ≤ x ∧ x ≤ 1099511627776
theorem okX_of {l : List Int} (h : l.any badX = false) : OkX l := fun x hx => by
  have := List.any_eq_false.1 h x hx
  simp [badX] at this; omega
theorem litS_bnd {r : Rd} {l : List Int} (h : OkX l) (i : Int) : ∀ m, 0 ≤ litS r l i m ∧ litS r l i m ≤ 1099511627776 * m
  | 0 => by simp [litS]
  | m + 1 => by
    have ih := litS_bnd (r := r) h i m
    have hg : 0 ≤ (l[m]?).getD 0 ∧ (l[m]?).getD 0 ≤ 1099511627776 := by
      cases hm : l[m]? with
      | none => simp
      | some x => exact h x (List.mem_of_getElem? hm)
    simp only [litS]
    split <;> omega
theorem bndP_bnd {r : Rd} {l : List Int} (hr : OkR r) (h : OkX l) (hl : (l.length : Int) = r.pl) : ∀ i, i ≤ r.ps.length → -(50000000000000 * (i : Int)) ≤ bndP r l i ∧ bndP r l i ≤ 150000000000000
  | 0, _ => by
    have h1 := sum_bnd l l.length h
    rw [List.take_length] at h1
    have := hr.p40
    have := hr.d0
    have := hr.d2
    have hc : r.de = 0 ∨ r.de = 1 ∨ r.de = 2 := by omega
    simp only [bndP]
    rcases hc with e | e | e <;> rw [e] <;> simp <;> omega
  | i + 1, hi => by
    have ih := bndP_bnd hr h hl i (by omega)
    have h1 := litS_bnd (r := r) h (i : Int) l.length
    obtain ⟨_, _, _, _, q3, q4⟩ := hr.post (i := (i : Int)) (by omega) (by omega)
    have := hr.p40
    simp only [bndP]
    have hm : 0 ≤ max 0 (litS r l i l.length - (po r i).co) ∧ max 0 (litS r l i l.length - (po r i).co) ≤ 50000000000000 := by
      rw [Int.max_def]; split <;> omega
    push_cast
    omega
theorem min_any : ∀ (l : List Int) (m : Int), decide (minL m l < 0) = (m :: l).any (fun x => decide (x < 0))
  | [], m => by
    simp only [minL, List.any_cons, List.any_nil, Bool.or_false]
    try exact decide_eq_decide.2 Iff.rfl
  | x :: l, m => by
    rw [minL, min_any l (min m x)]
    simp only [List.any_cons, ← Bool.or_assoc]
    congr 1
    rw [Bool.eq_iff_iff]; simp [Int.min_def]; split <;> omega
theorem max_any : ∀ (l : List Int) (m d : Int), decide (d < maxL m l) = (m :: l).any (fun x => decide (d < x))
  | [], m, d => by
    simp only [maxL, List.any_cons, List.any_nil, Bool.or_false]
    try exact decide_eq_decide.2 Iff.rfl
  | x :: l, m, d => by
    rw [maxL, max_any l (max m x) d]
    simp only [List.any_cons, ← Bool.or_assoc]
    congr 1
    rw [Bool.eq_iff_iff]; simp [Int.max_def]; split <;> omega
theorem any_or {α : Type} (p q : α → Bool) : ∀ l : List α, l.any (fun x => p x || q x) = (l.any p || l.any q)
  | [] => rfl
  | x :: l => by simp only [List.any_cons, any_or p q l]; cases p x <;> cases q x <;> simp
theorem badX_any (l : List Int) : l.any badX = (l.any (fun x => decide (x < 0)) || l.any (fun x => decide (1099511627776 < x))) := by
  rw [← any_or]; congr 1; funext x; simp [badX, Bool.decide_or]
/-- The prices from one place to another one. -/
theorem slice_sum {r : Rd} {l : List Int} {i : Int} (h0 : 0 ≤ rFrom r i) (hft : rFrom r i < rTo r i) : ∀ m : Nat, litS r l i m = ((l.take (min m (rTo r i).toNat)).drop (rFrom r i).toNat).sum
  | 0 => by simp [litS]
  | m + 1 => by
    have ih := slice_sum (l := l) h0 hft m
    simp only [litS, ih]
    by_cases hb : litB r (po r i) (m : Int) = true
    · have hb' : rFrom r i ≤ m ∧ (m : Int) < rTo r i := by simp [litB] at hb; simp only [rFrom, rTo]; omega
      rw [hb, if_pos rfl, Nat.min_eq_left (by omega), Nat.min_eq_left (by omega)]
      cases hm : l[m]? with
      | none =>
        have : l.length ≤ m := List.getElem?_eq_none_iff.1 hm
        rw [List.take_of_length_le (by omega), List.take_of_length_le (by omega)]; simp
      | some x =>
        have hlt := (List.getElem?_eq_some_iff.1 hm).1
        rw [take_succ_eq hm, List.drop_append_of_le_length (by simp; omega), List.sum_append]
        simp
    · have hb' : ¬ (rFrom r i ≤ m ∧ (m : Int) < rTo r i) := by
        intro h2; apply hb; simp only [litB, decide_eq_true_eq]; simp only [rFrom, rTo] at h2; omega
      simp only [hb, Bool.false_eq_true, if_false, Int.add_zero]
      by_cases h3 : (rTo r i).toNat ≤ m
      · rw [Nat.min_eq_right h3, Nat.min_eq_right (by omega)]
      · have h4 : m < (rFrom r i).toNat := by omega
        rw [List.drop_eq_nil_of_le (by simp; omega), List.drop_eq_nil_of_le (by simp; omega)]
theorem lit_none {r : Rd} {l : List Int} {i : Int} (hft : ¬ rFrom r i < rTo r i) : ∀ m, litS r l i m = 0
  | 0 => rfl
  | m + 1 => by
    have hb : litB r (po r i) (m : Int) = false := by
      simp only [litB, decide_eq_false_iff_not]; simp only [rFrom, rTo] at hft; omega
    simp [litS, lit_none hft m, hb]

theorem okPr_ok {r : Rd} {l : List Int} (h : okPr r l = 0) : OkR r ∧ (l.length : Int) = r.pl ∧ OkX l := by
  unfold okPr at h
  split at h
  · rename_i h1; exact absurd h h1
  rename_i h1
  split at h
  · simp at h
  rename_i h2
  split at h
  · simp at h
  rename_i h3
  exact ⟨okRoad_ok (by simpa using h1), by simpa using h2, okX_of (by simpa using h3)⟩
set_option maxHeartbeats 8000000 in
theorem checkPrices29 (r : Rd) (l : List Int) : Pure Tryd.prog 29 [roadV r, ints l] (.tup [I (if okPr r l = 0 then bndP r l r.ps.length else 0), I (okPr r l)]) := by
  refine pure_wkE (bad := []) (kp := kp29) (X := tx) (nt := 72) (rs := [.tmp 4, .tmp 5]) Tryd.func29 rfl rfl rfl rfl mo (by kernel_rfl) rfl rfl (fun hf => ?_)
  simp (config := { maxSteps := 2000000 }) only [go_sem, reduceIte, Nat.reduceEqDiff, Nat.reduceAdd, Nat.reduceLT, Nat.reduceLeDiff, Nat.reduceBEq, Nat.reduceMul, Nat.reduceSub, Nat.reduceDiv, Int.reduceNeg, Int.reduceLT, Int.reduceLE, Int.reduceEq, Int.reduceToNat, fillC, zc, List.replicate_succ, List.replicate_zero, List.flatten_cons, List.flatten_nil, toDs, toD, chunk, placeS, srcRows, List.all_cons, List.all_nil, List.all_map, Function.comp_def, List.take_nil, List.drop_nil, List.toList_toArray, C.eqbL, eqCs, eqC, List.drop_one, List.tail_cons, lim, lk29, lk30, roadV, roadC]
  refine aops_pure' (checkRoad19 r) rfl rfl (by first | exact wk_refls _ | (repeat constructor)) ?_
  by_cases hokr : okRoad r = 0
  case neg =>
    have e : okPr r l = okRoad r := by simp [okPr, hokr]
    simp (config := { maxSteps := 2000000 }) only [go_sem, reduceIte, Nat.reduceEqDiff, Nat.reduceAdd, Nat.reduceLT, Nat.reduceLeDiff, Nat.reduceBEq, Nat.reduceMul, Nat.reduceSub, Nat.reduceDiv, Int.reduceNeg, Int.reduceLT, Int.reduceLE, Int.reduceEq, Int.reduceToNat, fillC, zc, List.replicate_succ, List.replicate_zero, List.flatten_cons, List.flatten_nil, toDs, toD, chunk, placeS, srcRows, List.all_cons, List.all_nil, List.all_map, Function.comp_def, List.take_nil, List.drop_nil, List.toList_toArray, C.eqbL, eqCs, eqC, List.drop_one, List.tail_cons, lim, lk29, lk30, hokr, e]
  have hr := okRoad_ok hokr
  have p1 := hr.p1
  have p40 := hr.p40
  have hlen := hr.len
  by_cases hl : (l.length : Int) = r.pl
  case neg =>
    have e : okPr r l = 15 := by simp [okPr, hokr, hl]
    simp (config := { maxSteps := 2000000 }) only [go_sem, reduceIte, Nat.reduceEqDiff, Nat.reduceAdd, Nat.reduceLT, Nat.reduceLeDiff, Nat.reduceBEq, Nat.reduceMul, Nat.reduceSub, Nat.reduceDiv, Int.reduceNeg, Int.reduceLT, Int.reduceLE, Int.reduceEq, Int.reduceToNat, fillC, zc, List.replicate_succ, List.replicate_zero, List.flatten_cons, List.flatten_nil, toDs, toD, chunk, placeS, srcRows, List.all_cons, List.all_nil, List.all_map, Function.comp_def, List.take_nil, List.drop_nil, List.toList_toArray, C.eqbL, eqCs, eqC, List.drop_one, List.tail_cons, lim, lk29, lk30, hokr, hl, e, ints]
  obtain ⟨x, xs, hxs⟩ : ∃ x xs, l = x :: xs := by
    cases l with
    | nil => simp at hl; omega
    | cons x xs => exact ⟨x, xs, rfl⟩
  simp (config := { maxSteps := 2000000 }) only [go_sem, reduceIte, Nat.reduceEqDiff, Nat.reduceAdd, Nat.reduceLT, Nat.reduceLeDiff, Nat.reduceBEq, Nat.reduceMul, Nat.reduceSub, Nat.reduceDiv, Int.reduceNeg, Int.reduceLT, Int.reduceLE, Int.reduceEq, Int.reduceToNat, fillC, zc, List.replicate_succ, List.replicate_zero, List.flatten_cons, List.flatten_nil, toDs, toD, chunk, placeS, srcRows, List.all_cons, List.all_nil, List.all_map, Function.comp_def, List.take_nil, List.drop_nil, List.toList_toArray, C.eqbL, eqCs, eqC, List.drop_one, List.tail_cons, lim, lk29, lk30, hokr, hl, ints]
  have hmin := min56 x xs
  have hmax := max57 x xs
  rw [← hxs] at hmin hmax
  simp only [ints] at hmin hmax
  refine aops_pure' (hmin) rfl rfl (by first | exact wk_refls _ | (repeat constructor)) ?_
  have e1 : decide (minL x xs < 0) = l.any (fun x => decide (x < 0)) := by rw [min_any, hxs]
  have e2 : decide (1099511627776 < maxL x xs) = l.any (fun x => decide (1099511627776 < x)) := by rw [max_any, hxs]
  simp (config := { maxSteps := 2000000 }) only [go_sem, reduceIte, Nat.reduceEqDiff, Nat.reduceAdd, Nat.reduceLT, Nat.reduceLeDiff, Nat.reduceBEq, Nat.reduceMul, Nat.reduceSub, Nat.reduceDiv, Int.reduceNeg, Int.reduceLT, Int.reduceLE, Int.reduceEq, Int.reduceToNat, fillC, zc, List.replicate_succ, List.replicate_zero, List.flatten_cons, List.flatten_nil, toDs, toD, chunk, placeS, srcRows, List.all_cons, List.all_nil, List.all_map, Function.comp_def, List.take_nil, List.drop_nil, List.toList_toArray, C.eqbL, eqCs, eqC, List.drop_one, List.tail_cons, lim, lk29, lk30, e1]
  cases h3 : l.any (fun x => decide (x < 0)) with
  | true =>
    have e : okPr r l = 3 := by simp [okPr, hokr, hl, badX_any, h3]
    simp (config := { maxSteps := 2000000 }) only [go_sem, reduceIte, Nat.reduceEqDiff, Nat.reduceAdd, Nat.reduceLT, Nat.reduceLeDiff, Nat.reduceBEq, Nat.reduceMul, Nat.reduceSub, Nat.reduceDiv, Int.reduceNeg, Int.reduceLT, Int.reduceLE, Int.reduceEq, Int.reduceToNat, fillC, zc, List.replicate_succ, List.replicate_zero, List.flatten_cons, List.flatten_nil, toDs, toD, chunk, placeS, srcRows, List.all_cons, List.all_nil, List.all_map, Function.comp_def, List.take_nil, List.drop_nil, List.toList_toArray, C.eqbL, eqCs, eqC, List.drop_one, List.tail_cons, lim, lk29, lk30, e]
  | false =>
  simp (config := { maxSteps := 2000000 }) only [go_sem, reduceIte, Nat.reduceEqDiff, Nat.reduceAdd, Nat.reduceLT, Nat.reduceLeDiff, Nat.reduceBEq, Nat.reduceMul, Nat.reduceSub, Nat.reduceDiv, Int.reduceNeg, Int.reduceLT, Int.reduceLE, Int.reduceEq, Int.reduceToNat, fillC, zc, List.replicate_succ, List.replicate_zero, List.flatten_cons, List.flatten_nil, toDs, toD, chunk, placeS, srcRows, List.all_cons, List.all_nil, List.all_map, Function.comp_def, List.take_nil, List.drop_nil, List.toList_toArray, C.eqbL, eqCs, eqC, List.drop_one, List.tail_cons, lim, lk29, lk30]
  refine aops_pure' (hmax) rfl rfl (by first | exact wk_refls _ | (repeat constructor)) ?_
  simp (config := { maxSteps := 2000000 }) only [go_sem, reduceIte, Nat.reduceEqDiff, Nat.reduceAdd, Nat.reduceLT, Nat.reduceLeDiff, Nat.reduceBEq, Nat.reduceMul, Nat.reduceSub, Nat.reduceDiv, Int.reduceNeg, Int.reduceLT, Int.reduceLE, Int.reduceEq, Int.reduceToNat, fillC, zc, List.replicate_succ, List.replicate_zero, List.flatten_cons, List.flatten_nil, toDs, toD, chunk, placeS, srcRows, List.all_cons, List.all_nil, List.all_map, Function.comp_def, List.take_nil, List.drop_nil, List.toList_toArray, C.eqbL, eqCs, eqC, List.drop_one, List.tail_cons, lim, lk29, lk30, e2]
  cases h4 : l.any (fun x => decide (1099511627776 < x)) with
  | true =>
    have e : okPr r l = 3 := by simp [okPr, hokr, hl, badX_any, h3, h4]
    simp (config := { maxSteps := 2000000 }) only [go_sem, reduceIte, Nat.reduceEqDiff, Nat.reduceAdd, Nat.reduceLT, Nat.reduceLeDiff, Nat.reduceBEq, Nat.reduceMul, Nat.reduceSub, Nat.reduceDiv, Int.reduceNeg, Int.reduceLT, Int.reduceLE, Int.reduceEq, Int.reduceToNat, fillC, zc, List.replicate_succ, List.replicate_zero, List.flatten_cons, List.flatten_nil, toDs, toD, chunk, placeS, srcRows, List.all_cons, List.all_nil, List.all_map, Function.comp_def, List.take_nil, List.drop_nil, List.toList_toArray, C.eqbL, eqCs, eqC, List.drop_one, List.tail_cons, lim, lk29, lk30, e]
  | false =>
  have hb : l.any badX = false := by rw [badX_any, h3, h4]; rfl
  have e : okPr r l = 0 := by simp [okPr, hokr, hl, hb]
  have hx := okX_of hb
  have hs := sum58 l hx (by omega)
  simp only [ints] at hs
  have hsb := sum_bnd l l.length hx
  rw [List.take_length] at hsb
  have b0 := bndP_bnd hr hx hl 0 (by omega)
  simp only [bndP] at b0
  have wd : wr .i64 (r.de + 1) = r.de + 1 := wr_id (by have := hr.d0; omega) (by have := hr.d2; omega)
  have wm : wr .i64 ((r.de + 1) * l.sum) = (r.de + 1) * l.sum := wr_id (by omega) (by omega)
  have hnet := net53 r
  simp only [roadV, roadC] at hnet
  rw [e]
  simp (config := { maxSteps := 2000000 }) only [go_sem, reduceIte, Nat.reduceEqDiff, Nat.reduceAdd, Nat.reduceLT, Nat.reduceLeDiff, Nat.reduceBEq, Nat.reduceMul, Nat.reduceSub, Nat.reduceDiv, Int.reduceNeg, Int.reduceLT, Int.reduceLE, Int.reduceEq, Int.reduceToNat, fillC, zc, List.replicate_succ, List.replicate_zero, List.flatten_cons, List.flatten_nil, toDs, toD, chunk, placeS, srcRows, List.all_cons, List.all_nil, List.all_map, Function.comp_def, List.take_nil, List.drop_nil, List.toList_toArray, C.eqbL, eqCs, eqC, List.drop_one, List.tail_cons, lim, lk29, lk30]
  refine aops_pure' (hnet) rfl rfl (by first | exact wk_refls _ | (repeat constructor)) ?_
  simp (config := { maxSteps := 2000000 }) only [go_sem, reduceIte, Nat.reduceEqDiff, Nat.reduceAdd, Nat.reduceLT, Nat.reduceLeDiff, Nat.reduceBEq, Nat.reduceMul, Nat.reduceSub, Nat.reduceDiv, Int.reduceNeg, Int.reduceLT, Int.reduceLE, Int.reduceEq, Int.reduceToNat, fillC, zc, List.replicate_succ, List.replicate_zero, List.flatten_cons, List.flatten_nil, toDs, toD, chunk, placeS, srcRows, List.all_cons, List.all_nil, List.all_map, Function.comp_def, List.take_nil, List.drop_nil, List.toList_toArray, C.eqbL, eqCs, eqC, List.drop_one, List.tail_cons, lim, lk29, lk30, wd]
  refine dops_pure' (hs) rfl rfl (by first | exact wk_refls _ | (repeat constructor)) (by kernel_rfl) ?_
  simp (config := { maxSteps := 2000000 }) only [go_sem, reduceIte, Nat.reduceEqDiff, Nat.reduceAdd, Nat.reduceLT, Nat.reduceLeDiff, Nat.reduceBEq, Nat.reduceMul, Nat.reduceSub, Nat.reduceDiv, Int.reduceNeg, Int.reduceLT, Int.reduceLE, Int.reduceEq, Int.reduceToNat, fillC, zc, List.replicate_succ, List.replicate_zero, List.flatten_cons, List.flatten_nil, toDs, toD, chunk, placeS, srcRows, List.all_cons, List.all_nil, List.all_map, Function.comp_def, List.take_nil, List.drop_nil, List.toList_toArray, C.eqbL, eqCs, eqC, List.drop_one, List.tail_cons, lim, lk29, lk30, wm]
  refine goE_loop (bad := []) (kp := kp29) (fun i : Nat => { slots := [(1, ints l), (7, .c (.dp (netD r zf zf))), (8, I (bndP r l i)), (43, postsV r.ps), (44, I r.ps.length), (45, I i)], heap := [.cells (roadC r)], marks := [] }) (fun i => i ≤ r.ps.length) (fun i => r.ps.length - i) 0 mo (by kernel_rfl) ?_ (Nat.zero_le _) ?_
  · refine ent_weaken [] rfl rfl (Nat.zero_le _) rfl rfl ?_
    simp (config := { maxSteps := 2000000 }) only [go_sem, reduceIte, Nat.reduceEqDiff, Nat.reduceAdd, Nat.reduceLT, Nat.reduceLeDiff, Nat.reduceBEq, Nat.reduceMul, Nat.reduceSub, Nat.reduceDiv, Int.reduceNeg, Int.reduceLT, Int.reduceLE, Int.reduceEq, Int.reduceToNat, fillC, zc, List.replicate_succ, List.replicate_zero, List.flatten_cons, List.flatten_nil, toDs, toD, chunk, placeS, srcRows, List.all_cons, List.all_nil, List.all_map, Function.comp_def, List.take_nil, List.drop_nil, List.toList_toArray, C.eqbL, eqCs, eqC, List.drop_one, List.tail_cons, lim, lk29, lk30, ints, roadC, postsV, bndP]
    exact .refl _
  rintro i hi
  simp (config := { maxSteps := 2000000 }) only [go_sem, reduceIte, Nat.reduceEqDiff, Nat.reduceAdd, Nat.reduceLT, Nat.reduceLeDiff, Nat.reduceBEq, Nat.reduceMul, Nat.reduceSub, Nat.reduceDiv, Int.reduceNeg, Int.reduceLT, Int.reduceLE, Int.reduceEq, Int.reduceToNat, fillC, zc, List.replicate_succ, List.replicate_zero, List.flatten_cons, List.flatten_nil, toDs, toD, chunk, placeS, srcRows, List.all_cons, List.all_nil, List.all_map, Function.comp_def, List.take_nil, List.drop_nil, List.toList_toArray, C.eqbL, eqCs, eqC, List.drop_one, List.tail_cons, lim, lk29, lk30, ints, roadC, postsV]
  refine goE_if (fun h => ?_) (fun h => ?_)
  · have hlt : i < r.ps.length := by simpa using h
    obtain ⟨hp, q0, q1, q2, q3, q4⟩ := hr.post (i := (i : Int)) (by omega) (by omega)
    have hp : r.ps[i]? = some (po r i) := hp
    have c6 : (decide ((0 : Int) ≤ (i : Int)) && decide ((i : Int) < (r.ps.length : Int))) = true := by simp; omega
    have b1 := bndP_bnd hr hx hl i hi
    have b2 := bndP_bnd hr hx hl (i + 1) hlt
    have b3 := litS_bnd (r := r) hx (i : Int) l.length
    have hf0 : 0 ≤ rFrom r i := by have := hr.i0; simp only [rFrom]; omega
    have hto : rTo r i ≤ l.length := by have := hr.i0; simp only [rTo]; omega
    simp (config := { maxSteps := 2000000 }) only [go_sem, reduceIte, Nat.reduceEqDiff, Nat.reduceAdd, Nat.reduceLT, Nat.reduceLeDiff, Nat.reduceBEq, Nat.reduceMul, Nat.reduceSub, Nat.reduceDiv, Int.reduceNeg, Int.reduceLT, Int.reduceLE, Int.reduceEq, Int.reduceToNat, fillC, zc, List.replicate_succ, List.replicate_zero, List.flatten_cons, List.flatten_nil, toDs, toD, chunk, placeS, srcRows, List.all_cons, List.all_nil, List.all_map, Function.comp_def, List.take_nil, List.drop_nil, List.toList_toArray, C.eqbL, eqCs, eqC, List.drop_one, List.tail_cons, lim, lk29, lk30, hp, pD, c6]
    refine aops_pure' (reach59 r zf zf i hr (by omega) (by omega)) rfl rfl (by first | exact wk_refls _ | (repeat constructor)) ?_
    by_cases hft : rFrom r i < rTo r i
    · have hsl := slice_sum (l := l) hf0 hft l.length
      rw [Nat.min_eq_right (by omega)] at hsl
      have hs2 := sum58 ((l.take (rTo r i).toNat).drop (rFrom r i).toNat) (fun y hy => hx y (List.mem_of_mem_take (List.mem_of_mem_drop hy))) (by simp; omega)
      rw [← hsl] at hs2
      simp only [ints, List.map_drop, List.map_take] at hs2
      have c1 : decide (0 ≤ rFrom r i) = true := decide_eq_true hf0
      have c2 : decide (rFrom r i ≤ rTo r i) = true := decide_eq_true (by omega)
      have c3 : decide (rTo r i ≤ (l.length : Int)) = true := decide_eq_true hto
      simp (config := { maxSteps := 2000000 }) only [go_sem, reduceIte, Nat.reduceEqDiff, Nat.reduceAdd, Nat.reduceLT, Nat.reduceLeDiff, Nat.reduceBEq, Nat.reduceMul, Nat.reduceSub, Nat.reduceDiv, Int.reduceNeg, Int.reduceLT, Int.reduceLE, Int.reduceEq, Int.reduceToNat, fillC, zc, List.replicate_succ, List.replicate_zero, List.flatten_cons, List.flatten_nil, toDs, toD, chunk, placeS, srcRows, List.all_cons, List.all_nil, List.all_map, Function.comp_def, List.take_nil, List.drop_nil, List.toList_toArray, C.eqbL, eqCs, eqC, List.drop_one, List.tail_cons, lim, lk29, lk30, hft, bound, c1, c2, c3]
      refine ⟨by simp [iD], ?_⟩
      refine dops_pure' (hs2) rfl rfl (by first | exact wk_refls _ | (repeat constructor)) (by kernel_rfl) ?_
      have w3 : wr .i64 (litS r l i l.length - (po r i).co) = litS r l i l.length - (po r i).co := wr_id (by omega) (by omega)
      have w4 : wr .i64 (bndP r l i - max 0 (litS r l i l.length - (po r i).co)) = bndP r l (i + 1) := by
        simp only [bndP] at b2 ⊢
        exact wr_id (by omega) (by omega)
      simp (config := { maxSteps := 2000000 }) only [go_sem, reduceIte, Nat.reduceEqDiff, Nat.reduceAdd, Nat.reduceLT, Nat.reduceLeDiff, Nat.reduceBEq, Nat.reduceMul, Nat.reduceSub, Nat.reduceDiv, Int.reduceNeg, Int.reduceLT, Int.reduceLE, Int.reduceEq, Int.reduceToNat, fillC, zc, List.replicate_succ, List.replicate_zero, List.flatten_cons, List.flatten_nil, toDs, toD, chunk, placeS, srcRows, List.all_cons, List.all_nil, List.all_map, Function.comp_def, List.take_nil, List.drop_nil, List.toList_toArray, C.eqbL, eqCs, eqC, List.drop_one, List.tail_cons, lim, lk29, lk30, intsOf, maxL, w3, w4, wr_succ hlt (show r.ps.length ≤ 140737488355328 by omega)]
      refine ⟨i + 1, hlt, by omega, ?_⟩
      refine ent_weaken [.cells (pC (po r i))] rfl rfl (Nat.zero_le _) rfl rfl ?_
      simp (config := { maxSteps := 2000000 }) only [go_sem, reduceIte, Nat.reduceEqDiff, Nat.reduceAdd, Nat.reduceLT, Nat.reduceLeDiff, Nat.reduceBEq, Nat.reduceMul, Nat.reduceSub, Nat.reduceDiv, Int.reduceNeg, Int.reduceLT, Int.reduceLE, Int.reduceEq, Int.reduceToNat, fillC, zc, List.replicate_succ, List.replicate_zero, List.flatten_cons, List.flatten_nil, toDs, toD, chunk, placeS, srcRows, List.all_cons, List.all_nil, List.all_map, Function.comp_def, List.take_nil, List.drop_nil, List.toList_toArray, C.eqbL, eqCs, eqC, List.drop_one, List.tail_cons, lim, lk29, lk30]
    · have hb2 : bndP r l (i + 1) = bndP r l i := by
        simp only [bndP]
        rw [lit_none hft, Int.max_def]; split <;> omega
      simp (config := { maxSteps := 2000000 }) only [go_sem, reduceIte, Nat.reduceEqDiff, Nat.reduceAdd, Nat.reduceLT, Nat.reduceLeDiff, Nat.reduceBEq, Nat.reduceMul, Nat.reduceSub, Nat.reduceDiv, Int.reduceNeg, Int.reduceLT, Int.reduceLE, Int.reduceEq, Int.reduceToNat, fillC, zc, List.replicate_succ, List.replicate_zero, List.flatten_cons, List.flatten_nil, toDs, toD, chunk, placeS, srcRows, List.all_cons, List.all_nil, List.all_map, Function.comp_def, List.take_nil, List.drop_nil, List.toList_toArray, C.eqbL, eqCs, eqC, List.drop_one, List.tail_cons, lim, lk29, lk30, hft, wr_succ hlt (show r.ps.length ≤ 140737488355328 by omega)]
      refine ⟨i + 1, hlt, by omega, ?_⟩
      refine ent_weaken [.cells (pC (po r i))] rfl rfl (Nat.zero_le _) rfl rfl ?_
      simp (config := { maxSteps := 2000000 }) only [go_sem, reduceIte, Nat.reduceEqDiff, Nat.reduceAdd, Nat.reduceLT, Nat.reduceLeDiff, Nat.reduceBEq, Nat.reduceMul, Nat.reduceSub, Nat.reduceDiv, Int.reduceNeg, Int.reduceLT, Int.reduceLE, Int.reduceEq, Int.reduceToNat, fillC, zc, List.replicate_succ, List.replicate_zero, List.flatten_cons, List.flatten_nil, toDs, toD, chunk, placeS, srcRows, List.all_cons, List.all_nil, List.all_map, Function.comp_def, List.take_nil, List.drop_nil, List.toList_toArray, C.eqbL, eqCs, eqC, List.drop_one, List.tail_cons, lim, lk29, lk30, hb2]
  · have hi' : i = r.ps.length := by simp at h; omega
    subst hi'
    simp (config := { maxSteps := 2000000 }) only [go_sem, reduceIte, Nat.reduceEqDiff, Nat.reduceAdd, Nat.reduceLT, Nat.reduceLeDiff, Nat.reduceBEq, Nat.reduceMul, Nat.reduceSub, Nat.reduceDiv, Int.reduceNeg, Int.reduceLT, Int.reduceLE, Int.reduceEq, Int.reduceToNat, fillC, zc, List.replicate_succ, List.replicate_zero, List.flatten_cons, List.flatten_nil, toDs, toD, chunk, placeS, srcRows, List.all_cons, List.all_nil, List.all_map, Function.comp_def, List.take_nil, List.drop_nil, List.toList_toArray, C.eqbL, eqCs, eqC, List.drop_one, List.tail_cons, lim, lk29, lk30]

theorem sum_mul (d : Int) : ∀ l : List Int, (l.map (fun x => d * x)).sum = d * l.sum
  | [] => by simp
  | x :: l => by simp only [List.map_cons, List.sum_cons, sum_mul d l, Int.mul_add]
def mulS (d : Int) (l : List Int) (k : Nat) : Int := ((l.take k).map (fun x => d * x)).sum
theorem mulS_succ {d : Int} {l : List Int} {k : Nat} {x : Int} (h : l[k]? = some x) : mulS d l (k + 1) = mulS d l k + d * x := by
  simp [mulS, take_succ_eq h, List.sum_append]
set_option maxHeartbeats 8000000 in
theorem checkPrices30 (r : Rd) (l : List Int) : Pure Tryd.prog 30 [roadV r, ints l] (.tup [I (if okPr r l = 0 then bndP r l r.ps.length else 0), I (okPr r l)]) := by
  refine pure_wkE (bad := []) (kp := kp30) (X := tx) (nt := 84) (rs := [.tmp 4, .tmp 5]) Tryd.func30 rfl rfl rfl rfl mo (by kernel_rfl) rfl rfl (fun hf => ?_)
  simp (config := { maxSteps := 2000000 }) only [go_sem, reduceIte, Nat.reduceEqDiff, Nat.reduceAdd, Nat.reduceLT, Nat.reduceLeDiff, Nat.reduceBEq, Nat.reduceMul, Nat.reduceSub, Nat.reduceDiv, Int.reduceNeg, Int.reduceLT, Int.reduceLE, Int.reduceEq, Int.reduceToNat, fillC, zc, List.replicate_succ, List.replicate_zero, List.flatten_cons, List.flatten_nil, toDs, toD, chunk, placeS, srcRows, List.all_cons, List.all_nil, List.all_map, Function.comp_def, List.take_nil, List.drop_nil, List.toList_toArray, C.eqbL, eqCs, eqC, List.drop_one, List.tail_cons, lim, lk29, lk30, roadV, roadC]
  refine aops_pure' (checkRoad20 r) rfl rfl (by first | exact wk_refls _ | (repeat constructor)) ?_
  by_cases hokr : okRoad r = 0
  case neg =>
    have e : okPr r l = okRoad r := by simp [okPr, hokr]
    simp (config := { maxSteps := 2000000 }) only [go_sem, reduceIte, Nat.reduceEqDiff, Nat.reduceAdd, Nat.reduceLT, Nat.reduceLeDiff, Nat.reduceBEq, Nat.reduceMul, Nat.reduceSub, Nat.reduceDiv, Int.reduceNeg, Int.reduceLT, Int.reduceLE, Int.reduceEq, Int.reduceToNat, fillC, zc, List.replicate_succ, List.replicate_zero, List.flatten_cons, List.flatten_nil, toDs, toD, chunk, placeS, srcRows, List.all_cons, List.all_nil, List.all_map, Function.comp_def, List.take_nil, List.drop_nil, List.toList_toArray, C.eqbL, eqCs, eqC, List.drop_one, List.tail_cons, lim, lk29, lk30, hokr]
    refine aops_pure' (checkRoad20 r) rfl rfl (by first | exact wk_refls _ | (repeat constructor)) ?_
    simp (config := { maxSteps := 2000000 }) only [go_sem, reduceIte, Nat.reduceEqDiff, Nat.reduceAdd, Nat.reduceLT, Nat.reduceLeDiff, Nat.reduceBEq, Nat.reduceMul, Nat.reduceSub, Nat.reduceDiv, Int.reduceNeg, Int.reduceLT, Int.reduceLE, Int.reduceEq, Int.reduceToNat, fillC, zc, List.replicate_succ, List.replicate_zero, List.flatten_cons, List.flatten_nil, toDs, toD, chunk, placeS, srcRows, List.all_cons, List.all_nil, List.all_map, Function.comp_def, List.take_nil, List.drop_nil, List.toList_toArray, C.eqbL, eqCs, eqC, List.drop_one, List.tail_cons, lim, lk29, lk30, hokr, e]
  have hr := okRoad_ok hokr
  have p1 := hr.p1
  have p40 := hr.p40
  have hlen := hr.len
  by_cases hl : (l.length : Int) = r.pl
  case neg =>
    have e : okPr r l = 15 := by simp [okPr, hokr, hl]
    simp (config := { maxSteps := 2000000 }) only [go_sem, reduceIte, Nat.reduceEqDiff, Nat.reduceAdd, Nat.reduceLT, Nat.reduceLeDiff, Nat.reduceBEq, Nat.reduceMul, Nat.reduceSub, Nat.reduceDiv, Int.reduceNeg, Int.reduceLT, Int.reduceLE, Int.reduceEq, Int.reduceToNat, fillC, zc, List.replicate_succ, List.replicate_zero, List.flatten_cons, List.flatten_nil, toDs, toD, chunk, placeS, srcRows, List.all_cons, List.all_nil, List.all_map, Function.comp_def, List.take_nil, List.drop_nil, List.toList_toArray, C.eqbL, eqCs, eqC, List.drop_one, List.tail_cons, lim, lk29, lk30, hokr, hl, e, ints]
  simp (config := { maxSteps := 2000000 }) only [go_sem, reduceIte, Nat.reduceEqDiff, Nat.reduceAdd, Nat.reduceLT, Nat.reduceLeDiff, Nat.reduceBEq, Nat.reduceMul, Nat.reduceSub, Nat.reduceDiv, Int.reduceNeg, Int.reduceLT, Int.reduceLE, Int.reduceEq, Int.reduceToNat, fillC, zc, List.replicate_succ, List.replicate_zero, List.flatten_cons, List.flatten_nil, toDs, toD, chunk, placeS, srcRows, List.all_cons, List.all_nil, List.all_map, Function.comp_def, List.take_nil, List.drop_nil, List.toList_toArray, C.eqbL, eqCs, eqC, List.drop_one, List.tail_cons, lim, lk29, lk30, hokr, hl, ints]
  have d0 := hr.d0
  have d2 := hr.d2
  have wd : wr .i64 (r.de + 1) = r.de + 1 := wr_id (by omega) (by omega)
  refine goE_loop (bad := []) (kp := kp30) (fun k : Nat => { slots := [(1, ints l), (2, .c (.ptr 0 0)), (6, I (mulS (r.de + 1) l k)), (7, I k)], heap := [.cells (roadC r)], marks := [] }) (fun k => k ≤ l.length ∧ ∀ j x, j < k → l[j]? = some x → badX x = false) (fun k => l.length - k) 0 mo (by kernel_rfl) ?_ ⟨Nat.zero_le _, by intro j x hj; omega⟩ ?_
  · refine ent_weaken [] rfl rfl (Nat.zero_le _) rfl rfl ?_
    simp (config := { maxSteps := 2000000 }) only [go_sem, reduceIte, Nat.reduceEqDiff, Nat.reduceAdd, Nat.reduceLT, Nat.reduceLeDiff, Nat.reduceBEq, Nat.reduceMul, Nat.reduceSub, Nat.reduceDiv, Int.reduceNeg, Int.reduceLT, Int.reduceLE, Int.reduceEq, Int.reduceToNat, fillC, zc, List.replicate_succ, List.replicate_zero, List.flatten_cons, List.flatten_nil, toDs, toD, chunk, placeS, srcRows, List.all_cons, List.all_nil, List.all_map, Function.comp_def, List.take_nil, List.drop_nil, List.toList_toArray, C.eqbL, eqCs, eqC, List.drop_one, List.tail_cons, lim, lk29, lk30, ints, roadC, mulS, List.map_nil, List.sum_nil]
    exact .refl _
  rintro k ⟨hk, hall⟩
  simp (config := { maxSteps := 2000000 }) only [go_sem, reduceIte, Nat.reduceEqDiff, Nat.reduceAdd, Nat.reduceLT, Nat.reduceLeDiff, Nat.reduceBEq, Nat.reduceMul, Nat.reduceSub, Nat.reduceDiv, Int.reduceNeg, Int.reduceLT, Int.reduceLE, Int.reduceEq, Int.reduceToNat, fillC, zc, List.replicate_succ, List.replicate_zero, List.flatten_cons, List.flatten_nil, toDs, toD, chunk, placeS, srcRows, List.all_cons, List.all_nil, List.all_map, Function.comp_def, List.take_nil, List.drop_nil, List.toList_toArray, C.eqbL, eqCs, eqC, List.drop_one, List.tail_cons, lim, lk29, lk30, ints, roadC]
  refine goE_if (fun h => ?_) (fun h => ?_)
  · have hlt : k < l.length := by simpa using h
    obtain ⟨x, hx⟩ := get_of_lt hlt
    have c6 : (decide ((0 : Int) ≤ (k : Int)) && decide ((k : Int) < (l.length : Int))) = true := by simp; omega
    by_cases h1 : x < 0
    · have hb : l.any badX = true := any_of_get hx (by simp [badX, h1])
      have e : okPr r l = 3 := by simp [okPr, hokr, hl, hb]
      simp (config := { maxSteps := 2000000 }) only [go_sem, reduceIte, Nat.reduceEqDiff, Nat.reduceAdd, Nat.reduceLT, Nat.reduceLeDiff, Nat.reduceBEq, Nat.reduceMul, Nat.reduceSub, Nat.reduceDiv, Int.reduceNeg, Int.reduceLT, Int.reduceLE, Int.reduceEq, Int.reduceToNat, fillC, zc, List.replicate_succ, List.replicate_zero, List.flatten_cons, List.flatten_nil, toDs, toD, chunk, placeS, srcRows, List.all_cons, List.all_nil, List.all_map, Function.comp_def, List.take_nil, List.drop_nil, List.toList_toArray, C.eqbL, eqCs, eqC, List.drop_one, List.tail_cons, lim, lk29, lk30, hx, iD, c6, h1, e]
    by_cases h2 : 1099511627776 < x
    · have hb : l.any badX = true := any_of_get hx (by simp [badX, h2])
      have e : okPr r l = 3 := by simp [okPr, hokr, hl, hb]
      simp (config := { maxSteps := 2000000 }) only [go_sem, reduceIte, Nat.reduceEqDiff, Nat.reduceAdd, Nat.reduceLT, Nat.reduceLeDiff, Nat.reduceBEq, Nat.reduceMul, Nat.reduceSub, Nat.reduceDiv, Int.reduceNeg, Int.reduceLT, Int.reduceLE, Int.reduceEq, Int.reduceToNat, fillC, zc, List.replicate_succ, List.replicate_zero, List.flatten_cons, List.flatten_nil, toDs, toD, chunk, placeS, srcRows, List.all_cons, List.all_nil, List.all_map, Function.comp_def, List.take_nil, List.drop_nil, List.toList_toArray, C.eqbL, eqCs, eqC, List.drop_one, List.tail_cons, lim, lk29, lk30, hx, iD, c6, h1, h2, e]
    have hbx : badX x = false := by simp [badX]; omega
    have hX : OkX (l.take k) := fun y hy => by
      obtain ⟨j, hj⟩ := List.getElem?_of_mem hy
      rw [List.getElem?_take] at hj
      split at hj
      · rename_i hjk
        have := hall j y hjk hj
        simp [badX] at this; omega
      · cases hj
    have hsb := sum_bnd (l.take k) k hX
    rw [List.take_take, Nat.min_self] at hsb
    have hc : r.de = 0 ∨ r.de = 1 ∨ r.de = 2 := by omega
    have hm1 : mulS (r.de + 1) l k = (r.de + 1) * (l.take k).sum := by rw [mulS, sum_mul]
    have w3 : wr .i64 ((r.de + 1) * x) = (r.de + 1) * x := by rcases hc with e | e | e <;> rw [e] <;> exact wr_id (by omega) (by omega)
    have w4 : wr .i64 (mulS (r.de + 1) l k + (r.de + 1) * x) = mulS (r.de + 1) l (k + 1) := by
      rw [mulS_succ hx, hm1]
      rcases hc with e | e | e <;> rw [e] <;> exact wr_id (by omega) (by omega)
    simp (config := { maxSteps := 2000000 }) only [go_sem, reduceIte, Nat.reduceEqDiff, Nat.reduceAdd, Nat.reduceLT, Nat.reduceLeDiff, Nat.reduceBEq, Nat.reduceMul, Nat.reduceSub, Nat.reduceDiv, Int.reduceNeg, Int.reduceLT, Int.reduceLE, Int.reduceEq, Int.reduceToNat, fillC, zc, List.replicate_succ, List.replicate_zero, List.flatten_cons, List.flatten_nil, toDs, toD, chunk, placeS, srcRows, List.all_cons, List.all_nil, List.all_map, Function.comp_def, List.take_nil, List.drop_nil, List.toList_toArray, C.eqbL, eqCs, eqC, List.drop_one, List.tail_cons, lim, lk29, lk30, hx, iD, c6, h1, h2, wd, w3, w4, wr_succ hlt (show l.length ≤ 140737488355328 by omega)]
    refine ⟨k + 1, ⟨hlt, upto_succ hall hx hbx⟩, by omega, ?_⟩
    refine ent_weaken [] rfl rfl (Nat.zero_le _) rfl rfl ?_
    simp (config := { maxSteps := 2000000 }) only [go_sem, reduceIte, Nat.reduceEqDiff, Nat.reduceAdd, Nat.reduceLT, Nat.reduceLeDiff, Nat.reduceBEq, Nat.reduceMul, Nat.reduceSub, Nat.reduceDiv, Int.reduceNeg, Int.reduceLT, Int.reduceLE, Int.reduceEq, Int.reduceToNat, fillC, zc, List.replicate_succ, List.replicate_zero, List.flatten_cons, List.flatten_nil, toDs, toD, chunk, placeS, srcRows, List.all_cons, List.all_nil, List.all_map, Function.comp_def, List.take_nil, List.drop_nil, List.toList_toArray, C.eqbL, eqCs, eqC, List.drop_one, List.tail_cons, lim, lk29, lk30]
  have hk' : k = l.length := by simp at h; omega
  have hb : l.any badX = false := any_none (fun j x hj hx => hall j x (by omega) hx)
  have hX := okX_of hb
  have e : okPr r l = 0 := by simp [okPr, hokr, hl, hb]
  rw [e]
  have hmul : mulS (r.de + 1) l k = bndP r l 0 := by rw [mulS, sum_mul, hk', List.take_length]; rfl
  clear h hall hk hk'
  simp (config := { maxSteps := 2000000 }) only [go_sem, reduceIte, Nat.reduceEqDiff, Nat.reduceAdd, Nat.reduceLT, Nat.reduceLeDiff, Nat.reduceBEq, Nat.reduceMul, Nat.reduceSub, Nat.reduceDiv, Int.reduceNeg, Int.reduceLT, Int.reduceLE, Int.reduceEq, Int.reduceToNat, fillC, zc, List.replicate_succ, List.replicate_zero, List.flatten_cons, List.flatten_nil, toDs, toD, chunk, placeS, srcRows, List.all_cons, List.all_nil, List.all_map, Function.comp_def, List.take_nil, List.drop_nil, List.toList_toArray, C.eqbL, eqCs, eqC, List.drop_one, List.tail_cons, lim, lk29, lk30, hmul]
  refine goE_loop (bad := []) (kp := kp30) (fun i : Nat => { slots := [(1, ints l), (2, .c (.ptr 0 0)), (6, I (bndP r l i)), (8, I i)], heap := [.cells (roadC r)], marks := [] }) (fun i => i ≤ r.ps.length) (fun i => r.ps.length - i) 0 mo (by kernel_rfl) ?_ (Nat.zero_le _) ?_
  · refine ent_weaken [] rfl rfl (Nat.zero_le _) rfl rfl ?_
    simp (config := { maxSteps := 2000000 }) only [go_sem, reduceIte, Nat.reduceEqDiff, Nat.reduceAdd, Nat.reduceLT, Nat.reduceLeDiff, Nat.reduceBEq, Nat.reduceMul, Nat.reduceSub, Nat.reduceDiv, Int.reduceNeg, Int.reduceLT, Int.reduceLE, Int.reduceEq, Int.reduceToNat, fillC, zc, List.replicate_succ, List.replicate_zero, List.flatten_cons, List.flatten_nil, toDs, toD, chunk, placeS, srcRows, List.all_cons, List.all_nil, List.all_map, Function.comp_def, List.take_nil, List.drop_nil, List.toList_toArray, C.eqbL, eqCs, eqC, List.drop_one, List.tail_cons, lim, lk29, lk30, ints, roadC]
    exact .refl _
  rintro i hi
  simp (config := { maxSteps := 2000000 }) only [go_sem, reduceIte, Nat.reduceEqDiff, Nat.reduceAdd, Nat.reduceLT, Nat.reduceLeDiff, Nat.reduceBEq, Nat.reduceMul, Nat.reduceSub, Nat.reduceDiv, Int.reduceNeg, Int.reduceLT, Int.reduceLE, Int.reduceEq, Int.reduceToNat, fillC, zc, List.replicate_succ, List.replicate_zero, List.flatten_cons, List.flatten_nil, toDs, toD, chunk, placeS, srcRows, List.all_cons, List.all_nil, List.all_map, Function.comp_def, List.take_nil, List.drop_nil, List.toList_toArray, C.eqbL, eqCs, eqC, List.drop_one, List.tail_cons, lim, lk29, lk30, ints, roadC]
  refine goE_if (fun h => ?_) (fun h => ?_)
  · have hlt : i < r.ps.length := by simpa using h
    obtain ⟨hp, q0, q1, q2, q3, q4⟩ := hr.post (i := (i : Int)) (by omega) (by omega)
    have hp : r.ps[i]? = some (po r i) := hp
    have c6 : (decide ((0 : Int) ≤ (i : Int)) && decide ((i : Int) < (r.ps.length : Int))) = true := by simp; omega
    simp (config := { maxSteps := 2000000 }) only [go_sem, reduceIte, Nat.reduceEqDiff, Nat.reduceAdd, Nat.reduceLT, Nat.reduceLeDiff, Nat.reduceBEq, Nat.reduceMul, Nat.reduceSub, Nat.reduceDiv, Int.reduceNeg, Int.reduceLT, Int.reduceLE, Int.reduceEq, Int.reduceToNat, fillC, zc, List.replicate_succ, List.replicate_zero, List.flatten_cons, List.flatten_nil, toDs, toD, chunk, placeS, srcRows, List.all_cons, List.all_nil, List.all_map, Function.comp_def, List.take_nil, List.drop_nil, List.toList_toArray, C.eqbL, eqCs, eqC, List.drop_one, List.tail_cons, lim, lk29, lk30]
    refine goE_loop (bad := []) (kp := kp30) (fun k : Nat => { slots := [(1, ints l), (2, .c (.ptr 0 0)), (6, I (bndP r l i)), (8, I i), (9, I (litS r l i k)), (10, I k)], heap := [.cells (roadC r)], marks := [] }) (fun k => k ≤ l.length) (fun k => l.length - k) 0 mo (by kernel_rfl) ?_ (Nat.zero_le _) ?_
    · refine ent_weaken [] rfl rfl (Nat.zero_le _) rfl rfl ?_
      simp (config := { maxSteps := 2000000 }) only [go_sem, reduceIte, Nat.reduceEqDiff, Nat.reduceAdd, Nat.reduceLT, Nat.reduceLeDiff, Nat.reduceBEq, Nat.reduceMul, Nat.reduceSub, Nat.reduceDiv, Int.reduceNeg, Int.reduceLT, Int.reduceLE, Int.reduceEq, Int.reduceToNat, fillC, zc, List.replicate_succ, List.replicate_zero, List.flatten_cons, List.flatten_nil, toDs, toD, chunk, placeS, srcRows, List.all_cons, List.all_nil, List.all_map, Function.comp_def, List.take_nil, List.drop_nil, List.toList_toArray, C.eqbL, eqCs, eqC, List.drop_one, List.tail_cons, lim, lk29, lk30, ints, roadC, litS]
      exact .refl _
    rintro k hk
    simp (config := { maxSteps := 2000000 }) only [go_sem, reduceIte, Nat.reduceEqDiff, Nat.reduceAdd, Nat.reduceLT, Nat.reduceLeDiff, Nat.reduceBEq, Nat.reduceMul, Nat.reduceSub, Nat.reduceDiv, Int.reduceNeg, Int.reduceLT, Int.reduceLE, Int.reduceEq, Int.reduceToNat, fillC, zc, List.replicate_succ, List.replicate_zero, List.flatten_cons, List.flatten_nil, toDs, toD, chunk, placeS, srcRows, List.all_cons, List.all_nil, List.all_map, Function.comp_def, List.take_nil, List.drop_nil, List.toList_toArray, C.eqbL, eqCs, eqC, List.drop_one, List.tail_cons, lim, lk29, lk30, ints, roadC]
    refine goE_if (fun h => ?_) (fun h => ?_)
    · have hkl : k < l.length := by simpa using h
      obtain ⟨x, hx⟩ := get_of_lt hkl
      have c7 : (decide ((0 : Int) ≤ (k : Int)) && decide ((k : Int) < (l.length : Int))) = true := by simp; omega
      have hlights := lights51 r i k hr (by omega) (by omega)
      simp only [roadV, roadC] at hlights
      simp (config := { maxSteps := 2000000 }) only [go_sem, reduceIte, Nat.reduceEqDiff, Nat.reduceAdd, Nat.reduceLT, Nat.reduceLeDiff, Nat.reduceBEq, Nat.reduceMul, Nat.reduceSub, Nat.reduceDiv, Int.reduceNeg, Int.reduceLT, Int.reduceLE, Int.reduceEq, Int.reduceToNat, fillC, zc, List.replicate_succ, List.replicate_zero, List.flatten_cons, List.flatten_nil, toDs, toD, chunk, placeS, srcRows, List.all_cons, List.all_nil, List.all_map, Function.comp_def, List.take_nil, List.drop_nil, List.toList_toArray, C.eqbL, eqCs, eqC, List.drop_one, List.tail_cons, lim, lk29, lk30]
      refine aops_pure' (hlights) rfl rfl (by first | exact wk_refls _ | (repeat constructor)) ?_
      simp (config := { maxSteps := 2000000 }) only [go_sem, reduceIte, Nat.reduceEqDiff, Nat.reduceAdd, Nat.reduceLT, Nat.reduceLeDiff, Nat.reduceBEq, Nat.reduceMul, Nat.reduceSub, Nat.reduceDiv, Int.reduceNeg, Int.reduceLT, Int.reduceLE, Int.reduceEq, Int.reduceToNat, fillC, zc, List.replicate_succ, List.replicate_zero, List.flatten_cons, List.flatten_nil, toDs, toD, chunk, placeS, srcRows, List.all_cons, List.all_nil, List.all_map, Function.comp_def, List.take_nil, List.drop_nil, List.toList_toArray, C.eqbL, eqCs, eqC, List.drop_one, List.tail_cons, lim, lk29, lk30]
      refine goE_if (fun h => ?_) (fun h => ?_)
      · have b1 := litS_bnd (r := r) hX (i : Int) k
        have b2 := hX x (List.mem_of_getElem? hx)
        have w5 : wr .i64 (litS r l i k + x) = litS r l i (k + 1) := by
          simp only [litS, h, if_true, hx, Option.getD_some]
          exact wr_id (by omega) (by omega)
        simp (config := { maxSteps := 2000000 }) only [go_sem, reduceIte, Nat.reduceEqDiff, Nat.reduceAdd, Nat.reduceLT, Nat.reduceLeDiff, Nat.reduceBEq, Nat.reduceMul, Nat.reduceSub, Nat.reduceDiv, Int.reduceNeg, Int.reduceLT, Int.reduceLE, Int.reduceEq, Int.reduceToNat, fillC, zc, List.replicate_succ, List.replicate_zero, List.flatten_cons, List.flatten_nil, toDs, toD, chunk, placeS, srcRows, List.all_cons, List.all_nil, List.all_map, Function.comp_def, List.take_nil, List.drop_nil, List.toList_toArray, C.eqbL, eqCs, eqC, List.drop_one, List.tail_cons, lim, lk29, lk30, hx, iD, c7, w5, wr_succ hkl (show l.length ≤ 140737488355328 by omega)]
        refine ⟨k + 1, hkl, by omega, ?_⟩
        refine ent_weaken [] rfl rfl (Nat.zero_le _) rfl rfl ?_
        simp (config := { maxSteps := 2000000 }) only [go_sem, reduceIte, Nat.reduceEqDiff, Nat.reduceAdd, Nat.reduceLT, Nat.reduceLeDiff, Nat.reduceBEq, Nat.reduceMul, Nat.reduceSub, Nat.reduceDiv, Int.reduceNeg, Int.reduceLT, Int.reduceLE, Int.reduceEq, Int.reduceToNat, fillC, zc, List.replicate_succ, List.replicate_zero, List.flatten_cons, List.flatten_nil, toDs, toD, chunk, placeS, srcRows, List.all_cons, List.all_nil, List.all_map, Function.comp_def, List.take_nil, List.drop_nil, List.toList_toArray, C.eqbL, eqCs, eqC, List.drop_one, List.tail_cons, lim, lk29, lk30]
      · have hs : litS r l i (k + 1) = litS r l i k := by simp [litS, h]
        simp (config := { maxSteps := 2000000 }) only [go_sem, reduceIte, Nat.reduceEqDiff, Nat.reduceAdd, Nat.reduceLT, Nat.reduceLeDiff, Nat.reduceBEq, Nat.reduceMul, Nat.reduceSub, Nat.reduceDiv, Int.reduceNeg, Int.reduceLT, Int.reduceLE, Int.reduceEq, Int.reduceToNat, fillC, zc, List.replicate_succ, List.replicate_zero, List.flatten_cons, List.flatten_nil, toDs, toD, chunk, placeS, srcRows, List.all_cons, List.all_nil, List.all_map, Function.comp_def, List.take_nil, List.drop_nil, List.toList_toArray, C.eqbL, eqCs, eqC, List.drop_one, List.tail_cons, lim, lk29, lk30, wr_succ hkl (show l.length ≤ 140737488355328 by omega)]
        refine ⟨k + 1, hkl, by omega, ?_⟩
        refine ent_weaken [] rfl rfl (Nat.zero_le _) rfl rfl ?_
        simp (config := { maxSteps := 2000000 }) only [go_sem, reduceIte, Nat.reduceEqDiff, Nat.reduceAdd, Nat.reduceLT, Nat.reduceLeDiff, Nat.reduceBEq, Nat.reduceMul, Nat.reduceSub, Nat.reduceDiv, Int.reduceNeg, Int.reduceLT, Int.reduceLE, Int.reduceEq, Int.reduceToNat, fillC, zc, List.replicate_succ, List.replicate_zero, List.flatten_cons, List.flatten_nil, toDs, toD, chunk, placeS, srcRows, List.all_cons, List.all_nil, List.all_map, Function.comp_def, List.take_nil, List.drop_nil, List.toList_toArray, C.eqbL, eqCs, eqC, List.drop_one, List.tail_cons, lim, lk29, lk30, hs]
    · have hk' : k = l.length := by simp at h; omega
      subst hk'
      have b1 := bndP_bnd hr hX hl i hi
      have b2 := bndP_bnd hr hX hl (i + 1) hlt
      have b3 := litS_bnd (r := r) hX (i : Int) l.length
      have w3 : wr .i64 (litS r l i l.length - (po r i).co) = litS r l i l.length - (po r i).co := wr_id (by omega) (by omega)
      have w4 : wr .i64 (bndP r l i - max 0 (litS r l i l.length - (po r i).co)) = bndP r l (i + 1) := by
        simp only [bndP] at b2 ⊢
        exact wr_id (by omega) (by omega)
      simp (config := { maxSteps := 2000000 }) only [go_sem, reduceIte, Nat.reduceEqDiff, Nat.reduceAdd, Nat.reduceLT, Nat.reduceLeDiff, Nat.reduceBEq, Nat.reduceMul, Nat.reduceSub, Nat.reduceDiv, Int.reduceNeg, Int.reduceLT, Int.reduceLE, Int.reduceEq, Int.reduceToNat, fillC, zc, List.replicate_succ, List.replicate_zero, List.flatten_cons, List.flatten_nil, toDs, toD, chunk, placeS, srcRows, List.all_cons, List.all_nil, List.all_map, Function.comp_def, List.take_nil, List.drop_nil, List.toList_toArray, C.eqbL, eqCs, eqC, List.drop_one, List.tail_cons, lim, lk29, lk30, hp, pD, c6, intsOf, maxL, w3, w4, wr_succ hlt (show r.ps.length ≤ 140737488355328 by omega)]
      refine ⟨i + 1, hlt, by omega, ?_⟩
      refine ent_weaken [] rfl rfl (Nat.zero_le _) rfl rfl ?_
      simp (config := { maxSteps := 2000000 }) only [go_sem, reduceIte, Nat.reduceEqDiff, Nat.reduceAdd, Nat.reduceLT, Nat.reduceLeDiff, Nat.reduceBEq, Nat.reduceMul, Nat.reduceSub, Nat.reduceDiv, Int.reduceNeg, Int.reduceLT, Int.reduceLE, Int.reduceEq, Int.reduceToNat, fillC, zc, List.replicate_succ, List.replicate_zero, List.flatten_cons, List.flatten_nil, toDs, toD, chunk, placeS, srcRows, List.all_cons, List.all_nil, List.all_map, Function.comp_def, List.take_nil, List.drop_nil, List.toList_toArray, C.eqbL, eqCs, eqC, List.drop_one, List.tail_cons, lim, lk29, lk30]
  · have hi' : i = r.ps.length := by simp at h; omega
    subst hi'
    simp (config := { maxSteps := 2000000 }) only [go_sem, reduceIte, Nat.reduceEqDiff, Nat.reduceAdd, Nat.reduceLT, Nat.reduceLeDiff, Nat.reduceBEq, Nat.reduceMul, Nat.reduceSub, Nat.reduceDiv, Int.reduceNeg, Int.reduceLT, Int.reduceLE, Int.reduceEq, Int.reduceToNat, fillC, zc, List.replicate_succ, List.replicate_zero, List.flatten_cons, List.flatten_nil, toDs, toD, chunk, placeS, srcRows, List.all_cons, List.all_nil, List.all_map, Function.comp_def, List.take_nil, List.drop_nil, List.toList_toArray, C.eqbL, eqCs, eqC, List.drop_one, List.tail_cons, lim, lk29, lk30]
end Go.Proofs.YteamgbndnfjoaaaDoor
