/- The street with its posts, read: reach, lights, lit, cost; open. -/
import Derived.Test.YteamgbndnfjoaaaDoorML
import Derived.Test.YteamgbndnfjoaaaDoorEG
import Derived.Test.YteamgbndnfjoaaaDoorS3
set_option linter.unusedSimpArgs false
set_option linter.unusedVariables false
set_option maxRecDepth 100000
namespace Go.Proofs.YteamgbndnfjoaaaDoor
open Go Go.Abs Go.Proofs
def kp59 : List (Nat × List Nat) := [(0, [0, 1]), (1, [4, 5])]
theorem lk59 : lookK kp59 0 = some [0, 1] ∧ lookK kp59 1 = some [4, 5] := ⟨rfl, rfl⟩
def kp52 : List (Nat × List Nat) := [(0, [0, 1, 2]), (1, [2, 7, 8]), (2, [6])]
theorem lk52 : lookK kp52 0 = some [0, 1, 2] ∧ lookK kp52 1 = some [2, 7, 8] ∧ lookK kp52 2 = some [6] := ⟨rfl, rfl, rfl⟩
def kp41 : List (Nat × List Nat) := [(0, [0]), (1, [0, 3]), (2, [0, 3, 17, 18]), (3, [0, 3, 17, 18, 19]), (4, [0, 3, 4, 17, 18]), (5, [0, 3, 4, 17, 18, 22, 23]), (6, [0, 3, 4, 17, 18, 22, 23, 24]), (7, [0, 3, 4, 5, 17, 18, 22, 23]), (8, [0, 3, 4, 5, 17, 18, 22, 23, 29]), (9, [0, 3, 4, 17, 18, 22, 23]), (10, [0, 3, 4, 17, 18, 22, 23]), (11, [0, 3, 17, 18]), (12, [2])]
theorem lk41 : lookK kp41 0 = some [0] ∧ lookK kp41 1 = some [0, 3] ∧ lookK kp41 2 = some [0, 3, 17, 18] ∧ lookK kp41 3 = some [0, 3, 17, 18, 19] ∧ lookK kp41 4 = some [0, 3, 4, 17, 18] ∧ lookK kp41 5 = some [0, 3, 4, 17, 18, 22, 23] ∧ lookK kp41 6 = some [0, 3, 4, 17, 18, 22, 23, 24] ∧ lookK kp41 7 = some [0, 3, 4, 5, 17, 18, 22, 23] ∧ lookK kp41 8 = some [0, 3, 4, 5, 17, 18, 22, 23, 29] ∧ lookK kp41 9 = some [0, 3, 4, 17, 18, 22, 23] ∧ lookK kp41 10 = some [0, 3, 4, 17, 18, 22, 23] ∧ lookK kp41 11 = some [0, 3, 17, 18] ∧ lookK kp41 12 = some [2] := ⟨rfl, rfl, rfl, rfl, rfl, rfl, rfl, rfl, rfl, rfl, rfl, rfl, rfl⟩
def kp44 : List (Nat × List Nat) := [(0, [0]), (1, [0, 3]), (2, [0, 3, 10, 11, 12]), (3, [0, 3, 10, 11, 12, 13]), (4, [0, 3, 4, 5, 10, 11, 12]), (5, [0, 3, 10, 11, 12]), (6, [0, 3, 10, 11, 12]), (7, [2])]
theorem lk44 : lookK kp44 0 = some [0] ∧ lookK kp44 1 = some [0, 3] ∧ lookK kp44 2 = some [0, 3, 10, 11, 12] ∧ lookK kp44 3 = some [0, 3, 10, 11, 12, 13] ∧ lookK kp44 4 = some [0, 3, 4, 5, 10, 11, 12] ∧ lookK kp44 5 = some [0, 3, 10, 11, 12] ∧ lookK kp44 6 = some [0, 3, 10, 11, 12] ∧ lookK kp44 7 = some [2] := ⟨rfl, rfl, rfl, rfl, rfl, rfl, rfl, rfl⟩

theorem wr_id {x : Int} (h1 : -9223372036854775808 ≤ x) (h2 : x ≤ 9223372036854775807) : wr .i64 x = x := by rw [wr_i64] <;> omega
theorem OkR.post {r : Rd} (h : OkR r) {i : Int} (h0 : 0 ≤ i) (hi : i < r.ps.length) : r.ps[i.toNat]? = some (po r i) ∧ 0 ≤ (po r i).fr ∧ (po r i).fr ≤ (po r i).to ∧ (po r i).to < r.pl ∧ 0 ≤ (po r i).co ∧ (po r i).co ≤ 1000000 := by
  obtain ⟨p, hp⟩ := get_of_lt (l := r.ps) (i := i.toNat) (by omega)
  have hpo : po r i = p := by simp [po, hp]
  rw [hpo]
  exact ⟨hp, h.ok p (List.mem_of_getElem? hp)⟩
theorem okRoad_ok {r : Rd} (h : okRoad r = 0) : OkR r := by
  unfold okRoad at h
  split at h
  · simp at h
  split at h
  · simp at h
  split at h
  · simp at h
  rename_i h1 h2 h3
  refine ⟨by omega, by omega, by omega, by omega, by omega, by omega, by omega, fun p hp => ?_⟩
  have := List.any_eq_false.1 (by simpa using h3) p hp
  simp [badP] at this
  omega
theorem OkR.zero {r : Rd} (h : OkR r) : okRoad r = 0 := by
  have := h.len; have := h.p1; have := h.p40; have := h.d0; have := h.d2; have := h.i0; have := h.i5
  unfold okRoad
  rw [if_neg (by omega), if_neg (by omega), if_neg]
  rw [Bool.not_eq_true, List.any_eq_false]
  intro p hp
  have := h.ok p hp
  simp [badP]; omega

def rFrom (r : Rd) (i : Int) : Int := (po r i).fr + r.di
def rTo (r : Rd) (i : Int) : Int := (po r i).to - r.di + 1
set_option maxHeartbeats 1000000 in
theorem reach59 (r : Rd) (st bk : Nat → Int) (i : Int) (hr : OkR r) (h0 : 0 ≤ i) (hi : i < r.ps.length) : Pure Tryd.prog 59 [.c (.dp (netD r st bk)), I i] (.tup [I (rFrom r i), I (rTo r i)]) := by
  refine pure_wkE (bad := [1]) (kp := kp59) (X := tx) (nt := 37) (rs := [.tmp 4, .tmp 5]) Tryd.func59 rfl rfl rfl rfl mo (by kernel_rfl) rfl rfl (fun hf => ?_)
  obtain ⟨hp, q0, q1, q2, q3, q4⟩ := hr.post h0 hi
  have := hr.p40
  have := hr.i0
  have := hr.i5
  have w1 : wr .i64 ((po r i).fr + r.di) = (po r i).fr + r.di := by rw [wr_i64] <;> omega
  have w2 : wr .i64 ((po r i).to - r.di) = (po r i).to - r.di := by rw [wr_i64] <;> omega
  have w3 : wr .i64 ((po r i).to - r.di + 1) = (po r i).to - r.di + 1 := by rw [wr_i64] <;> omega
  have hc : decide (0 ≤ i) = true := by simpa using h0
  have hd : decide (i < r.ps.length) = true := by simpa using hi
  have hl := net_len st bk
  simp (config := { maxSteps := 2000000 }) only [go_sem, reduceIte, Nat.reduceEqDiff, Nat.reduceAdd, Nat.reduceLT, Nat.reduceLeDiff, Nat.reduceBEq, Nat.reduceMul, Nat.reduceSub, Nat.reduceDiv, Int.reduceNeg, Int.reduceLT, Int.reduceLE, Int.reduceEq, Int.reduceToNat, fillC, zc, List.replicate_succ, List.replicate_zero, List.flatten_cons, List.flatten_nil, toDs, toD, chunk, placeS, srcRows, List.all_cons, List.all_nil, List.all_map, Function.comp_def, List.take_nil, List.drop_nil, List.toList_toArray, C.eqbL, eqCs, eqC, List.drop_one, List.tail_cons, lim, lk59, lk52, lk41, lk44, netD, hp, pD, w1, w2, w3, hc, hd, rFrom, rTo, hl]
  exact (by kernel_rfl : _ = true)
set_option maxHeartbeats 1000000 in
theorem lights52 (r : Rd) (st bk : Nat → Int) (i k : Int) (hr : OkR r) (h0 : 0 ≤ i) (hi : i < r.ps.length) : Pure Tryd.prog 52 [.c (.dp (netD r st bk)), I i, I k] (B (litB r (po r i) k)) := by
  refine pure_wkE (bad := []) (kp := kp52) (X := tx) (nt := 23) (rs := [.tmp 6]) Tryd.func52 rfl rfl rfl rfl mo (by kernel_rfl) rfl rfl (fun hf => ?_)
  simp (config := { maxSteps := 2000000 }) only [go_sem, reduceIte, Nat.reduceEqDiff, Nat.reduceAdd, Nat.reduceLT, Nat.reduceLeDiff, Nat.reduceBEq, Nat.reduceMul, Nat.reduceSub, Nat.reduceDiv, Int.reduceNeg, Int.reduceLT, Int.reduceLE, Int.reduceEq, Int.reduceToNat, fillC, zc, List.replicate_succ, List.replicate_zero, List.flatten_cons, List.flatten_nil, toDs, toD, chunk, placeS, srcRows, List.all_cons, List.all_nil, List.all_map, Function.comp_def, List.take_nil, List.drop_nil, List.toList_toArray, C.eqbL, eqCs, eqC, List.drop_one, List.tail_cons, lim, lk59, lk52, lk41, lk44]
  refine aops_pure' (reach59 r st bk i hr h0 hi) rfl rfl (by first | exact wk_refls _ | (repeat constructor)) ?_
  by_cases h1 : rFrom r i ≤ k
  · have e : litB r (po r i) k = decide (k < rTo r i) := by
      simp only [rFrom] at h1
      rw [litB, rTo, decide_eq_decide]; omega
    simp (config := { maxSteps := 2000000 }) only [go_sem, reduceIte, Nat.reduceEqDiff, Nat.reduceAdd, Nat.reduceLT, Nat.reduceLeDiff, Nat.reduceBEq, Nat.reduceMul, Nat.reduceSub, Nat.reduceDiv, Int.reduceNeg, Int.reduceLT, Int.reduceLE, Int.reduceEq, Int.reduceToNat, fillC, zc, List.replicate_succ, List.replicate_zero, List.flatten_cons, List.flatten_nil, toDs, toD, chunk, placeS, srcRows, List.all_cons, List.all_nil, List.all_map, Function.comp_def, List.take_nil, List.drop_nil, List.toList_toArray, C.eqbL, eqCs, eqC, List.drop_one, List.tail_cons, lim, lk59, lk52, lk41, lk44, h1, e]
  · have e : litB r (po r i) k = false := by
      simp only [rFrom] at h1
      rw [litB]; simp; omega
    simp (config := { maxSteps := 2000000 }) only [go_sem, reduceIte, Nat.reduceEqDiff, Nat.reduceAdd, Nat.reduceLT, Nat.reduceLeDiff, Nat.reduceBEq, Nat.reduceMul, Nat.reduceSub, Nat.reduceDiv, Int.reduceNeg, Int.reduceLT, Int.reduceLE, Int.reduceEq, Int.reduceToNat, fillC, zc, List.replicate_succ, List.replicate_zero, List.flatten_cons, List.flatten_nil, toDs, toD, chunk, placeS, srcRows, List.all_cons, List.all_nil, List.all_map, Function.comp_def, List.take_nil, List.drop_nil, List.toList_toArray, C.eqbL, eqCs, eqC, List.drop_one, List.tail_cons, lim, lk59, lk52, lk41, lk44, h1, e]

/-- By how many of the first posts a place is lit. -/
def litP (r : Rd) (st : Nat → Int) : Nat → Int → Int
  | 0, _ => 0
  | m + 1, k => litP r st m k + if litB r (po r m) k then st m else 0
def litL (r : Rd) (st : Nat → Int) : List Int := (List.range r.pl.toNat).map fun k : Nat => litP r st r.ps.length (k : Int)
theorem litP_bound {r : Rd} {st : Nat → Int} (h : ∀ i, 0 ≤ st i ∧ st i ≤ 1) (k : Int) : ∀ m : Nat, 0 ≤ litP r st m k ∧ litP r st m k ≤ m
  | 0 => by simp [litP]
  | m + 1 => by
    have := litP_bound (r := r) h k m
    have := h m
    simp only [litP]
    split <;> omega
/-- In the midst of a post. -/
def litM (r : Rd) (st : Nat → Int) (i j : Nat) : Nat → Int := fun k => if k < j then litP r st (i + 1) (k : Int) else litP r st i (k : Int)
theorem litM_zero (r : Rd) (st : Nat → Int) (i : Nat) : litM r st i 0 = fun k : Nat => litP r st i (k : Int) := by funext k; simp [litM]
theorem litM_all (r : Rd) (st : Nat → Int) (i n : Nat) : numsD n (litM r st i n) = numsD n (fun k : Nat => litP r st (i + 1) (k : Int)) := by
  refine List.map_congr_left fun k hk => ?_
  simp at hk
  simp [litM, hk]
theorem litM_upd {r : Rd} {st : Nat → Int} {i j : Nat} {v : Int} (h : v = litP r st (i + 1) j) : upd (litM r st i j) j v = litM r st i (j + 1) := by
  funext k
  by_cases e : k = j
  · subst e; rw [upd_same, h]; simp [litM]
  · rw [upd_ne _ _ e]
    simp only [litM]
    have : k < j + 1 ↔ k < j := by omega
    simp only [this]
theorem litM_skip {r : Rd} {st : Nat → Int} {i j : Nat} (h : litB r (po r i) j = false) : litM r st i j = litM r st i (j + 1) := by
  funext k
  simp only [litM]
  by_cases e : k = j
  · subst e; simp [litP, h]
  · have : k < j + 1 ↔ k < j := by omega
    simp only [this]
theorem chunk_nums (n : Nat) (f : Nat → Int) : chunk 1 n (numsD n f) = (List.range n).map (fun k => iD (f k)) := by
  refine List.ext_getElem? fun i => ?_
  by_cases h : i < n
  · rw [chunk_get 1 n _ i h, Nat.mul_one]
    have hlt : i < (numsD n f).length := by rw [numsD_len]; exact h
    rw [List.drop_eq_getElem_cons hlt]
    have e : (numsD n f)[i]? = some (numsD n f)[i] := List.getElem?_eq_getElem hlt
    rw [numsD_get f h] at e
    rw [← Option.some.inj e]
    simp [h, iD]
  · rw [List.getElem?_eq_none (by rw [chunk_length]; omega), List.getElem?_eq_none (by simp; omega)]
def numsC (n : Nat) (f : Nat → Int) : List C := (numsD n f).map .d
theorem numsC_low (m n : Nat) (f : Nat → Int) : C.lowL m (numsC n f) = true := lowL_d _ _
theorem numsC_set (n : Nat) (f : Nat → Int) (m : Nat) (v : Int) : (numsC n f).set m (.d (.int .i64 v)) = numsC n (upd f m v) := by
  rw [numsC, numsC, ← List.map_set, numsD_set]
theorem zc_nums (n : Nat) : zc [C.d (.int .i64 0)] n = numsC n (fun _ => 0) := by
  rw [zc_one]
  refine List.ext_getElem? fun j => ?_
  by_cases h : j < n
  · simp [numsC, numsD, h, List.getElem?_replicate]
  · rw [List.getElem?_eq_none (by simp; omega), List.getElem?_eq_none (by simp [numsC, numsD]; omega)]
theorem numsC_get {n : Nat} (f : Nat → Int) {j : Nat} (h : j < n) : (numsC n f)[j]? = some (.d (.int .i64 (f j))) := by rw [numsC, List.getElem?_map, numsD_get _ h]; rfl
theorem numsC_len (n : Nat) (f : Nat → Int) : (numsC n f).length = n := by simp [numsC, numsD]

set_option maxHeartbeats 4000000 in
theorem lit41 (r : Rd) (st bk : Nat → Int) (hr : OkR r) (hs : ∀ i, 0 ≤ st i ∧ st i ≤ 1) : Pure Tryd.prog 41 [.c (.dp (netD r st bk))] (ints (litL r st)) := by
  refine pure_fzE (bad := []) (kp := kp41) (X := tx) (nt := 45) (rs := [.tmp 2]) Tryd.func41 rfl rfl rfl rfl mo (by kernel_rfl) rfl rfl (fun hf => ?_)
  have h1 := hr.p1
  have h40 := hr.p40
  have hlen := hr.len
  have hl := net_len st bk
  have d1 : decide (0 ≤ r.pl) = true := by simp; omega
  have d2 : decide (r.pl ≤ 140737488355328) = true := by simp; omega
  have d3 : decide (8 * r.pl ≤ 140737488355328) = true := by simp; omega
  have d4 : decide (r.pl.toNat ≤ 140737488355328) = true := by simp; omega
  simp (config := { maxSteps := 2000000 }) only [go_sem, reduceIte, Nat.reduceEqDiff, Nat.reduceAdd, Nat.reduceLT, Nat.reduceLeDiff, Nat.reduceBEq, Nat.reduceMul, Nat.reduceSub, Nat.reduceDiv, Int.reduceNeg, Int.reduceLT, Int.reduceLE, Int.reduceEq, Int.reduceToNat, fillC, zc, List.replicate_succ, List.replicate_zero, List.flatten_cons, List.flatten_nil, toDs, toD, chunk, placeS, srcRows, List.all_cons, List.all_nil, List.all_map, Function.comp_def, List.take_nil, List.drop_nil, List.toList_toArray, C.eqbL, eqCs, eqC, List.drop_one, List.tail_cons, lim, lk59, lk52, lk41, lk44, netD, d1, d2, d3, d4, zc_nums, hl]
  refine ⟨by rw [Bool.and_eq_true, Bool.and_eq_true]; exact ⟨⟨decide_eq_true (Int.le_refl _), decide_eq_true (Int.le_trans (Int.mul_le_mul_of_nonneg_left h40 (by decide)) (show (8 : Int) * 40 ≤ 140737488355328 by decide))⟩, decide_eq_true (Int.le_trans h40 (show (40 : Int) ≤ 140737488355328 by decide))⟩, ?_⟩
  refine goE_loop (bad := []) (kp := kp41) (fun i : Nat => { slots := [(0, .c (.dp (netD r st bk))), (3, .c (.ms 0 0 r.pl.toNat r.pl.toNat)), (17, I r.ps.length), (18, I i)], heap := [.cells (numsC r.pl.toNat (fun k : Nat => litP r st i (k : Int)))], marks := [] }) (fun i => i ≤ r.ps.length) (fun i => r.ps.length - i) 0 mo (by kernel_rfl) ?_ (Nat.zero_le _) ?_
  · refine ent_weaken [] (by simp only [litP, List.append_nil, ← zc_nums]; rfl) rfl (Nat.zero_le _) (by simp [AB.low, numsC_low]) rfl ?_
    simp (config := { maxSteps := 2000000 }) only [go_sem, reduceIte, Nat.reduceEqDiff, Nat.reduceAdd, Nat.reduceLT, Nat.reduceLeDiff, Nat.reduceBEq, Nat.reduceMul, Nat.reduceSub, Nat.reduceDiv, Int.reduceNeg, Int.reduceLT, Int.reduceLE, Int.reduceEq, Int.reduceToNat, fillC, zc, List.replicate_succ, List.replicate_zero, List.flatten_cons, List.flatten_nil, toDs, toD, chunk, placeS, srcRows, List.all_cons, List.all_nil, List.all_map, Function.comp_def, List.take_nil, List.drop_nil, List.toList_toArray, C.eqbL, eqCs, eqC, List.drop_one, List.tail_cons, lim, lk59, lk52, lk41, lk44, netD]
    exact .refl _
  rintro i hi
  simp (config := { maxSteps := 2000000 }) only [go_sem, reduceIte, Nat.reduceEqDiff, Nat.reduceAdd, Nat.reduceLT, Nat.reduceLeDiff, Nat.reduceBEq, Nat.reduceMul, Nat.reduceSub, Nat.reduceDiv, Int.reduceNeg, Int.reduceLT, Int.reduceLE, Int.reduceEq, Int.reduceToNat, fillC, zc, List.replicate_succ, List.replicate_zero, List.flatten_cons, List.flatten_nil, toDs, toD, chunk, placeS, srcRows, List.all_cons, List.all_nil, List.all_map, Function.comp_def, List.take_nil, List.drop_nil, List.toList_toArray, C.eqbL, eqCs, eqC, List.drop_one, List.tail_cons, lim, lk59, lk52, lk41, lk44]
  refine goE_if (fun h => ?_) (fun h => ?_)
  · have hlt : i < r.ps.length := by simpa using h
    simp (config := { maxSteps := 2000000 }) only [go_sem, reduceIte, Nat.reduceEqDiff, Nat.reduceAdd, Nat.reduceLT, Nat.reduceLeDiff, Nat.reduceBEq, Nat.reduceMul, Nat.reduceSub, Nat.reduceDiv, Int.reduceNeg, Int.reduceLT, Int.reduceLE, Int.reduceEq, Int.reduceToNat, fillC, zc, List.replicate_succ, List.replicate_zero, List.flatten_cons, List.flatten_nil, toDs, toD, chunk, placeS, srcRows, List.all_cons, List.all_nil, List.all_map, Function.comp_def, List.take_nil, List.drop_nil, List.toList_toArray, C.eqbL, eqCs, eqC, List.drop_one, List.tail_cons, lim, lk59, lk52, lk41, lk44]
    refine goE_loop (bad := []) (kp := kp41) (fun j : Nat => { slots := [(0, .c (.dp (netD r st bk))), (3, .c (.ms 0 0 r.pl.toNat r.pl.toNat)), (4, I i), (17, I r.ps.length), (18, I i), (22, I r.pl.toNat), (23, I j)], heap := [.cells (numsC r.pl.toNat (litM r st i j))], marks := [] }) (fun j => j ≤ r.pl.toNat) (fun j => r.pl.toNat - j) 0 mo (by kernel_rfl) ?_ (Nat.zero_le _) ?_
    · refine ent_weaken [] (by simp [litM_zero]) rfl (Nat.zero_le _) (by simp [AB.low, numsC_low]) rfl ?_
      simp (config := { maxSteps := 2000000 }) only [go_sem, reduceIte, Nat.reduceEqDiff, Nat.reduceAdd, Nat.reduceLT, Nat.reduceLeDiff, Nat.reduceBEq, Nat.reduceMul, Nat.reduceSub, Nat.reduceDiv, Int.reduceNeg, Int.reduceLT, Int.reduceLE, Int.reduceEq, Int.reduceToNat, fillC, zc, List.replicate_succ, List.replicate_zero, List.flatten_cons, List.flatten_nil, toDs, toD, chunk, placeS, srcRows, List.all_cons, List.all_nil, List.all_map, Function.comp_def, List.take_nil, List.drop_nil, List.toList_toArray, C.eqbL, eqCs, eqC, List.drop_one, List.tail_cons, lim, lk59, lk52, lk41, lk44]
      exact .refl _
    rintro j hj
    simp (config := { maxSteps := 2000000 }) only [go_sem, reduceIte, Nat.reduceEqDiff, Nat.reduceAdd, Nat.reduceLT, Nat.reduceLeDiff, Nat.reduceBEq, Nat.reduceMul, Nat.reduceSub, Nat.reduceDiv, Int.reduceNeg, Int.reduceLT, Int.reduceLE, Int.reduceEq, Int.reduceToNat, fillC, zc, List.replicate_succ, List.replicate_zero, List.flatten_cons, List.flatten_nil, toDs, toD, chunk, placeS, srcRows, List.all_cons, List.all_nil, List.all_map, Function.comp_def, List.take_nil, List.drop_nil, List.toList_toArray, C.eqbL, eqCs, eqC, List.drop_one, List.tail_cons, lim, lk59, lk52, lk41, lk44]
    refine goE_if (fun h => ?_) (fun h => ?_)
    · have hjl : j < r.pl.toNat := by simp only [decide_eq_true_eq] at h; omega
      have hjl' : (j : Int) < r.pl := by omega
      simp (config := { maxSteps := 2000000 }) only [go_sem, reduceIte, Nat.reduceEqDiff, Nat.reduceAdd, Nat.reduceLT, Nat.reduceLeDiff, Nat.reduceBEq, Nat.reduceMul, Nat.reduceSub, Nat.reduceDiv, Int.reduceNeg, Int.reduceLT, Int.reduceLE, Int.reduceEq, Int.reduceToNat, fillC, zc, List.replicate_succ, List.replicate_zero, List.flatten_cons, List.flatten_nil, toDs, toD, chunk, placeS, srcRows, List.all_cons, List.all_nil, List.all_map, Function.comp_def, List.take_nil, List.drop_nil, List.toList_toArray, C.eqbL, eqCs, eqC, List.drop_one, List.tail_cons, lim, lk59, lk52, lk41, lk44]
      refine aops_pure' (lights52 r st bk i j hr (by omega) (by omega)) rfl rfl (by first | exact wk_refls _ | (repeat constructor)) ?_
      simp (config := { maxSteps := 2000000 }) only [go_sem, reduceIte, Nat.reduceEqDiff, Nat.reduceAdd, Nat.reduceLT, Nat.reduceLeDiff, Nat.reduceBEq, Nat.reduceMul, Nat.reduceSub, Nat.reduceDiv, Int.reduceNeg, Int.reduceLT, Int.reduceLE, Int.reduceEq, Int.reduceToNat, fillC, zc, List.replicate_succ, List.replicate_zero, List.flatten_cons, List.flatten_nil, toDs, toD, chunk, placeS, srcRows, List.all_cons, List.all_nil, List.all_map, Function.comp_def, List.take_nil, List.drop_nil, List.toList_toArray, C.eqbL, eqCs, eqC, List.drop_one, List.tail_cons, lim, lk59, lk52, lk41, lk44]
      refine goE_if (fun h => ?_) (fun h => ?_)
      · have g1 := numsC_get (litM r st i j) hjl
        have g2 := net_st (st := st) (bk := bk) (i := i) (by omega)
        have g3 : litM r st i j j = litP r st i (j : Int) := by simp [litM]
        have b1 := litP_bound (r := r) hs (j : Int) i
        have b2 := hs i
        have g4 : wr .i64 (litP r st i (j : Int) + st i) = litP r st (i + 1) (j : Int) := by
          rw [wr_id (by omega) (by omega)]; simp [litP, h]
        have c1 : decide ((j : Int) < (r.pl.toNat : Int)) = true := by simp; omega
        have c2 : decide ((i : Int) < 24) = true := by simp; omega
        have c3 : decide (j + 1 ≤ r.pl.toNat) = true := by simp; omega
        have c4 : decide (1 ≤ 64 - i) = true := by simp; omega
        have c5 : (decide ((0 : Int) ≤ (i : Int)) && decide ((i : Int) < ((24 : Nat) : Int))) = true := by simp; omega
        have c6 : decide ((0 : Int) ≤ (j : Int)) = true := by simp
        simp (config := { maxSteps := 2000000 }) only [go_sem, reduceIte, Nat.reduceEqDiff, Nat.reduceAdd, Nat.reduceLT, Nat.reduceLeDiff, Nat.reduceBEq, Nat.reduceMul, Nat.reduceSub, Nat.reduceDiv, Int.reduceNeg, Int.reduceLT, Int.reduceLE, Int.reduceEq, Int.reduceToNat, fillC, zc, List.replicate_succ, List.replicate_zero, List.flatten_cons, List.flatten_nil, toDs, toD, chunk, placeS, srcRows, List.all_cons, List.all_nil, List.all_map, Function.comp_def, List.take_nil, List.drop_nil, List.toList_toArray, C.eqbL, eqCs, eqC, List.drop_one, List.tail_cons, lim, lk59, lk52, lk41, lk44, netD, g1, g2, g3, g4, c1, c2, c3, c4, c5, c6, Nat.mul_one, List.getElem?_drop, hl, numsC_len, List.length_drop]
        simp (config := { maxSteps := 2000000 }) only [go_sem, reduceIte, Nat.reduceEqDiff, Nat.reduceAdd, Nat.reduceLT, Nat.reduceLeDiff, Nat.reduceBEq, Nat.reduceMul, Nat.reduceSub, Nat.reduceDiv, Int.reduceNeg, Int.reduceLT, Int.reduceLE, Int.reduceEq, Int.reduceToNat, fillC, zc, List.replicate_succ, List.replicate_zero, List.flatten_cons, List.flatten_nil, toDs, toD, chunk, placeS, srcRows, List.all_cons, List.all_nil, List.all_map, Function.comp_def, List.take_nil, List.drop_nil, List.toList_toArray, C.eqbL, eqCs, eqC, List.drop_one, List.tail_cons, lim, lk59, lk52, lk41, lk44, wr_succ hjl (show r.pl.toNat ≤ 140737488355328 by omega)]
        refine ⟨j + 1, by omega, by omega, ?_⟩
        refine ent_weaken [] (by simp only [numsC_set, litM_upd, List.append_nil]) rfl (Nat.zero_le _) (by simp [AB.low, numsC_low]) rfl ?_
        simp (config := { maxSteps := 2000000 }) only [go_sem, reduceIte, Nat.reduceEqDiff, Nat.reduceAdd, Nat.reduceLT, Nat.reduceLeDiff, Nat.reduceBEq, Nat.reduceMul, Nat.reduceSub, Nat.reduceDiv, Int.reduceNeg, Int.reduceLT, Int.reduceLE, Int.reduceEq, Int.reduceToNat, fillC, zc, List.replicate_succ, List.replicate_zero, List.flatten_cons, List.flatten_nil, toDs, toD, chunk, placeS, srcRows, List.all_cons, List.all_nil, List.all_map, Function.comp_def, List.take_nil, List.drop_nil, List.toList_toArray, C.eqbL, eqCs, eqC, List.drop_one, List.tail_cons, lim, lk59, lk52, lk41, lk44]
      · simp (config := { maxSteps := 2000000 }) only [go_sem, reduceIte, Nat.reduceEqDiff, Nat.reduceAdd, Nat.reduceLT, Nat.reduceLeDiff, Nat.reduceBEq, Nat.reduceMul, Nat.reduceSub, Nat.reduceDiv, Int.reduceNeg, Int.reduceLT, Int.reduceLE, Int.reduceEq, Int.reduceToNat, fillC, zc, List.replicate_succ, List.replicate_zero, List.flatten_cons, List.flatten_nil, toDs, toD, chunk, placeS, srcRows, List.all_cons, List.all_nil, List.all_map, Function.comp_def, List.take_nil, List.drop_nil, List.toList_toArray, C.eqbL, eqCs, eqC, List.drop_one, List.tail_cons, lim, lk59, lk52, lk41, lk44, wr_succ hjl (show r.pl.toNat ≤ 140737488355328 by omega)]
        refine ⟨j + 1, by omega, by omega, ?_⟩
        refine ent_weaken [] (by simp only [litM_skip h, List.append_nil]) rfl (Nat.zero_le _) (by simp [AB.low, numsC_low]) rfl ?_
        simp (config := { maxSteps := 2000000 }) only [go_sem, reduceIte, Nat.reduceEqDiff, Nat.reduceAdd, Nat.reduceLT, Nat.reduceLeDiff, Nat.reduceBEq, Nat.reduceMul, Nat.reduceSub, Nat.reduceDiv, Int.reduceNeg, Int.reduceLT, Int.reduceLE, Int.reduceEq, Int.reduceToNat, fillC, zc, List.replicate_succ, List.replicate_zero, List.flatten_cons, List.flatten_nil, toDs, toD, chunk, placeS, srcRows, List.all_cons, List.all_nil, List.all_map, Function.comp_def, List.take_nil, List.drop_nil, List.toList_toArray, C.eqbL, eqCs, eqC, List.drop_one, List.tail_cons, lim, lk59, lk52, lk41, lk44]
    · have hj' : j = r.pl.toNat := by simp only [decide_eq_false_iff_not] at h; omega
      subst hj'
      simp (config := { maxSteps := 2000000 }) only [go_sem, reduceIte, Nat.reduceEqDiff, Nat.reduceAdd, Nat.reduceLT, Nat.reduceLeDiff, Nat.reduceBEq, Nat.reduceMul, Nat.reduceSub, Nat.reduceDiv, Int.reduceNeg, Int.reduceLT, Int.reduceLE, Int.reduceEq, Int.reduceToNat, fillC, zc, List.replicate_succ, List.replicate_zero, List.flatten_cons, List.flatten_nil, toDs, toD, chunk, placeS, srcRows, List.all_cons, List.all_nil, List.all_map, Function.comp_def, List.take_nil, List.drop_nil, List.toList_toArray, C.eqbL, eqCs, eqC, List.drop_one, List.tail_cons, lim, lk59, lk52, lk41, lk44, wr_succ hlt (show r.ps.length ≤ 140737488355328 by omega)]
      refine ⟨i + 1, by omega, by omega, ?_⟩
      refine ent_weaken [] (by simp only [numsC, litM_all, List.append_nil]) rfl (Nat.zero_le _) (by simp [AB.low, numsC_low]) rfl ?_
      simp (config := { maxSteps := 2000000 }) only [go_sem, reduceIte, Nat.reduceEqDiff, Nat.reduceAdd, Nat.reduceLT, Nat.reduceLeDiff, Nat.reduceBEq, Nat.reduceMul, Nat.reduceSub, Nat.reduceDiv, Int.reduceNeg, Int.reduceLT, Int.reduceLE, Int.reduceEq, Int.reduceToNat, fillC, zc, List.replicate_succ, List.replicate_zero, List.flatten_cons, List.flatten_nil, toDs, toD, chunk, placeS, srcRows, List.all_cons, List.all_nil, List.all_map, Function.comp_def, List.take_nil, List.drop_nil, List.toList_toArray, C.eqbL, eqCs, eqC, List.drop_one, List.tail_cons, lim, lk59, lk52, lk41, lk44]
  · have hi' : i = r.ps.length := by simp at h; omega
    subst hi'
    simp (config := { maxSteps := 2000000 }) only [go_sem, reduceIte, Nat.reduceEqDiff, Nat.reduceAdd, Nat.reduceLT, Nat.reduceLeDiff, Nat.reduceBEq, Nat.reduceMul, Nat.reduceSub, Nat.reduceDiv, Int.reduceNeg, Int.reduceLT, Int.reduceLE, Int.reduceEq, Int.reduceToNat, fillC, zc, List.replicate_succ, List.replicate_zero, List.flatten_cons, List.flatten_nil, toDs, toD, chunk, placeS, srcRows, List.all_cons, List.all_nil, List.all_map, Function.comp_def, List.take_nil, List.drop_nil, List.toList_toArray, C.eqbL, eqCs, eqC, List.drop_one, List.tail_cons, lim, lk59, lk52, lk41, lk44]
    refine ⟨0, numsC r.pl.toNat (fun k : Nat => litP r st r.ps.length (k : Int)), numsD r.pl.toNat (fun k : Nat => litP r st r.ps.length (k : Int)), _, rfl, toDs_d _, .v (.c (.ms 0 1 r.pl.toNat r.pl.toNat (by rw [numsD_len]; omega) (Nat.le_refl _) (by unfold lim; omega))), ?_⟩
    rw [List.drop_zero, chunk_nums, ints, litL, List.map_map]
    exact .refl _

/-- What the posts that stand cost. -/
def costP (r : Rd) (st : Nat → Int) : Nat → Int
  | 0 => 0
  | m + 1 => costP r st m + (po r m).co * st m
theorem costP_bound {r : Rd} {st : Nat → Int} (hr : OkR r) (h : ∀ i, 0 ≤ st i ∧ st i ≤ 1) : ∀ m : Nat, m ≤ r.ps.length → 0 ≤ costP r st m ∧ costP r st m ≤ 1000000 * m
  | 0, _ => by simp [costP]
  | m + 1, hm => by
    have ih := costP_bound hr h m (by omega)
    obtain ⟨_, _, _, _, q3, q4⟩ := hr.post (i := (m : Int)) (by omega) (by omega)
    have hb := h m
    have : st m = 0 ∨ st m = 1 := by omega
    simp only [costP]
    rcases this with e | e <;> rw [e] <;> omega
set_option maxHeartbeats 2000000 in
theorem cost44 (r : Rd) (st bk : Nat → Int) (hr : OkR r) (hs : ∀ i, 0 ≤ st i ∧ st i ≤ 1) : Pure Tryd.prog 44 [.c (.dp (netD r st bk))] (I (costP r st r.ps.length)) := by
  refine pure_wkE (bad := []) (kp := kp44) (X := tx) (nt := 30) (rs := [.tmp 2]) Tryd.func44 rfl rfl rfl rfl mo (by kernel_rfl) rfl rfl (fun hf => ?_)
  have hlen := hr.len
  have hl := net_len st bk
  simp (config := { maxSteps := 2000000 }) only [go_sem, reduceIte, Nat.reduceEqDiff, Nat.reduceAdd, Nat.reduceLT, Nat.reduceLeDiff, Nat.reduceBEq, Nat.reduceMul, Nat.reduceSub, Nat.reduceDiv, Int.reduceNeg, Int.reduceLT, Int.reduceLE, Int.reduceEq, Int.reduceToNat, fillC, zc, List.replicate_succ, List.replicate_zero, List.flatten_cons, List.flatten_nil, toDs, toD, chunk, placeS, srcRows, List.all_cons, List.all_nil, List.all_map, Function.comp_def, List.take_nil, List.drop_nil, List.toList_toArray, C.eqbL, eqCs, eqC, List.drop_one, List.tail_cons, lim, lk59, lk52, lk41, lk44, netD]
  refine goE_loop (bad := []) (kp := kp44) (fun i : Nat => { slots := [(0, .c (.dp (netD r st bk))), (3, I (costP r st i)), (10, postsV r.ps), (11, I r.ps.length), (12, I i)], heap := [], marks := [] }) (fun i => i ≤ r.ps.length) (fun i => r.ps.length - i) 0 mo (by kernel_rfl) ?_ (Nat.zero_le _) ?_
  · refine ent_weaken [] rfl rfl (Nat.zero_le _) rfl rfl ?_
    simp (config := { maxSteps := 2000000 }) only [go_sem, reduceIte, Nat.reduceEqDiff, Nat.reduceAdd, Nat.reduceLT, Nat.reduceLeDiff, Nat.reduceBEq, Nat.reduceMul, Nat.reduceSub, Nat.reduceDiv, Int.reduceNeg, Int.reduceLT, Int.reduceLE, Int.reduceEq, Int.reduceToNat, fillC, zc, List.replicate_succ, List.replicate_zero, List.flatten_cons, List.flatten_nil, toDs, toD, chunk, placeS, srcRows, List.all_cons, List.all_nil, List.all_map, Function.comp_def, List.take_nil, List.drop_nil, List.toList_toArray, C.eqbL, eqCs, eqC, List.drop_one, List.tail_cons, lim, lk59, lk52, lk41, lk44, netD, postsV, costP]
    exact .refl _
  rintro i hi
  simp (config := { maxSteps := 2000000 }) only [go_sem, reduceIte, Nat.reduceEqDiff, Nat.reduceAdd, Nat.reduceLT, Nat.reduceLeDiff, Nat.reduceBEq, Nat.reduceMul, Nat.reduceSub, Nat.reduceDiv, Int.reduceNeg, Int.reduceLT, Int.reduceLE, Int.reduceEq, Int.reduceToNat, fillC, zc, List.replicate_succ, List.replicate_zero, List.flatten_cons, List.flatten_nil, toDs, toD, chunk, placeS, srcRows, List.all_cons, List.all_nil, List.all_map, Function.comp_def, List.take_nil, List.drop_nil, List.toList_toArray, C.eqbL, eqCs, eqC, List.drop_one, List.tail_cons, lim, lk59, lk52, lk41, lk44, postsV]
  refine goE_if (fun h => ?_) (fun h => ?_)
  · have hlt : i < r.ps.length := by simpa using h
    obtain ⟨hp, _, _, _, q3, q4⟩ := hr.post (i := (i : Int)) (by omega) (by omega)
    have hp : r.ps[i]? = some (po r i) := hp
    have b1 := costP_bound hr hs i hi
    have b3 := costP_bound hr hs (i + 1) hlt
    have b2 := hs i
    have g2 := net_st (st := st) (bk := bk) (i := i) (by omega)
    have w1 : wr .i64 ((po r i).co * st i) = (po r i).co * st i := by
      have : st i = 0 ∨ st i = 1 := by omega
      rcases this with e | e <;> rw [e] <;> exact wr_id (by omega) (by omega)
    have w2 : wr .i64 (costP r st i + (po r i).co * st i) = costP r st (i + 1) := by
      rw [costP] at b3
      rw [costP]; exact wr_id (by omega) (by omega)
    have c4 : decide (1 ≤ 64 - i) = true := by simp; omega
    have c5 : (decide ((0 : Int) ≤ (i : Int)) && decide ((i : Int) < ((24 : Nat) : Int))) = true := by simp; omega
    have c6 : (decide ((0 : Int) ≤ (i : Int)) && decide ((i : Int) < (r.ps.length : Int))) = true := by simp; omega
    simp (config := { maxSteps := 2000000 }) only [go_sem, reduceIte, Nat.reduceEqDiff, Nat.reduceAdd, Nat.reduceLT, Nat.reduceLeDiff, Nat.reduceBEq, Nat.reduceMul, Nat.reduceSub, Nat.reduceDiv, Int.reduceNeg, Int.reduceLT, Int.reduceLE, Int.reduceEq, Int.reduceToNat, fillC, zc, List.replicate_succ, List.replicate_zero, List.flatten_cons, List.flatten_nil, toDs, toD, chunk, placeS, srcRows, List.all_cons, List.all_nil, List.all_map, Function.comp_def, List.take_nil, List.drop_nil, List.toList_toArray, C.eqbL, eqCs, eqC, List.drop_one, List.tail_cons, lim, lk59, lk52, lk41, lk44, netD, hp, pD, g2, w1, w2, c4, c5, c6, Nat.mul_one, List.getElem?_drop, hl, List.length_drop, wr_succ hlt (show r.ps.length ≤ 140737488355328 by omega)]
    refine ⟨i + 1, hlt, by omega, ?_⟩
    refine ent_weaken [.cells (pC (po r i))] rfl rfl (Nat.zero_le _) rfl rfl ?_
    simp (config := { maxSteps := 2000000 }) only [go_sem, reduceIte, Nat.reduceEqDiff, Nat.reduceAdd, Nat.reduceLT, Nat.reduceLeDiff, Nat.reduceBEq, Nat.reduceMul, Nat.reduceSub, Nat.reduceDiv, Int.reduceNeg, Int.reduceLT, Int.reduceLE, Int.reduceEq, Int.reduceToNat, fillC, zc, List.replicate_succ, List.replicate_zero, List.flatten_cons, List.flatten_nil, toDs, toD, chunk, placeS, srcRows, List.all_cons, List.all_nil, List.all_map, Function.comp_def, List.take_nil, List.drop_nil, List.toList_toArray, C.eqbL, eqCs, eqC, List.drop_one, List.tail_cons, lim, lk59, lk52, lk41, lk44]
  · have hi' : i = r.ps.length := by simp at h; omega
    simp (config := { maxSteps := 2000000 }) only [go_sem, reduceIte, Nat.reduceEqDiff, Nat.reduceAdd, Nat.reduceLT, Nat.reduceLeDiff, Nat.reduceBEq, Nat.reduceMul, Nat.reduceSub, Nat.reduceDiv, Int.reduceNeg, Int.reduceLT, Int.reduceLE, Int.reduceEq, Int.reduceToNat, fillC, zc, List.replicate_succ, List.replicate_zero, List.flatten_cons, List.flatten_nil, toDs, toD, chunk, placeS, srcRows, List.all_cons, List.all_nil, List.all_map, Function.comp_def, List.take_nil, List.drop_nil, List.toList_toArray, C.eqbL, eqCs, eqC, List.drop_one, List.tail_cons, lim, lk59, lk52, lk41, lk44, hi']
end Go.Proofs.YteamgbndnfjoaaaDoor
