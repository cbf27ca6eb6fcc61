/- What it costs to come to the ends: find. -/
import Derived.Test.YteamgbndnfjoaaaDoorS5
set_option linter.unusedSimpArgs false
set_option linter.unusedVariables false
set_option maxRecDepth 100000
namespace Go.Proofs.YteamgbndnfjoaaaDoor
open Go Go.Abs Go.Proofs
def kp63 : List (Nat × List Nat) := [(0, [0, 2]), (1, [0, 2, 4]), (2, [0, 2, 4, 10]), (3, [0, 2, 4, 10, 11]), (4, [0, 2, 4, 5, 10]), (5, [0, 2, 4, 10]), (6, [0, 2, 4, 10]), (7, [0, 2, 4]), (8, [0, 2, 4, 6]), (9, [0, 2, 4, 6, 7]), (10, [0, 2, 4, 6, 7, 20]), (11, [4, 6, 8]), (12, [4, 6, 8, 26]), (13, [4, 6, 8, 9]), (14, [4, 6, 8, 9]), (15, [4, 6, 8, 42]), (16, [4]), (17, [0, 2, 4, 6, 49]), (18, [2, 3])]
theorem lk63 : lookK kp63 0 = some [0, 2] ∧ lookK kp63 1 = some [0, 2, 4] ∧ lookK kp63 2 = some [0, 2, 4, 10] ∧ lookK kp63 3 = some [0, 2, 4, 10, 11] ∧ lookK kp63 4 = some [0, 2, 4, 5, 10] ∧ lookK kp63 5 = some [0, 2, 4, 10] ∧ lookK kp63 6 = some [0, 2, 4, 10] ∧ lookK kp63 7 = some [0, 2, 4] ∧ lookK kp63 8 = some [0, 2, 4, 6] ∧ lookK kp63 9 = some [0, 2, 4, 6, 7] ∧ lookK kp63 10 = some [0, 2, 4, 6, 7, 20] ∧ lookK kp63 11 = some [4, 6, 8] ∧ lookK kp63 12 = some [4, 6, 8, 26] ∧ lookK kp63 13 = some [4, 6, 8, 9] ∧ lookK kp63 14 = some [4, 6, 8, 9] ∧ lookK kp63 15 = some [4, 6, 8, 42] ∧ lookK kp63 16 = some [4] ∧ lookK kp63 17 = some [0, 2, 4, 6, 49] ∧ lookK kp63 18 = some [2, 3] := ⟨rfl, rfl, rfl, rfl, rfl, rfl, rfl, rfl, rfl, rfl, rfl, rfl, rfl, rfl, rfl, rfl, rfl, rfl, rfl⟩
def kp66 : List (Nat × List Nat) := [(0, [1]), (1, [2])]
theorem lk66 : lookK kp66 0 = some [1] ∧ lookK kp66 1 = some [2] := ⟨rfl, rfl⟩
def kp67 : List (Nat × List Nat) := [(0, [0, 1]), (1, [4])]
theorem lk67 : lookK kp67 0 = some [0, 1] ∧ lookK kp67 1 = some [4] := ⟨rfl, rfl⟩
def kp68 : List (Nat × List Nat) := [(0, [0, 1]), (1, [2])]
theorem lk68 : lookK kp68 0 = some [0, 1] ∧ lookK kp68 1 = some [2] := ⟨rfl, rfl⟩

def eqN (n : Nat) (f g : Nat → Int) : Bool := (List.range n).all fun k => decide (f k = g k)
def findR (l : List Stp) : Nat → FS → Option FS
  | 0, _ => none
  | n + 1, q => if eqN 41 (roundF l q).far q.far then some (roundF l q) else findR l n (roundF l q)
def q0 : FS := ⟨upd (fun _ => never) 0 0, []⟩

theorem eqCs_map (f g : Nat → Int) : ∀ l : List Nat, eqCs ((l.map fun j => D.int .i64 (f j)).map C.d) ((l.map fun j => D.int .i64 (g j)).map C.d) = some (l.all fun k => decide (f k = g k))
  | [] => rfl
  | a :: l => by
    have ih := eqCs_map f g l
    simp only [List.map_cons, eqCs, eqC, if_true, ih, List.all_cons]
theorem eqCs_nums (n : Nat) (f g : Nat → Int) : eqCs (numsC n f) (numsC n g) = some (eqN n f g) := eqCs_map f g _

/-- A step as all of them are: its ends are ends, its post is none of a number too great. -/
structure OkS (s : Stp) : Prop where
  f0 : 0 ≤ s.fr
  f40 : s.fr ≤ 40
  t0 : 0 ≤ s.to
  t40 : s.to ≤ 40
  c0 : -1000000 ≤ s.co
  c1 : s.co ≤ 1000000
theorem steps_ok {r : Rd} {st bk : Nat → Int} (hr : OkR r) : ∀ s ∈ stepsL r st bk, OkS s := fun s hs => by
  have := hr.p1
  have := hr.p40
  have := hr.i0
  have := hr.i5
  simp only [stepsL, List.mem_append, List.mem_flatMap, List.mem_range] at hs
  rcases hs with ⟨k, hk, h⟩ | ⟨i, hi, h⟩
  · simp only [backL, List.mem_cons] at h
    rcases h with rfl | h
    · exact ⟨by simp; omega, by simp; omega, by simp, by simp; omega, by simp, by simp⟩
    · split at h
      · simp only [List.mem_cons, List.not_mem_nil, or_false] at h
        subst h
        exact ⟨by simp, by simp; omega, by simp; omega, by simp; omega, by simp, by simp⟩
      · simp at h
  · obtain ⟨_, a1, a2, a3, a4, a5⟩ := hr.post (i := (i : Int)) (by omega) (by omega)
    simp only [postL] at h
    split at h
    · rename_i hft
      simp only [List.mem_cons, List.not_mem_nil, or_false] at h
      subst h
      simp only [rFrom, rTo] at hft
      simp only [postS]
      split
      · exact ⟨by simp only [rTo]; omega, by simp only [rTo]; omega, by simp only [rFrom]; omega, by simp only [rFrom]; omega, by simp only []; omega, by simp only []; omega⟩
      · exact ⟨by simp only [rFrom]; omega, by simp only [rFrom]; omega, by simp only [rTo]; omega, by simp only [rTo]; omega, by simp only []; omega, by simp only []; omega⟩
    · simp at h

set_option maxHeartbeats 1000000 in
theorem sum68 (f : Nat → Int) (s : Stp) (k : Nat) (hs : OkS s) (H : List AB) (hH : H.all (AB.low H.length) = true) (h7 : H[7]? = some (.cells (numsC 41 f))) (hk : H[k]? = some (.cells (sC s))) :
    ACall Tryd.prog 68 [.c (.ptr 7 0), .c (.ptr k 0)] H (one (I (wr .i64 (f s.fr.toNat + s.co))) H) := by
  refine acall_atE (bad := [1]) (kp := kp68) (X := tx) (nt := 10) (rs := [.tmp 2]) Tryd.func68 rfl rfl rfl rfl mo (by kernel_rfl) rfl hH (fun hf => ?_)
  have a0 := hs.f0
  have a1 := hs.f40
  have g := numsC_get f (j := s.fr.toNat) (n := 41) (by omega)
  have gl := numsC_len 41 f
  have c1 : (decide ((0 : Int) ≤ s.fr) && decide (s.fr < ((41 : Nat) : Int))) = true := by simp; omega
  have c2 : decide (s.fr.toNat + 1 ≤ 41) = true := by simp; omega
  simp (config := { maxSteps := 2000000 }) only [go_sem, reduceIte, Nat.reduceEqDiff, Nat.reduceAdd, Nat.reduceLT, Nat.reduceLeDiff, Nat.reduceBEq, Nat.reduceMul, Nat.reduceSub, Nat.reduceDiv, Int.reduceNeg, Int.reduceLT, Int.reduceLE, Int.reduceEq, Int.reduceToNat, fillC, zc, List.replicate_succ, List.replicate_zero, List.flatten_cons, List.flatten_nil, toDs, toD, chunk, placeS, srcRows, List.all_cons, List.all_nil, List.all_map, Function.comp_def, List.take_nil, List.drop_nil, List.toList_toArray, C.eqbL, eqCs, eqC, List.drop_one, List.tail_cons, lim, lk63, lk66, lk67, lk68, h7, hk, sC, g, gl, c1, c2, Nat.mul_one]
  exact ⟨by simp; omega, by kernel_rfl, [], by simp⟩
set_option maxHeartbeats 1000000 in
theorem least67 (f : Nat → Int) (s : Stp) (k : Nat) (old : Int) (hs : OkS s) (H : List AB) (hH : H.all (AB.low H.length) = true) (h7 : H[7]? = some (.cells (numsC 41 f))) (hk : H[k]? = some (.cells (sC s))) :
    ACall Tryd.prog 67 [I old, .c (.fn (.func 68) [.ptr 7 0, .ptr k 0])] H (one (I (min old (wr .i64 (f s.fr.toNat + s.co)))) H) := by
  refine acall_atE (bad := []) (kp := kp67) (X := tx) (nt := 9) (rs := [.tmp 4]) Tryd.func67 rfl rfl rfl rfl mo (by kernel_rfl) rfl hH (fun hf => ?_)
  simp (config := { maxSteps := 2000000 }) only [go_sem, reduceIte, Nat.reduceEqDiff, Nat.reduceAdd, Nat.reduceLT, Nat.reduceLeDiff, Nat.reduceBEq, Nat.reduceMul, Nat.reduceSub, Nat.reduceDiv, Int.reduceNeg, Int.reduceLT, Int.reduceLE, Int.reduceEq, Int.reduceToNat, fillC, zc, List.replicate_succ, List.replicate_zero, List.flatten_cons, List.flatten_nil, toDs, toD, chunk, placeS, srcRows, List.all_cons, List.all_nil, List.all_map, Function.comp_def, List.take_nil, List.drop_nil, List.toList_toArray, C.eqbL, eqCs, eqC, List.drop_one, List.tail_cons, lim, lk63, lk66, lk67, lk68]
  refine aops_at (sum68 f s k hs H hH h7 hk) rfl rfl (by first | exact wk_refls _ | (repeat constructor)) ?_
  simp (config := { maxSteps := 2000000 }) only [go_sem, reduceIte, Nat.reduceEqDiff, Nat.reduceAdd, Nat.reduceLT, Nat.reduceLeDiff, Nat.reduceBEq, Nat.reduceMul, Nat.reduceSub, Nat.reduceDiv, Int.reduceNeg, Int.reduceLT, Int.reduceLE, Int.reduceEq, Int.reduceToNat, fillC, zc, List.replicate_succ, List.replicate_zero, List.flatten_cons, List.flatten_nil, toDs, toD, chunk, placeS, srcRows, List.all_cons, List.all_nil, List.all_map, Function.comp_def, List.take_nil, List.drop_nil, List.toList_toArray, C.eqbL, eqCs, eqC, List.drop_one, List.tail_cons, lim, lk63, lk66, lk67, lk68, intsOf, minL]
  exact ⟨[], by simp⟩

/-- A round of the body of the range. -/
theorem HF_lowT (p : FP) (q : FS) (sta : LoopState) (T : List AB) (hT : T = [] ∨ ∃ a b, T = [AB.cells (pC a), AB.cells (sC b)]) : (HF p q sta ++ T).all (AB.low (HF p q sta ++ T).length) = true := by
  rcases hT with rfl | ⟨a, b, rfl⟩
  · rw [List.append_nil]; exact HF_low _ _ _ _ (Nat.le_refl _)
  · exact HF_low2 _ _ _ _ _

theorem HF_lowX (p : FP) (q : FS) (sta : LoopState) (T : List AB) (x : Stp) (hT : T = [] ∨ ∃ a b, T = [AB.cells (pC a), AB.cells (sC b)]) : (HF p q sta ++ T ++ [AB.cells (sC x)]).all (AB.low (HF p q sta ++ T ++ [AB.cells (sC x)]).length) = true := by
  rw [List.all_append, List.all_append, HF_low _ _ _ _ (by simp [HF])]
  rcases hT with rfl | ⟨a, b, rfl⟩ <;> rfl
theorem updE_byR (s : Stp) (es : List (Int × Stp)) : updE (.c (.d (.int .i64 s.to))) (.agg [.d (.int .i64 s.fr), .d (.int .i64 s.to), .d (.int .i64 s.co), .d (.int .i64 s.po)]) (byE es) ((fnd s.to es 0).map fun p => (p.1, sV p.2)) = byE (updB s.to s es) := updE_by s.to s es
theorem findE_byI (k : Int) (es : List (Int × Stp)) : findE (.c (.d (.int .i64 k))) (byE es) 0 = some ((fnd k es 0).map fun p => (p.1, sV p.2)) := findE_by k es 0
theorem roundF_one (pre : List Stp) (x : Stp) (q : FS) : roundF (pre ++ [x]) q = relax (roundF pre q) x := by rw [roundF_app]; rfl
theorem relax_never {q : FS} {x : Stp} (h : q.far x.fr.toNat = never) : relax q x = q := by simp [relax, h]

theorem numsC_congr {n : Nat} {f g : Nat → Int} (h : ∀ j, j < n → f j = g j) : numsC n f = numsC n g := by
  have e : numsD n f = numsD n g := List.map_congr_left (fun j hj => by rw [h j (by simpa using hj)])
  rw [numsC, numsC, e]
theorem set_all (f g : Nat → Int) : setMany (numsC 41 f) 0 (numsC 41 g) = numsC 41 g := by
  rw [setMany_eq_spl _ _ _ (by simp [numsC_len]), spl]
  simp [numsC_len, List.drop_eq_nil_of_le]
theorem set_gen (z : List C) (g : Nat → Int) (h : z.length = 41) : setMany z 0 (numsC 41 g) = numsC 41 g := by
  rw [setMany_eq_spl _ _ _ (by simp [numsC_len, h]), spl]
  simp [numsC_len, List.drop_eq_nil_of_le, h]
theorem take_all (f : Nat → Int) : (numsC 41 f).take 41 = numsC 41 f := List.take_of_length_le (by rw [numsC_len]; exact Nat.le_refl _)
def HB (p : FP) : List AB := [.gl 0 noneD, .cells (roadC p.r), .cells (roadC p.r), .cells (netC p.r p.st p.bk), .cells (numsC 41 p.z), .cells (numsC 41 p.f5)]
theorem HB_low (p : FP) (n : Nat) : (HB p).all (AB.low n) = true := by
  simp only [HB, List.all_cons, List.all_nil, AB.low, numsC_low, netC_low, roadC_low, Bool.and_self]
theorem HB_lowF (p : FP) (a b : Nat → Int) (es : List (Int × Stp)) : (HB p ++ [AB.cells (numsC 41 a), AB.cells (numsC 41 b), AB.mp (byE es), AB.cells [.mp 8]]).all (AB.low (HB p ++ [AB.cells (numsC 41 a), AB.cells (numsC 41 b), AB.mp (byE es), AB.cells [.mp 8]]).length) = true := by
  rw [List.all_append, HB_low]
  simp only [List.all_cons, List.all_nil, AB.low, numsC_low, byE_low, Bool.and_self, Bool.true_and, Bool.and_true]
  rfl
set_option maxHeartbeats 1000000 in
theorem steps66 (H : List AB) : ACall Tryd.prog 66 [.c (.ptr 3 0)] H (one (.c (.fn (.func 69) [.ptr H.length 0])) (H ++ [.cells [.ptr 3 0]])) := by
  refine acall_fitE (bad := []) (kp := kp66) (X := tx) (nt := 4) (rs := [.tmp 2]) Tryd.func66 rfl rfl rfl rfl mo (by kernel_rfl) (fun hf => ?_)
  simp (config := { maxSteps := 2000000 }) only [go_sem, reduceIte, Nat.reduceEqDiff, Nat.reduceAdd, Nat.reduceLT, Nat.reduceLeDiff, Nat.reduceBEq, Nat.reduceMul, Nat.reduceSub, Nat.reduceDiv, Int.reduceNeg, Int.reduceLT, Int.reduceLE, Int.reduceEq, Int.reduceToNat, fillC, zc, List.replicate_succ, List.replicate_zero, List.flatten_cons, List.flatten_nil, toDs, toD, chunk, placeS, srcRows, List.all_cons, List.all_nil, List.all_map, Function.comp_def, List.take_nil, List.drop_nil, List.toList_toArray, C.eqbL, eqCs, eqC, List.drop_one, List.tail_cons, lim, lk63, lk66, lk67, lk68]
  exact ⟨rfl, rfl⟩
set_option maxHeartbeats 8000000 in
theorem find63 (p : FP) (qf : FS) (n : Nat) (hr : OkR p.r) (hst : ∀ i, 0 ≤ p.st i ∧ p.st i ≤ 1) (hf : findR (stepsL p.r p.st p.bk) n q0 = some qf) :
    ACall Tryd.prog 63 [.c (.ptr 3 0)] (HB p) (one (.tup [.agg (numsC 41 qf.far), .c (.mp 8)]) (HB p ++ [.cells (numsC 41 qf.far), .cells (numsC 41 qf.far), .mp (byE qf.by')])) := by
  refine ACall.drop2 (by simp [HB]) rfl (by rw [List.all_append, HB_low]; simp only [List.all_cons, List.all_nil, AB.low, numsC_low, byE_low, Bool.and_self]) ?_
  refine acall_fitE (bad := [14, 18]) (kp := kp63) (X := tx) (nt := 52) (rs := [.cell 2 84, .tmp 3]) Tryd.func63 rfl rfl rfl rfl mo (by kernel_rfl) (fun hf' => ?_)
  have hz : List.replicate 41 (C.d (D.int .i64 0)) = numsC 41 zf := by rfl
  simp (config := { maxSteps := 2000000 }) only [go_sem, reduceIte, Nat.reduceEqDiff, Nat.reduceAdd, Nat.reduceLT, Nat.reduceLeDiff, Nat.reduceBEq, Nat.reduceMul, Nat.reduceSub, Nat.reduceDiv, Int.reduceNeg, Int.reduceLT, Int.reduceLE, Int.reduceEq, Int.reduceToNat, fillC, zc, List.replicate_succ, List.replicate_zero, List.flatten_cons, List.flatten_nil, toDs, toD, chunk, placeS, srcRows, List.all_cons, List.all_nil, List.all_map, Function.comp_def, List.take_nil, List.drop_nil, List.toList_toArray, C.eqbL, eqCs, eqC, List.drop_one, List.tail_cons, lim, lk63, lk66, lk67, lk68, HB, hz]
  refine goE_loop (bad := [14, 18]) (kp := kp63) (fun k : Nat => { slots := [(0, .c (.ptr 3 0)), (2, .c (.ptr 6 0)), (4, .c (.ptr 7 0)), (10, I k)], heap := HB p ++ [.cells (numsC 41 zf), .cells (numsC 41 (fun j => if j < k then never else 0))], marks := [] }) (fun k => k ≤ 41) (fun k => 41 - k) 0 mo (by kernel_rfl) ?_ (Nat.zero_le _) ?_
  · refine ent_weaken [] (by simp only [HB, List.append_nil]; rfl) rfl (show 6 ≤ 8 by decide) (by rw [List.all_append, HB_low]; simp only [List.all_cons, List.all_nil, AB.low, numsC_low, Bool.and_self]) rfl ?_
    simp (config := { maxSteps := 2000000 }) only [go_sem, reduceIte, Nat.reduceEqDiff, Nat.reduceAdd, Nat.reduceLT, Nat.reduceLeDiff, Nat.reduceBEq, Nat.reduceMul, Nat.reduceSub, Nat.reduceDiv, Int.reduceNeg, Int.reduceLT, Int.reduceLE, Int.reduceEq, Int.reduceToNat, fillC, zc, List.replicate_succ, List.replicate_zero, List.flatten_cons, List.flatten_nil, toDs, toD, chunk, placeS, srcRows, List.all_cons, List.all_nil, List.all_map, Function.comp_def, List.take_nil, List.drop_nil, List.toList_toArray, C.eqbL, eqCs, eqC, List.drop_one, List.tail_cons, lim, lk63, lk66, lk67, lk68, HB]
    exact .refl _
  rintro k hk
  simp (config := { maxSteps := 2000000 }) only [go_sem, reduceIte, Nat.reduceEqDiff, Nat.reduceAdd, Nat.reduceLT, Nat.reduceLeDiff, Nat.reduceBEq, Nat.reduceMul, Nat.reduceSub, Nat.reduceDiv, Int.reduceNeg, Int.reduceLT, Int.reduceLE, Int.reduceEq, Int.reduceToNat, fillC, zc, List.replicate_succ, List.replicate_zero, List.flatten_cons, List.flatten_nil, toDs, toD, chunk, placeS, srcRows, List.all_cons, List.all_nil, List.all_map, Function.comp_def, List.take_nil, List.drop_nil, List.toList_toArray, C.eqbL, eqCs, eqC, List.drop_one, List.tail_cons, lim, lk63, lk66, lk67, lk68, HB]
  refine goE_if (fun h => ?_) (fun h => ?_)
  · have hlt : k < 41 := by simp at h; omega
    have c1 : (decide ((0 : Int) ≤ (k : Int)) && decide ((k : Int) < ((41 : Nat) : Int))) = true := by simp; omega
    have c2 : decide (k + 1 ≤ 41) = true := by simp; omega
    have c3 : decide (k ≤ 40) = true := by simp; omega
    have gl := numsC_len 41 (fun j => if j < k then never else 0)
    simp (config := { maxSteps := 2000000 }) only [go_sem, reduceIte, Nat.reduceEqDiff, Nat.reduceAdd, Nat.reduceLT, Nat.reduceLeDiff, Nat.reduceBEq, Nat.reduceMul, Nat.reduceSub, Nat.reduceDiv, Int.reduceNeg, Int.reduceLT, Int.reduceLE, Int.reduceEq, Int.reduceToNat, fillC, zc, List.replicate_succ, List.replicate_zero, List.flatten_cons, List.flatten_nil, toDs, toD, chunk, placeS, srcRows, List.all_cons, List.all_nil, List.all_map, Function.comp_def, List.take_nil, List.drop_nil, List.toList_toArray, C.eqbL, eqCs, eqC, List.drop_one, List.tail_cons, lim, lk63, lk66, lk67, lk68, c1, c2, c3, gl, Nat.mul_one, wr_succ hlt (by decide)]
    refine ⟨k + 1, hlt, by omega, ?_⟩
    refine ent_weaken [] (by
      have e : numsC 41 (upd (fun j => if j < k then never else 0) k 1125899906842624) = numsC 41 (fun j => if j < k + 1 then never else 0) := numsC_congr fun j hj => by
        simp only [upd]
        by_cases e : j = k
        · subst e; simp [never]
        · have : j < k + 1 ↔ j < k := by omega
          simp [e, this]
      rw [numsC_set, e]; rfl) rfl (show 6 ≤ 8 by decide) (by simp only [List.all_cons, List.all_nil, AB.low, numsC_low, netC_low, roadC_low, Bool.and_self]) rfl ?_
    simp (config := { maxSteps := 2000000 }) only [go_sem, reduceIte, Nat.reduceEqDiff, Nat.reduceAdd, Nat.reduceLT, Nat.reduceLeDiff, Nat.reduceBEq, Nat.reduceMul, Nat.reduceSub, Nat.reduceDiv, Int.reduceNeg, Int.reduceLT, Int.reduceLE, Int.reduceEq, Int.reduceToNat, fillC, zc, List.replicate_succ, List.replicate_zero, List.flatten_cons, List.flatten_nil, toDs, toD, chunk, placeS, srcRows, List.all_cons, List.all_nil, List.all_map, Function.comp_def, List.take_nil, List.drop_nil, List.toList_toArray, C.eqbL, eqCs, eqC, List.drop_one, List.tail_cons, lim, lk63, lk66, lk67, lk68]
  have hk' : k = 41 := by simp at h; omega
  subst hk'
  have gl := numsC_len 41 (fun j => if j < 41 then never else 0)
  simp (config := { maxSteps := 2000000 }) only [go_sem, reduceIte, Nat.reduceEqDiff, Nat.reduceAdd, Nat.reduceLT, Nat.reduceLeDiff, Nat.reduceBEq, Nat.reduceMul, Nat.reduceSub, Nat.reduceDiv, Int.reduceNeg, Int.reduceLT, Int.reduceLE, Int.reduceEq, Int.reduceToNat, fillC, zc, List.replicate_succ, List.replicate_zero, List.flatten_cons, List.flatten_nil, toDs, toD, chunk, placeS, srcRows, List.all_cons, List.all_nil, List.all_map, Function.comp_def, List.take_nil, List.drop_nil, List.toList_toArray, C.eqbL, eqCs, eqC, List.drop_one, List.tail_cons, lim, lk63, lk66, lk67, lk68, gl]
  refine ⟨by decide, ?_⟩
  refine goE_loop (bad := [14, 18]) (kp := kp63) (fun a : Nat × FS => { slots := [(0, .c (.ptr 3 0)), (2, .c (.ptr 6 0)), (4, .c (.ptr 7 0)), (6, .c (.ptr 9 0))], heap := HB p ++ [.cells (numsC 41 zf), .cells (numsC 41 a.2.far), .mp (byE a.2.by'), .cells [.mp 8]], marks := [] }) (fun a => findR (stepsL p.r p.st p.bk) a.1 a.2 = some qf) (fun a => a.1) (n, q0) mo (by kernel_rfl) ?_ hf ?_
  · refine ent_weaken [] (by
      have e : numsC 41 (upd (fun j => if j < 41 then never else 0) 0 0) = numsC 41 q0.far := numsC_congr fun j hj => by simp [upd, q0, hj]
      rw [numsC_set, e]; rfl) rfl (show 6 ≤ 10 by decide) (HB_lowF p zf q0.far q0.by') rfl ?_
    simp (config := { maxSteps := 2000000 }) only [go_sem, reduceIte, Nat.reduceEqDiff, Nat.reduceAdd, Nat.reduceLT, Nat.reduceLeDiff, Nat.reduceBEq, Nat.reduceMul, Nat.reduceSub, Nat.reduceDiv, Int.reduceNeg, Int.reduceLT, Int.reduceLE, Int.reduceEq, Int.reduceToNat, fillC, zc, List.replicate_succ, List.replicate_zero, List.flatten_cons, List.flatten_nil, toDs, toD, chunk, placeS, srcRows, List.all_cons, List.all_nil, List.all_map, Function.comp_def, List.take_nil, List.drop_nil, List.toList_toArray, C.eqbL, eqCs, eqC, List.drop_one, List.tail_cons, lim, lk63, lk66, lk67, lk68, HB]
  clear h hf hk gl
  rintro ⟨n, q⟩ hf
  cases n with
  | zero => cases hf
  | succ n =>
  have gl := numsC_len 41 q.far
  simp (config := { maxSteps := 2000000 }) only [go_sem, reduceIte, Nat.reduceEqDiff, Nat.reduceAdd, Nat.reduceLT, Nat.reduceLeDiff, Nat.reduceBEq, Nat.reduceMul, Nat.reduceSub, Nat.reduceDiv, Int.reduceNeg, Int.reduceLT, Int.reduceLE, Int.reduceEq, Int.reduceToNat, fillC, zc, List.replicate_succ, List.replicate_zero, List.flatten_cons, List.flatten_nil, toDs, toD, chunk, placeS, srcRows, List.all_cons, List.all_nil, List.all_map, Function.comp_def, List.take_nil, List.drop_nil, List.toList_toArray, C.eqbL, eqCs, eqC, List.drop_one, List.tail_cons, lim, lk63, lk66, lk67, lk68, HB, gl, take_all, hz, set_all]
  refine aops_at (steps66 _) rfl rfl (by first | exact wk_refls _ | (repeat constructor)) ?_
  simp (config := { maxSteps := 2000000 }) only [go_sem, reduceIte, Nat.reduceEqDiff, Nat.reduceAdd, Nat.reduceLT, Nat.reduceLeDiff, Nat.reduceBEq, Nat.reduceMul, Nat.reduceSub, Nat.reduceDiv, Int.reduceNeg, Int.reduceLT, Int.reduceLE, Int.reduceEq, Int.reduceToNat, fillC, zc, List.replicate_succ, List.replicate_zero, List.flatten_cons, List.flatten_nil, toDs, toD, chunk, placeS, srcRows, List.all_cons, List.all_nil, List.all_map, Function.comp_def, List.take_nil, List.drop_nil, List.toList_toArray, C.eqbL, eqCs, eqC, List.drop_one, List.tail_cons, lim, lk63, lk66, lk67, lk68]
  refine AWP.ent (s' := { slots := slF, heap := HB p ++ [AB.cells (numsC 41 zf), AB.cells (numsC 41 q.far), AB.mp (byE q.by'), AB.cells [.mp 8], AB.cells (numsC 41 q.far), AB.cells [.ptr 3 0]], marks := [] }) ?_ ?_
  · refine ent_weaken [] (by simp only [HB, List.append_nil]; rw [set_gen _ _ rfl]; rfl) rfl (show 6 ≤ 12 by decide) (by
      rw [List.all_append, HB_low]
      simp only [List.all_cons, List.all_nil, AB.low, numsC_low, byE_low, Bool.and_self, Bool.true_and, Bool.and_true]
      rfl) rfl ?_
    simp (config := { maxSteps := 2000000 }) only [go_sem, reduceIte, Nat.reduceEqDiff, Nat.reduceAdd, Nat.reduceLT, Nat.reduceLeDiff, Nat.reduceBEq, Nat.reduceMul, Nat.reduceSub, Nat.reduceDiv, Int.reduceNeg, Int.reduceLT, Int.reduceLE, Int.reduceEq, Int.reduceToNat, fillC, zc, List.replicate_succ, List.replicate_zero, List.flatten_cons, List.flatten_nil, toDs, toD, chunk, placeS, srcRows, List.all_cons, List.all_nil, List.all_map, Function.comp_def, List.take_nil, List.drop_nil, List.toList_toArray, C.eqbL, eqCs, eqC, List.drop_one, List.tail_cons, lim, lk63, lk66, lk67, lk68, slF, HB]
    trace_state
  refine code_gen (fun A Bd hA hB => ?_)
  refine awp_rangeFuncH (gf := 69) (caps := [.ptr 11 0]) rfl rfl (show 6 ≤ 12 by decide) rfl ?_
  refine ACall.mono (steps69 ⟨p.r, p.st, p.bk, p.z, p.f5, q.far, A, Bd⟩ q hr hst (fun pre x suf T hall hT => ?_)) ?_
  · have hx : OkS x := steps_ok hr x (by rw [hall]; simp)
    rw [roundF_one]
    generalize roundF pre q = q1
    generalize hp' : (⟨p.r, p.st, p.bk, p.z, p.f5, q.far, A, Bd⟩ : FP) = p'
    have hA' := (congrArg FP.A hp'.symm).trans hA
    have hB' := (congrArg FP.Bd hp'.symm).trans hB
    have a0 := hx.f0
    have a1 := hx.f40
    have a2 := hx.t0
    have a3 := hx.t40
    have g1 := numsC_get q1.far (j := x.fr.toNat) (n := 41) (by omega)
    have g2 := numsC_get q1.far (j := x.to.toNat) (n := 41) (by omega)
    have gl := numsC_len 41 q1.far
    have c1 : (decide ((0 : Int) ≤ x.fr) && decide (x.fr < ((41 : Nat) : Int))) = true := by simp; omega
    have c2 : decide (x.fr.toNat + 1 ≤ 41) = true := by simp; omega
    have c2' : decide (x.fr.toNat ≤ 40) = true := by simp; omega
    have c3 : (decide ((0 : Int) ≤ x.to) && decide (x.to < ((41 : Nat) : Int))) = true := by simp; omega
    have c4 : decide (x.to.toNat + 1 ≤ 41) = true := by simp; omega
    have c4' : decide (x.to.toNat ≤ 40) = true := by simp; omega
    rcases hT with rfl | ⟨a, b, rfl⟩
    · refine yc_ofC (bad := [14]) (kp := kp63) (X := tx) mo rfl hA' hB' rfl rfl (by kernel_rfl) (by kernel_rfl) (fun lp => ?_)
      simp (config := { maxSteps := 2000000 }) only [go_sem, reduceIte, Nat.reduceEqDiff, Nat.reduceAdd, Nat.reduceLT, Nat.reduceLeDiff, Nat.reduceBEq, Nat.reduceMul, Nat.reduceSub, Nat.reduceDiv, Int.reduceNeg, Int.reduceLT, Int.reduceLE, Int.reduceEq, Int.reduceToNat, fillC, zc, List.replicate_succ, List.replicate_zero, List.flatten_cons, List.flatten_nil, toDs, toD, chunk, placeS, srcRows, List.all_cons, List.all_nil, List.all_map, Function.comp_def, List.take_nil, List.drop_nil, List.toList_toArray, C.eqbL, eqCs, eqC, List.drop_one, List.tail_cons, lim, lk63, lk66, lk67, lk68, putPs, HF, slF, sV, sC, pC]
      refine ⟨_, rfl, ?_⟩
      by_cases hn : q1.far x.fr.toNat = 1125899906842624
      · have hre : relax q1 x = q1 := relax_never hn
        rw [hre]
        simp (config := { maxSteps := 2000000 }) only [go_sem, reduceIte, Nat.reduceEqDiff, Nat.reduceAdd, Nat.reduceLT, Nat.reduceLeDiff, Nat.reduceBEq, Nat.reduceMul, Nat.reduceSub, Nat.reduceDiv, Int.reduceNeg, Int.reduceLT, Int.reduceLE, Int.reduceEq, Int.reduceToNat, fillC, zc, List.replicate_succ, List.replicate_zero, List.flatten_cons, List.flatten_nil, toDs, toD, chunk, placeS, srcRows, List.all_cons, List.all_nil, List.all_map, Function.comp_def, List.take_nil, List.drop_nil, List.toList_toArray, C.eqbL, eqCs, eqC, List.drop_one, List.tail_cons, lim, lk63, lk66, lk67, lk68, g1, gl, c1, c2, c2', Nat.mul_one, hn]
        refine ⟨{ slots := [], heap := HF p' q1 .busy ++ [], marks := [] }, ent_weaken [AB.cells (sC x)] rfl rfl (Nat.le_refl _) (HF_lowT _ _ _ _ (.inl rfl)) rfl trivial, _, rfl, rfl, rfl⟩
      · simp (config := { maxSteps := 2000000 }) only [go_sem, reduceIte, Nat.reduceEqDiff, Nat.reduceAdd, Nat.reduceLT, Nat.reduceLeDiff, Nat.reduceBEq, Nat.reduceMul, Nat.reduceSub, Nat.reduceDiv, Int.reduceNeg, Int.reduceLT, Int.reduceLE, Int.reduceEq, Int.reduceToNat, fillC, zc, List.replicate_succ, List.replicate_zero, List.flatten_cons, List.flatten_nil, toDs, toD, chunk, placeS, srcRows, List.all_cons, List.all_nil, List.all_map, Function.comp_def, List.take_nil, List.drop_nil, List.toList_toArray, C.eqbL, eqCs, eqC, List.drop_one, List.tail_cons, lim, lk63, lk66, lk67, lk68, g1, gl, c1, c2, c2', g2, c3, c4, c4', Nat.mul_one, hn]
        have hl := least67 q1.far x 14 (q1.far x.to.toNat) hx (HF p' q1 .busy ++ [] ++ [AB.cells (sC x)]) (HF_lowX _ _ _ _ _ (.inl rfl)) rfl rfl
        simp only [HF, slF, sC, pC, List.cons_append, List.nil_append] at hl
        have gl3 := fun v => numsC_len 41 (upd q1.far x.to.toNat v)
        have g3 := fun v => numsC_get (upd q1.far x.to.toNat v) (j := x.to.toNat) (n := 41) (by omega)
        refine de_at (hl) rfl rfl (by first | exact wk_refls _ | (repeat constructor)) ?_
        simp (config := { maxSteps := 2000000 }) only [go_sem, reduceIte, Nat.reduceEqDiff, Nat.reduceAdd, Nat.reduceLT, Nat.reduceLeDiff, Nat.reduceBEq, Nat.reduceMul, Nat.reduceSub, Nat.reduceDiv, Int.reduceNeg, Int.reduceLT, Int.reduceLE, Int.reduceEq, Int.reduceToNat, fillC, zc, List.replicate_succ, List.replicate_zero, List.flatten_cons, List.flatten_nil, toDs, toD, chunk, placeS, srcRows, List.all_cons, List.all_nil, List.all_map, Function.comp_def, List.take_nil, List.drop_nil, List.toList_toArray, C.eqbL, eqCs, eqC, List.drop_one, List.tail_cons, lim, lk63, lk66, lk67, lk68, c3, gl, c4, c4', Nat.mul_one, numsC_set]
        refine ⟨pairsOk_ord (by kernel_rfl), ?_⟩
        by_cases hlt : min (q1.far x.to.toNat) (wr .i64 (q1.far x.fr.toNat + x.co)) < q1.far x.to.toNat
        · have hrel : relax q1 x = ⟨upd q1.far x.to.toNat (min (q1.far x.to.toNat) (wr .i64 (q1.far x.fr.toNat + x.co))), updB x.to x q1.by'⟩ := by
            rw [relax, if_neg (show ¬ q1.far x.fr.toNat = never from hn), if_pos hlt]
          rw [hrel]
          simp (config := { maxSteps := 2000000 }) only [go_sem, reduceIte, Nat.reduceEqDiff, Nat.reduceAdd, Nat.reduceLT, Nat.reduceLeDiff, Nat.reduceBEq, Nat.reduceMul, Nat.reduceSub, Nat.reduceDiv, Int.reduceNeg, Int.reduceLT, Int.reduceLE, Int.reduceEq, Int.reduceToNat, fillC, zc, List.replicate_succ, List.replicate_zero, List.flatten_cons, List.flatten_nil, toDs, toD, chunk, placeS, srcRows, List.all_cons, List.all_nil, List.all_map, Function.comp_def, List.take_nil, List.drop_nil, List.toList_toArray, C.eqbL, eqCs, eqC, List.drop_one, List.tail_cons, lim, lk63, lk66, lk67, lk68, c3, gl3, g3, c4, c4', Nat.mul_one, upd_same, hlt, findE_byI, updE_byR, keyOk]
          refine ⟨{ slots := [], heap := HF p' ⟨upd q1.far x.to.toNat (min (q1.far x.to.toNat) (wr .i64 (q1.far x.fr.toNat + x.co))), updB x.to x q1.by'⟩ .busy ++ [], marks := [] }, ent_weaken [AB.cells (sC x)] rfl rfl (Nat.le_refl _) (HF_lowT _ _ _ _ (.inl rfl)) rfl trivial, _, rfl, rfl, rfl⟩
        · have hrel : relax q1 x = ⟨upd q1.far x.to.toNat (min (q1.far x.to.toNat) (wr .i64 (q1.far x.fr.toNat + x.co))), q1.by'⟩ := by
            rw [relax, if_neg (show ¬ q1.far x.fr.toNat = never from hn), if_neg hlt]
          rw [hrel]
          simp (config := { maxSteps := 2000000 }) only [go_sem, reduceIte, Nat.reduceEqDiff, Nat.reduceAdd, Nat.reduceLT, Nat.reduceLeDiff, Nat.reduceBEq, Nat.reduceMul, Nat.reduceSub, Nat.reduceDiv, Int.reduceNeg, Int.reduceLT, Int.reduceLE, Int.reduceEq, Int.reduceToNat, fillC, zc, List.replicate_succ, List.replicate_zero, List.flatten_cons, List.flatten_nil, toDs, toD, chunk, placeS, srcRows, List.all_cons, List.all_nil, List.all_map, Function.comp_def, List.take_nil, List.drop_nil, List.toList_toArray, C.eqbL, eqCs, eqC, List.drop_one, List.tail_cons, lim, lk63, lk66, lk67, lk68, c3, gl3, g3, c4, c4', Nat.mul_one, upd_same, hlt]
          refine ⟨{ slots := [], heap := HF p' ⟨upd q1.far x.to.toNat (min (q1.far x.to.toNat) (wr .i64 (q1.far x.fr.toNat + x.co))), q1.by'⟩ .busy ++ [], marks := [] }, ent_weaken [AB.cells (sC x)] rfl rfl (Nat.le_refl _) (HF_lowT _ _ _ _ (.inl rfl)) rfl trivial, _, rfl, rfl, rfl⟩
    · refine yc_ofC (bad := [14]) (kp := kp63) (X := tx) mo rfl hA' hB' rfl rfl (by kernel_rfl) (by kernel_rfl) (fun lp => ?_)
      simp (config := { maxSteps := 2000000 }) only [go_sem, reduceIte, Nat.reduceEqDiff, Nat.reduceAdd, Nat.reduceLT, Nat.reduceLeDiff, Nat.reduceBEq, Nat.reduceMul, Nat.reduceSub, Nat.reduceDiv, Int.reduceNeg, Int.reduceLT, Int.reduceLE, Int.reduceEq, Int.reduceToNat, fillC, zc, List.replicate_succ, List.replicate_zero, List.flatten_cons, List.flatten_nil, toDs, toD, chunk, placeS, srcRows, List.all_cons, List.all_nil, List.all_map, Function.comp_def, List.take_nil, List.drop_nil, List.toList_toArray, C.eqbL, eqCs, eqC, List.drop_one, List.tail_cons, lim, lk63, lk66, lk67, lk68, putPs, HF, slF, sV, sC, pC]
      refine ⟨_, rfl, ?_⟩
      by_cases hn : q1.far x.fr.toNat = 1125899906842624
      · have hre : relax q1 x = q1 := relax_never hn
        rw [hre]
        simp (config := { maxSteps := 2000000 }) only [go_sem, reduceIte, Nat.reduceEqDiff, Nat.reduceAdd, Nat.reduceLT, Nat.reduceLeDiff, Nat.reduceBEq, Nat.reduceMul, Nat.reduceSub, Nat.reduceDiv, Int.reduceNeg, Int.reduceLT, Int.reduceLE, Int.reduceEq, Int.reduceToNat, fillC, zc, List.replicate_succ, List.replicate_zero, List.flatten_cons, List.flatten_nil, toDs, toD, chunk, placeS, srcRows, List.all_cons, List.all_nil, List.all_map, Function.comp_def, List.take_nil, List.drop_nil, List.toList_toArray, C.eqbL, eqCs, eqC, List.drop_one, List.tail_cons, lim, lk63, lk66, lk67, lk68, g1, gl, c1, c2, c2', Nat.mul_one, hn]
        refine ⟨{ slots := [], heap := HF p' q1 .busy ++ [AB.cells (pC a), AB.cells (sC b)], marks := [] }, ent_weaken [AB.cells (sC x)] rfl rfl (Nat.le_refl _) (HF_lowT _ _ _ _ (.inr ⟨_, _, rfl⟩)) rfl trivial, _, rfl, rfl, rfl⟩
      · simp (config := { maxSteps := 2000000 }) only [go_sem, reduceIte, Nat.reduceEqDiff, Nat.reduceAdd, Nat.reduceLT, Nat.reduceLeDiff, Nat.reduceBEq, Nat.reduceMul, Nat.reduceSub, Nat.reduceDiv, Int.reduceNeg, Int.reduceLT, Int.reduceLE, Int.reduceEq, Int.reduceToNat, fillC, zc, List.replicate_succ, List.replicate_zero, List.flatten_cons, List.flatten_nil, toDs, toD, chunk, placeS, srcRows, List.all_cons, List.all_nil, List.all_map, Function.comp_def, List.take_nil, List.drop_nil, List.toList_toArray, C.eqbL, eqCs, eqC, List.drop_one, List.tail_cons, lim, lk63, lk66, lk67, lk68, g1, gl, c1, c2, c2', g2, c3, c4, c4', Nat.mul_one, hn]
        have hl := least67 q1.far x 16 (q1.far x.to.toNat) hx (HF p' q1 .busy ++ [AB.cells (pC a), AB.cells (sC b)] ++ [AB.cells (sC x)]) (HF_lowX _ _ _ _ _ (.inr ⟨_, _, rfl⟩)) rfl rfl
        simp only [HF, slF, sC, pC, List.cons_append, List.nil_append] at hl
        have gl3 := fun v => numsC_len 41 (upd q1.far x.to.toNat v)
        have g3 := fun v => numsC_get (upd q1.far x.to.toNat v) (j := x.to.toNat) (n := 41) (by omega)
        refine de_at (hl) rfl rfl (by first | exact wk_refls _ | (repeat constructor)) ?_
        simp (config := { maxSteps := 2000000 }) only [go_sem, reduceIte, Nat.reduceEqDiff, Nat.reduceAdd, Nat.reduceLT, Nat.reduceLeDiff, Nat.reduceBEq, Nat.reduceMul, Nat.reduceSub, Nat.reduceDiv, Int.reduceNeg, Int.reduceLT, Int.reduceLE, Int.reduceEq, Int.reduceToNat, fillC, zc, List.replicate_succ, List.replicate_zero, List.flatten_cons, List.flatten_nil, toDs, toD, chunk, placeS, srcRows, List.all_cons, List.all_nil, List.all_map, Function.comp_def, List.take_nil, List.drop_nil, List.toList_toArray, C.eqbL, eqCs, eqC, List.drop_one, List.tail_cons, lim, lk63, lk66, lk67, lk68, c3, gl, c4, c4', Nat.mul_one, numsC_set]
        refine ⟨pairsOk_ord (by kernel_rfl), ?_⟩
        by_cases hlt : min (q1.far x.to.toNat) (wr .i64 (q1.far x.fr.toNat + x.co)) < q1.far x.to.toNat
        · have hrel : relax q1 x = ⟨upd q1.far x.to.toNat (min (q1.far x.to.toNat) (wr .i64 (q1.far x.fr.toNat + x.co))), updB x.to x q1.by'⟩ := by
            rw [relax, if_neg (show ¬ q1.far x.fr.toNat = never from hn), if_pos hlt]
          rw [hrel]
          simp (config := { maxSteps := 2000000 }) only [go_sem, reduceIte, Nat.reduceEqDiff, Nat.reduceAdd, Nat.reduceLT, Nat.reduceLeDiff, Nat.reduceBEq, Nat.reduceMul, Nat.reduceSub, Nat.reduceDiv, Int.reduceNeg, Int.reduceLT, Int.reduceLE, Int.reduceEq, Int.reduceToNat, fillC, zc, List.replicate_succ, List.replicate_zero, List.flatten_cons, List.flatten_nil, toDs, toD, chunk, placeS, srcRows, List.all_cons, List.all_nil, List.all_map, Function.comp_def, List.take_nil, List.drop_nil, List.toList_toArray, C.eqbL, eqCs, eqC, List.drop_one, List.tail_cons, lim, lk63, lk66, lk67, lk68, c3, gl3, g3, c4, c4', Nat.mul_one, upd_same, hlt, findE_byI, updE_byR, keyOk]
          refine ⟨{ slots := [], heap := HF p' ⟨upd q1.far x.to.toNat (min (q1.far x.to.toNat) (wr .i64 (q1.far x.fr.toNat + x.co))), updB x.to x q1.by'⟩ .busy ++ [AB.cells (pC a), AB.cells (sC b)], marks := [] }, ent_weaken [AB.cells (sC x)] rfl rfl (Nat.le_refl _) (HF_lowT _ _ _ _ (.inr ⟨_, _, rfl⟩)) rfl trivial, _, rfl, rfl, rfl⟩
        · have hrel : relax q1 x = ⟨upd q1.far x.to.toNat (min (q1.far x.to.toNat) (wr .i64 (q1.far x.fr.toNat + x.co))), q1.by'⟩ := by
            rw [relax, if_neg (show ¬ q1.far x.fr.toNat = never from hn), if_neg hlt]
          rw [hrel]
          simp (config := { maxSteps := 2000000 }) only [go_sem, reduceIte, Nat.reduceEqDiff, Nat.reduceAdd, Nat.reduceLT, Nat.reduceLeDiff, Nat.reduceBEq, Nat.reduceMul, Nat.reduceSub, Nat.reduceDiv, Int.reduceNeg, Int.reduceLT, Int.reduceLE, Int.reduceEq, Int.reduceToNat, fillC, zc, List.replicate_succ, List.replicate_zero, List.flatten_cons, List.flatten_nil, toDs, toD, chunk, placeS, srcRows, List.all_cons, List.all_nil, List.all_map, Function.comp_def, List.take_nil, List.drop_nil, List.toList_toArray, C.eqbL, eqCs, eqC, List.drop_one, List.tail_cons, lim, lk63, lk66, lk67, lk68, c3, gl3, g3, c4, c4', Nat.mul_one, upd_same, hlt]
          refine ⟨{ slots := [], heap := HF p' ⟨upd q1.far x.to.toNat (min (q1.far x.to.toNat) (wr .i64 (q1.far x.fr.toNat + x.co))), q1.by'⟩ .busy ++ [AB.cells (pC a), AB.cells (sC b)], marks := [] }, ent_weaken [AB.cells (sC x)] rfl rfl (Nat.le_refl _) (HF_lowT _ _ _ _ (.inr ⟨_, _, rfl⟩)) rfl trivial, _, rfl, rfl, rfl⟩
  · rintro _ H2 rfl
    refine ⟨fun h => (by cases h), rfl, rfl, ?_⟩
    have gl2 := numsC_len 41 (roundF (stepsL p.r p.st p.bk) q).far
    simp (config := { maxSteps := 2000000 }) only [go_sem, reduceIte, Nat.reduceEqDiff, Nat.reduceAdd, Nat.reduceLT, Nat.reduceLeDiff, Nat.reduceBEq, Nat.reduceMul, Nat.reduceSub, Nat.reduceDiv, Int.reduceNeg, Int.reduceLT, Int.reduceLE, Int.reduceEq, Int.reduceToNat, fillC, zc, List.replicate_succ, List.replicate_zero, List.flatten_cons, List.flatten_nil, toDs, toD, chunk, placeS, srcRows, List.all_cons, List.all_nil, List.all_map, Function.comp_def, List.take_nil, List.drop_nil, List.toList_toArray, C.eqbL, eqCs, eqC, List.drop_one, List.tail_cons, lim, lk63, lk66, lk67, lk68, HF, HB, slF, gl, gl2, take_all, eqCs_nums, numsC_len]
    refine goE_if (fun h => ?_) (fun h => ?_)
    · have hq : roundF (stepsL p.r p.st p.bk) q = qf := by
        rw [findR, if_pos h] at hf
        exact Option.some.inj hf
      simp (config := { maxSteps := 2000000 }) only [go_sem, reduceIte, Nat.reduceEqDiff, Nat.reduceAdd, Nat.reduceLT, Nat.reduceLeDiff, Nat.reduceBEq, Nat.reduceMul, Nat.reduceSub, Nat.reduceDiv, Int.reduceNeg, Int.reduceLT, Int.reduceLE, Int.reduceEq, Int.reduceToNat, fillC, zc, List.replicate_succ, List.replicate_zero, List.flatten_cons, List.flatten_nil, toDs, toD, chunk, placeS, srcRows, List.all_cons, List.all_nil, List.all_map, Function.comp_def, List.take_nil, List.drop_nil, List.toList_toArray, C.eqbL, eqCs, eqC, List.drop_one, List.tail_cons, lim, lk63, lk66, lk67, lk68, take_all, numsC_len, set_all, hq]
      exact ⟨pairsOk_ord (by kernel_rfl), _, rfl⟩
    · simp (config := { maxSteps := 2000000 }) only [go_sem, reduceIte, Nat.reduceEqDiff, Nat.reduceAdd, Nat.reduceLT, Nat.reduceLeDiff, Nat.reduceBEq, Nat.reduceMul, Nat.reduceSub, Nat.reduceDiv, Int.reduceNeg, Int.reduceLT, Int.reduceLE, Int.reduceEq, Int.reduceToNat, fillC, zc, List.replicate_succ, List.replicate_zero, List.flatten_cons, List.flatten_nil, toDs, toD, chunk, placeS, srcRows, List.all_cons, List.all_nil, List.all_map, Function.comp_def, List.take_nil, List.drop_nil, List.toList_toArray, C.eqbL, eqCs, eqC, List.drop_one, List.tail_cons, lim, lk63, lk66, lk67, lk68]
      rw [findR, h] at hf
      simp only [Bool.false_eq_true, if_false] at hf
      refine ⟨(n, roundF (stepsL p.r p.st p.bk) q), hf, Nat.lt_succ_self n, ?_⟩
      refine ent_weaken [AB.cells (numsC 41 q.far), AB.cells [.ptr 3 0], AB.gone, AB.lp { state := .exhausted, pend := none, slots := slF, nt := 52, ps := #[21], assign := A, body := Bd, D := 12 }] rfl rfl (show 6 ≤ 10 by decide) (HB_lowF p zf _ _) rfl ?_
      simp (config := { maxSteps := 2000000 }) only [go_sem, reduceIte, Nat.reduceEqDiff, Nat.reduceAdd, Nat.reduceLT, Nat.reduceLeDiff, Nat.reduceBEq, Nat.reduceMul, Nat.reduceSub, Nat.reduceDiv, Int.reduceNeg, Int.reduceLT, Int.reduceLE, Int.reduceEq, Int.reduceToNat, fillC, zc, List.replicate_succ, List.replicate_zero, List.flatten_cons, List.flatten_nil, toDs, toD, chunk, placeS, srcRows, List.all_cons, List.all_nil, List.all_map, Function.comp_def, List.take_nil, List.drop_nil, List.toList_toArray, C.eqbL, eqCs, eqC, List.drop_one, List.tail_cons, lim, lk63, lk66, lk67, lk68]
end Go.Proofs.YteamgbndnfjoaaaDoor
