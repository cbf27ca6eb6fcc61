/- The reference of chapter 5, walked: All, Seen, See, Tells, CheckClash, Cases. -/
import Derived.Test.YtklmpopomokglaaU4
set_option linter.unusedSimpArgs false
set_option linter.unusedVariables false
namespace Go.Proofs.Ytklmpopomokglaa
open Go Go.Abs Go.Proofs

structure OkP (n : Int) (rows : List (List Int)) : Prop where
  len : rows.length ≤ 4
  n1 : 1 ≤ n
  n39 : n ≤ 39
  eql : ∀ r ∈ rows, (r.length : Int) = n
  rng : ∀ r ∈ rows, ∀ x ∈ r, -1 ≤ x ∧ x ≤ 1
  sum : ∀ r ∈ rows, r.sum = 0
theorem okPlan_ok {n : Int} {rows : List (List Int)} (h : okPlan n rows = 0) : OkP n rows := by
  unfold okPlan at h
  split at h
  · simp at h
  split at h
  · simp at h
  split at h
  · simp at h
  split at h
  · simp at h
  split at h
  · simp at h
  rename_i h1 h2 h3 h4 h5
  refine ⟨by omega, by omega, by omega, fun r hr => ?_, fun r hr x hx => ?_, fun r hr => ?_⟩
  · simp at h3; exact h3 r hr
  · have := h4
    simp only [List.any_eq_true, not_exists, not_and] at this
    have := this r hr x hx
    simp at this; omega
  · simp at h5; exact h5 r hr
theorem OkP.zero {n : Int} {rows : List (List Int)} (h : OkP n rows) : okPlan n rows = 0 := by
  have h1 : rows.any (fun r => decide ((r.length : Int) ≠ n)) = false := by
    rw [List.any_eq_false]; intro r hr; simp [h.eql r hr]
  have h2 : rows.any (fun r => r.any (fun x => decide (x < -1 ∨ 1 < x))) = false := by
    rw [List.any_eq_false]; intro r hr; rw [Bool.not_eq_true, List.any_eq_false]; intro x hx; have := h.rng r hr x hx; simp; omega
  have h3 : rows.any (fun r => decide (r.sum ≠ 0)) = false := by
    rw [List.any_eq_false]; intro r hr; simp [h.sum r hr]
  have := h.len; have := h.n1; have := h.n39
  simp only [okPlan, h1, h2, h3]
  rw [if_neg (by omega), if_neg (by omega)]; simp

structure OkC (n : Int) (c : Int × Int) : Prop where
  lo : 0 ≤ c.1
  hi : c.1 < n
  slo : -1 ≤ c.2
  shi : c.2 ≤ 1
theorem isCase_ok {n : Int} {c : Int × Int} (h1 : 1 ≤ n) (h : isCase n c = true) : OkC n c := by
  unfold isCase at h
  split at h
  · simp at h; exact ⟨by omega, by omega, by omega, by omega⟩
  · simp at h; exact ⟨by omega, by omega, by omega, by omega⟩

def at' (r : List Int) (c : Int) : Int := (r[c.toNat]?).getD 0
def seenL (rows : List (List Int)) (c : Int × Int) : List Int := rows.map (fun r => c.2 * at' r c.1)
theorem at_bound {n : Int} {rows : List (List Int)} (h : OkP n rows) {r : List Int} (hr : r ∈ rows) (c : Int) : -1 ≤ at' r c ∧ at' r c ≤ 1 := by
  unfold at'
  cases hx : r[c.toNat]? with
  | none => simp
  | some x => simpa using h.rng r hr x (List.mem_of_getElem? hx)
theorem mul3 {s x : Int} (h1 : -1 ≤ s) (h2 : s ≤ 1) (h3 : -1 ≤ x) (h4 : x ≤ 1) : -1 ≤ s * x ∧ s * x ≤ 1 := by
  have : s = -1 ∨ s = 0 ∨ s = 1 := by omega
  rcases this with rfl | rfl | rfl <;> omega

set_option maxHeartbeats 1000000 in
theorem seen41 (n : Int) (rows : List (List Int)) (c : Int × Int) (hp : OkP n rows) (hc : OkC n c) : Pure Try.prog 41 [planV n rows, caseV c] (ints (seenL rows c)) := by
  refine pure_wk (X := tx) (nt := 30) (rs := [.tmp 4]) Try.func41 rfl rfl rfl rfl mo (by kernel_rfl) rfl rfl (fun hf => ?_)
  have h4 := hp.len
  simp only [go_sem, reduceIte, Nat.reduceEqDiff, Nat.reduceAdd, Nat.reduceLT, Nat.reduceLeDiff, Nat.reduceBEq, Nat.reduceMul, Nat.reduceSub, Int.reduceNeg, Int.reduceLT, Int.reduceLE, Int.reduceEq, Int.reduceToNat, fillC, zc, List.replicate_succ, List.replicate_zero, List.flatten_cons, List.flatten_nil, toDs, toD, chunk, placeS, srcRows, List.all_cons, List.all_nil, List.all_map, Function.comp_def, List.take_nil, List.drop_nil, List.toList_toArray, C.eqbL, eqCs, eqC, List.drop_one, List.tail_cons, lim, tt3, tt4, tt5, tt22, tt24, tt29, tt26, tt30, tt36, ti3, ti22, ti29, ti26, eq26, planV, planC, caseV, cC]
  refine go_loop (fun i : Nat => { slots := [(2, .c (.ptr 0 0)), (3, .c (.ptr 1 0)), (5, .c (.own 2 (((seenL rows c).take i).map iD))), (6, I i)], heap := [.cells (planC n rows), .cells (cC c), .grow i 1], marks := [] }) (fun i => i ≤ rows.length) (fun i => rows.length - i) 0 mo (by kernel_rfl) ?_ (Nat.zero_le _) ?_
  · refine Ent.trans (ent_own 5 1 rfl) ?_
    refine ent_weaken [] rfl rfl (Nat.zero_le _) rfl rfl ?_
    simp only [go_sem, reduceIte, Nat.reduceEqDiff, Nat.reduceAdd, Nat.reduceLT, Nat.reduceLeDiff, Nat.reduceBEq, Nat.reduceMul, Nat.reduceSub, Int.reduceNeg, Int.reduceLT, Int.reduceLE, Int.reduceEq, Int.reduceToNat, fillC, zc, List.replicate_succ, List.replicate_zero, List.flatten_cons, List.flatten_nil, toDs, toD, chunk, placeS, srcRows, List.all_cons, List.all_nil, List.all_map, Function.comp_def, List.take_nil, List.drop_nil, List.toList_toArray, C.eqbL, eqCs, eqC, List.drop_one, List.tail_cons, lim, tt3, tt4, tt5, tt22, tt24, tt29, tt26, tt30, tt36, ti3, ti22, ti29, ti26, eq26, planC, cC]
    exact .refl _
  rintro i hi
  simp only [go_sem, reduceIte, Nat.reduceEqDiff, Nat.reduceAdd, Nat.reduceLT, Nat.reduceLeDiff, Nat.reduceBEq, Nat.reduceMul, Nat.reduceSub, Int.reduceNeg, Int.reduceLT, Int.reduceLE, Int.reduceEq, Int.reduceToNat, fillC, zc, List.replicate_succ, List.replicate_zero, List.flatten_cons, List.flatten_nil, toDs, toD, chunk, placeS, srcRows, List.all_cons, List.all_nil, List.all_map, Function.comp_def, List.take_nil, List.drop_nil, List.toList_toArray, C.eqbL, eqCs, eqC, List.drop_one, List.tail_cons, lim, tt3, tt4, tt5, tt22, tt24, tt29, tt26, tt30, tt36, ti3, ti22, ti29, ti26, eq26, planC, cC]
  refine go_if (fun h => ?_) (fun h => ?_)
  · have hlt : i < rows.length := by simpa using h
    obtain ⟨r, hr⟩ := get_of_lt hlt
    have hrm := List.mem_of_getElem? hr
    have hrn : c.1.toNat < r.length := by have := hp.eql r hrm; have := hc.lo; have := hc.hi; omega
    obtain ⟨x, hx⟩ := get_of_lt hrn
    have hxb := hp.rng r hrm x (List.mem_of_getElem? hx)
    have hmb := mul3 hc.slo hc.shi hxb.1 hxb.2
    have hw : wr .i64 (c.2 * x) = c.2 * x := by rw [wr_i64] <;> omega
    have hs : (seenL rows c).take (i + 1) = (seenL rows c).take i ++ [c.2 * x] := take_succ_eq (by simp [seenL, hr, at', hx])
    have hl : ((seenL rows c).take i).length = i := by simp [seenL]; omega
    have h0 := hc.lo
    simp only [go_sem, reduceIte, Nat.reduceEqDiff, Nat.reduceAdd, Nat.reduceLT, Nat.reduceLeDiff, Nat.reduceBEq, Nat.reduceMul, Nat.reduceSub, Int.reduceNeg, Int.reduceLT, Int.reduceLE, Int.reduceEq, Int.reduceToNat, fillC, zc, List.replicate_succ, List.replicate_zero, List.flatten_cons, List.flatten_nil, toDs, toD, chunk, placeS, srcRows, List.all_cons, List.all_nil, List.all_map, Function.comp_def, List.take_nil, List.drop_nil, List.toList_toArray, C.eqbL, eqCs, eqC, List.drop_one, List.tail_cons, lim, tt3, tt4, tt5, tt22, tt24, tt29, tt26, tt30, tt36, ti3, ti22, ti29, ti26, eq26, hr, rD, hx, iD, hw, hl, srcRows]
    refine ⟨by simp [hlt], by simp; omega, by simp; omega, i + 1, hlt, by omega, ?_⟩
    refine ent_weaken [] rfl rfl (Nat.zero_le _) rfl rfl ?_
    simp only [go_sem, reduceIte, Nat.reduceEqDiff, Nat.reduceAdd, Nat.reduceLT, Nat.reduceLeDiff, Nat.reduceBEq, Nat.reduceMul, Nat.reduceSub, Int.reduceNeg, Int.reduceLT, Int.reduceLE, Int.reduceEq, Int.reduceToNat, fillC, zc, List.replicate_succ, List.replicate_zero, List.flatten_cons, List.flatten_nil, toDs, toD, chunk, placeS, srcRows, List.all_cons, List.all_nil, List.all_map, Function.comp_def, List.take_nil, List.drop_nil, List.toList_toArray, C.eqbL, eqCs, eqC, List.drop_one, List.tail_cons, lim, tt3, tt4, tt5, tt22, tt24, tt29, tt26, tt30, tt36, ti3, ti22, ti29, ti26, eq26, hs, iD, List.map_append, wr_succ hlt (show rows.length ≤ 140737488355328 by omega)]
  · have hi' : i = rows.length := by simp at h; omega
    have e : (seenL rows c).take i = seenL rows c := List.take_of_length_le (by simp [seenL]; omega)
    simp only [go_sem, reduceIte, Nat.reduceEqDiff, Nat.reduceAdd, Nat.reduceLT, Nat.reduceLeDiff, Nat.reduceBEq, Nat.reduceMul, Nat.reduceSub, Int.reduceNeg, Int.reduceLT, Int.reduceLE, Int.reduceEq, Int.reduceToNat, fillC, zc, List.replicate_succ, List.replicate_zero, List.flatten_cons, List.flatten_nil, toDs, toD, chunk, placeS, srcRows, List.all_cons, List.all_nil, List.all_map, Function.comp_def, List.take_nil, List.drop_nil, List.toList_toArray, C.eqbL, eqCs, eqC, List.drop_one, List.tail_cons, lim, tt3, tt4, tt5, tt22, tt24, tt29, tt26, tt30, tt36, ti3, ti22, ti29, ti26, eq26, e, ints, iD]

set_option maxHeartbeats 1000000 in
theorem see17_ok (n : Int) (rows : List (List Int)) (c : Int × Int) (hp : OkP n rows) (hc : isCase n c = true) : Pure Try.prog 17 [planV n rows, caseV c] (.tup [ints (seenL rows c), I 0]) := by
  refine pure_wk (X := tx) (nt := 18) (rs := [.tmp 4, .tmp 5]) Try.func17 rfl rfl rfl rfl mo (by kernel_rfl) rfl rfl (fun hf => ?_)
  simp only [go_sem, reduceIte, Nat.reduceEqDiff, Nat.reduceAdd, Nat.reduceLT, Nat.reduceLeDiff, Nat.reduceBEq, Nat.reduceMul, Nat.reduceSub, Int.reduceNeg, Int.reduceLT, Int.reduceLE, Int.reduceEq, Int.reduceToNat, fillC, zc, List.replicate_succ, List.replicate_zero, List.flatten_cons, List.flatten_nil, toDs, toD, chunk, placeS, srcRows, List.all_cons, List.all_nil, List.all_map, Function.comp_def, List.take_nil, List.drop_nil, List.toList_toArray, C.eqbL, eqCs, eqC, List.drop_one, List.tail_cons, lim, tt3, tt4, tt5, tt22, tt24, tt29, tt26, tt30, tt36, ti3, ti22, ti29, ti26, eq26, planV, planC, caseV, cC]
  refine aops_pure' (refCheckPlan_pure n rows) rfl rfl (by first | exact wk_refls _ | (repeat constructor)) ?_
  simp only [go_sem, reduceIte, Nat.reduceEqDiff, Nat.reduceAdd, Nat.reduceLT, Nat.reduceLeDiff, Nat.reduceBEq, Nat.reduceMul, Nat.reduceSub, Int.reduceNeg, Int.reduceLT, Int.reduceLE, Int.reduceEq, Int.reduceToNat, fillC, zc, List.replicate_succ, List.replicate_zero, List.flatten_cons, List.flatten_nil, toDs, toD, chunk, placeS, srcRows, List.all_cons, List.all_nil, List.all_map, Function.comp_def, List.take_nil, List.drop_nil, List.toList_toArray, C.eqbL, eqCs, eqC, List.drop_one, List.tail_cons, lim, tt3, tt4, tt5, tt22, tt24, tt29, tt26, tt30, tt36, ti3, ti22, ti29, ti26, eq26, hp.zero]
  refine aops_pure' (isCase_pure n rows c) rfl rfl (by first | exact wk_refls _ | (repeat constructor)) ?_
  simp only [go_sem, reduceIte, Nat.reduceEqDiff, Nat.reduceAdd, Nat.reduceLT, Nat.reduceLeDiff, Nat.reduceBEq, Nat.reduceMul, Nat.reduceSub, Int.reduceNeg, Int.reduceLT, Int.reduceLE, Int.reduceEq, Int.reduceToNat, fillC, zc, List.replicate_succ, List.replicate_zero, List.flatten_cons, List.flatten_nil, toDs, toD, chunk, placeS, srcRows, List.all_cons, List.all_nil, List.all_map, Function.comp_def, List.take_nil, List.drop_nil, List.toList_toArray, C.eqbL, eqCs, eqC, List.drop_one, List.tail_cons, lim, tt3, tt4, tt5, tt22, tt24, tt29, tt26, tt30, tt36, ti3, ti22, ti29, ti26, eq26, hc]
  refine aops_pure' (seen41 n rows c hp (isCase_ok hp.n1 hc)) rfl rfl (by first | exact wk_refls _ | (repeat constructor)) ?_
  simp only [go_sem, reduceIte, Nat.reduceEqDiff, Nat.reduceAdd, Nat.reduceLT, Nat.reduceLeDiff, Nat.reduceBEq, Nat.reduceMul, Nat.reduceSub, Int.reduceNeg, Int.reduceLT, Int.reduceLE, Int.reduceEq, Int.reduceToNat, fillC, zc, List.replicate_succ, List.replicate_zero, List.flatten_cons, List.flatten_nil, toDs, toD, chunk, placeS, srcRows, List.all_cons, List.all_nil, List.all_map, Function.comp_def, List.take_nil, List.drop_nil, List.toList_toArray, C.eqbL, eqCs, eqC, List.drop_one, List.tail_cons, lim, tt3, tt4, tt5, tt22, tt24, tt29, tt26, tt30, tt36, ti3, ti22, ti29, ti26, eq26]
set_option maxHeartbeats 1000000 in
theorem see17_no (n : Int) (rows : List (List Int)) (c : Int × Int) (hp : OkP n rows) (hc : isCase n c = false) : Pure Try.prog 17 [planV n rows, caseV c] (.tup [ints [], I 3]) := by
  refine pure_wk (X := tx) (nt := 18) (rs := [.tmp 4, .tmp 5]) Try.func17 rfl rfl rfl rfl mo (by kernel_rfl) rfl rfl (fun hf => ?_)
  simp only [go_sem, reduceIte, Nat.reduceEqDiff, Nat.reduceAdd, Nat.reduceLT, Nat.reduceLeDiff, Nat.reduceBEq, Nat.reduceMul, Nat.reduceSub, Int.reduceNeg, Int.reduceLT, Int.reduceLE, Int.reduceEq, Int.reduceToNat, fillC, zc, List.replicate_succ, List.replicate_zero, List.flatten_cons, List.flatten_nil, toDs, toD, chunk, placeS, srcRows, List.all_cons, List.all_nil, List.all_map, Function.comp_def, List.take_nil, List.drop_nil, List.toList_toArray, C.eqbL, eqCs, eqC, List.drop_one, List.tail_cons, lim, tt3, tt4, tt5, tt22, tt24, tt29, tt26, tt30, tt36, ti3, ti22, ti29, ti26, eq26, planV, planC, caseV, cC]
  refine aops_pure' (refCheckPlan_pure n rows) rfl rfl (by first | exact wk_refls _ | (repeat constructor)) ?_
  simp only [go_sem, reduceIte, Nat.reduceEqDiff, Nat.reduceAdd, Nat.reduceLT, Nat.reduceLeDiff, Nat.reduceBEq, Nat.reduceMul, Nat.reduceSub, Int.reduceNeg, Int.reduceLT, Int.reduceLE, Int.reduceEq, Int.reduceToNat, fillC, zc, List.replicate_succ, List.replicate_zero, List.flatten_cons, List.flatten_nil, toDs, toD, chunk, placeS, srcRows, List.all_cons, List.all_nil, List.all_map, Function.comp_def, List.take_nil, List.drop_nil, List.toList_toArray, C.eqbL, eqCs, eqC, List.drop_one, List.tail_cons, lim, tt3, tt4, tt5, tt22, tt24, tt29, tt26, tt30, tt36, ti3, ti22, ti29, ti26, eq26, hp.zero]
  refine aops_pure' (isCase_pure n rows c) rfl rfl (by first | exact wk_refls _ | (repeat constructor)) ?_
  simp only [go_sem, reduceIte, Nat.reduceEqDiff, Nat.reduceAdd, Nat.reduceLT, Nat.reduceLeDiff, Nat.reduceBEq, Nat.reduceMul, Nat.reduceSub, Int.reduceNeg, Int.reduceLT, Int.reduceLE, Int.reduceEq, Int.reduceToNat, fillC, zc, List.replicate_succ, List.replicate_zero, List.flatten_cons, List.flatten_nil, toDs, toD, chunk, placeS, srcRows, List.all_cons, List.all_nil, List.all_map, Function.comp_def, List.take_nil, List.drop_nil, List.toList_toArray, C.eqbL, eqCs, eqC, List.drop_one, List.tail_cons, lim, tt3, tt4, tt5, tt22, tt24, tt29, tt26, tt30, tt36, ti3, ti22, ti29, ti26, eq26, hc, ints]
set_option maxHeartbeats 1000000 in
theorem see17_bad (n : Int) (rows : List (List Int)) (c : Int × Int) (hp : okPlan n rows ≠ 0) : Pure Try.prog 17 [planV n rows, caseV c] (.tup [ints [], I (okPlan n rows)]) := by
  refine pure_wk (X := tx) (nt := 18) (rs := [.tmp 4, .tmp 5]) Try.func17 rfl rfl rfl rfl mo (by kernel_rfl) rfl rfl (fun hf => ?_)
  simp only [go_sem, reduceIte, Nat.reduceEqDiff, Nat.reduceAdd, Nat.reduceLT, Nat.reduceLeDiff, Nat.reduceBEq, Nat.reduceMul, Nat.reduceSub, Int.reduceNeg, Int.reduceLT, Int.reduceLE, Int.reduceEq, Int.reduceToNat, fillC, zc, List.replicate_succ, List.replicate_zero, List.flatten_cons, List.flatten_nil, toDs, toD, chunk, placeS, srcRows, List.all_cons, List.all_nil, List.all_map, Function.comp_def, List.take_nil, List.drop_nil, List.toList_toArray, C.eqbL, eqCs, eqC, List.drop_one, List.tail_cons, lim, tt3, tt4, tt5, tt22, tt24, tt29, tt26, tt30, tt36, ti3, ti22, ti29, ti26, eq26, planV, planC, caseV, cC]
  refine aops_pure' (refCheckPlan_pure n rows) rfl rfl (by first | exact wk_refls _ | (repeat constructor)) ?_
  simp only [go_sem, reduceIte, Nat.reduceEqDiff, Nat.reduceAdd, Nat.reduceLT, Nat.reduceLeDiff, Nat.reduceBEq, Nat.reduceMul, Nat.reduceSub, Int.reduceNeg, Int.reduceLT, Int.reduceLE, Int.reduceEq, Int.reduceToNat, fillC, zc, List.replicate_succ, List.replicate_zero, List.flatten_cons, List.flatten_nil, toDs, toD, chunk, placeS, srcRows, List.all_cons, List.all_nil, List.all_map, Function.comp_def, List.take_nil, List.drop_nil, List.toList_toArray, C.eqbL, eqCs, eqC, List.drop_one, List.tail_cons, lim, tt3, tt4, tt5, tt22, tt24, tt29, tt26, tt30, tt36, ti3, ti22, ti29, ti26, eq26, hp]
  refine aops_pure' (refCheckPlan_pure n rows) rfl rfl (by first | exact wk_refls _ | (repeat constructor)) ?_
  simp only [go_sem, reduceIte, Nat.reduceEqDiff, Nat.reduceAdd, Nat.reduceLT, Nat.reduceLeDiff, Nat.reduceBEq, Nat.reduceMul, Nat.reduceSub, Int.reduceNeg, Int.reduceLT, Int.reduceLE, Int.reduceEq, Int.reduceToNat, fillC, zc, List.replicate_succ, List.replicate_zero, List.flatten_cons, List.flatten_nil, toDs, toD, chunk, placeS, srcRows, List.all_cons, List.all_nil, List.all_map, Function.comp_def, List.take_nil, List.drop_nil, List.toList_toArray, C.eqbL, eqCs, eqC, List.drop_one, List.tail_cons, lim, tt3, tt4, tt5, tt22, tt24, tt29, tt26, tt30, tt36, ti3, ti22, ti29, ti26, eq26, ints]
end Go.Proofs.Ytklmpopomokglaa
