/- Dyes: Table. -/
import Derived.Test.YtkbnmanfoejoiaaD19
import Derived.Test.YtkbnmanfoejoiaaD9a
set_option linter.unusedSimpArgs false
set_option linter.unusedVariables false
set_option maxRecDepth 100000
namespace Go.Proofs.Ytkbnmanfoejoiaa
open Go Go.Abs Go.Proofs
def kp28 : List (Nat × List Nat) := [(0, [0, 1]), (1, [0, 1, 6]), (2, [0, 1, 6, 15]), (3, [4, 5]), (4, [0, 1, 19]), (5, [4, 5]), (6, [0, 1, 7]), (7, [0, 7]), (8, [0, 7, 8]), (9, [7, 8, 27, 28]), (10, [7, 8, 27, 28, 29]), (11, [7, 8, 9, 27, 28]), (12, [7, 8, 27, 28, 36, 37]), (13, [7, 8, 27, 28, 36, 37, 38]), (14, [7, 8, 11, 27, 28, 36, 37]), (15, [7, 8, 27, 28, 36, 37]), (16, [7, 8, 27, 28, 36, 37]), (17, [7, 8, 27, 28]), (18, [4, 5])]
theorem lk28 : lookK kp28 0 = some [0, 1] ∧ lookK kp28 1 = some [0, 1, 6] ∧ lookK kp28 2 = some [0, 1, 6, 15] ∧ lookK kp28 3 = some [4, 5] ∧ lookK kp28 4 = some [0, 1, 19] ∧ lookK kp28 5 = some [4, 5] ∧ lookK kp28 6 = some [0, 1, 7] ∧ lookK kp28 7 = some [0, 7] ∧ lookK kp28 8 = some [0, 7, 8] ∧ lookK kp28 9 = some [7, 8, 27, 28] ∧ lookK kp28 10 = some [7, 8, 27, 28, 29] ∧ lookK kp28 11 = some [7, 8, 9, 27, 28] ∧ lookK kp28 12 = some [7, 8, 27, 28, 36, 37] ∧ lookK kp28 13 = some [7, 8, 27, 28, 36, 37, 38] ∧ lookK kp28 14 = some [7, 8, 11, 27, 28, 36, 37] ∧ lookK kp28 15 = some [7, 8, 27, 28, 36, 37] ∧ lookK kp28 16 = some [7, 8, 27, 28, 36, 37] ∧ lookK kp28 17 = some [7, 8, 27, 28] ∧ lookK kp28 18 = some [4, 5] := ⟨rfl, rfl, rfl, rfl, rfl, rfl, rfl, rfl, rfl, rfl, rfl, rfl, rfl, rfl, rfl, rfl, rfl, rfl, rfl⟩

def tabP (l : List Dy) (q : Int) (m : Nat) : List Int := (List.range m).map (fillF l q l.length)
theorem tabP_len (l : List Dy) (q : Int) (m : Nat) : (tabP l q m).length = m := by simp [tabP]
theorem tabP_add (l : List Dy) (q : Int) (m k : Nat) : tabP l q (m + k) = tabP l q m ++ (List.range k).map fun j => fillF l q l.length (m + j) := by
  simp [tabP, List.range_add, Function.comp_def]
theorem toDs_nums (n : Nat) (f : Nat → Int) : toDs (numsC n f) = some (numsD n f) := by rw [numsC_d]; exact toDs_d _
theorem src_row (b0 b1 : AB) (n : Nat) (f : Nat → Int) : srcRows [b0, b1, .cells (numsC n f)] 1 (.ms 2 0 n n) = some ((List.range n).map fun j => iD (f j)) := by
  have h := chunk_nums n f
  simp only [srcRows, List.getElem?_cons_succ, List.getElem?_cons_zero]
  rw [if_pos (by rw [numsC_len]; omega), Nat.mul_one, List.drop_zero, take_full, toDs_nums, Option.map_some, h]
set_option maxHeartbeats 4000000 in
theorem table28 (l : List Dy) (q : Int) : Pure Try.prog 28 [dys l, I q] (.tup [ints (tabL l q), I (tabE l q)]) := by
  refine pure_wkE (bad := [10014]) (kp := kp28) (X := tx) (nt := 46) (rs := [.tmp 4, .tmp 5]) Try.func28 rfl rfl rfl rfl mo (by kernel_rfl) rfl rfl (fun hf => ?_)
  simp (maxSteps := 2000000) only [go_sem, reduceIte, Nat.reduceEqDiff, Nat.reduceAdd, Nat.reduceBEq, lk28]
  refine aops_pure' (shelf18 l) rfl rfl (by first | exact wk_refls _ | (repeat constructor)) ?_
  by_cases h0 : okShelf l = 0
  case neg =>
    have e : tabE l q = okShelf l := by unfold tabE; rw [if_neg h0]
    have e2 : tabL l q = [] := by unfold tabL; rw [e, if_neg h0]
    simp (maxSteps := 2000000) only [go_sem, reduceIte, Nat.reduceEqDiff, Nat.reduceAdd, Nat.reduceBEq, lk28, h0, e, e2, ints]
    all_goals first | exact .refl _ | exact ⟨.refl _, .refl _⟩ | exact ⟨.refl _, .refl _, .refl _⟩ | exact ⟨.refl _, _, rfl⟩ | exact ⟨_, rfl⟩ | exact ⟨.refl _, [], by simp⟩ | exact ⟨[], by simp⟩
  have hl := (okShelf_iff l).1 h0
  simp (maxSteps := 2000000) only [go_sem, reduceIte, Nat.reduceEqDiff, Nat.reduceAdd, Nat.reduceBEq, lk28, h0]
  refine aops_pure' (fast49 q) rfl rfl (by first | exact wk_refls _ | (repeat constructor)) ?_
  cases hfq : fastB q with
  | false =>
    have e : tabE l q = 2 := by unfold tabE; rw [if_pos h0, hfq]; rfl
    have e2 : tabL l q = [] := by unfold tabL; rw [e]; rfl
    simp (maxSteps := 2000000) only [go_sem, reduceIte, Nat.reduceEqDiff, Nat.reduceAdd, Nat.reduceBEq, lk28, e, e2, ints]
    all_goals first | exact .refl _ | exact ⟨.refl _, .refl _⟩ | exact ⟨.refl _, .refl _, .refl _⟩ | exact ⟨.refl _, _, rfl⟩ | exact ⟨_, rfl⟩ | exact ⟨.refl _, [], by simp⟩ | exact ⟨[], by simp⟩
  | true =>
  have e : tabE l q = 0 := by unfold tabE; rw [if_pos h0, hfq]; rfl
  have e2 : tabL l q = tabP l q ((l.length + 1) * 441) := by unfold tabL; rw [e, if_pos rfl, costsL_eq hl]; rfl
  have hb := bench51 l []
  have hff := fill52a l (fun _ => 0) 0 q hl
  have h8 := hl.n8
  simp (maxSteps := 2000000) only [go_sem, lk28, List.nil_append] at hb hff
  simp (maxSteps := 2000000) only [go_sem, reduceIte, Nat.reduceEqDiff, Nat.reduceAdd, Nat.reduceBEq, lk28]
  refine aops_at (hb) rfl rfl (by first | exact wk_refls _ | (repeat constructor)) ?_
  simp (maxSteps := 2000000) only [go_sem, reduceIte, Nat.reduceEqDiff, lk28]
  refine aops_at (hff) rfl rfl (by first | exact wk_refls _ | (repeat constructor)) ?_
  simp (maxSteps := 2000000) only [go_sem, reduceIte, Nat.reduceEqDiff, lk28, dys]
  have wl : wr .i64 ((l.length : Int) + 1) = ((l.length + 1 : Nat) : Int) := by rw [wr_in (by omega)]; omega
  simp (maxSteps := 2000000) only [go_sem, lk28, wl]
  refine goE_loop (bad := [10014]) (kp := kp28) (fun i : Nat => { slots := [(7, .c (.ptr 0 0)), (8, .c (.own 1 ((tabP l q (i * 441)).map iD))), (27, I ((l.length + 1 : Nat) : Int)), (28, I i)], heap := [.cells (benchC l (fillF l q l.length) q), .grow (i * 441) 1], marks := [] }) (fun i => i ≤ l.length + 1) (fun i => l.length + 1 - i) 0 mo (by kernel_rfl) ?_ (Nat.zero_le _) ?_
  · refine Ent.trans (ent_own 8 1 rfl) ?_
    refine ent_weaken [] rfl rfl (Nat.zero_le _) (by simp [AB.low, bench_low]) rfl ?_
    simp (maxSteps := 2000000) only [go_sem, reduceIte, Nat.reduceEqDiff, Nat.reduceAdd, Nat.reduceLT, lk28, tabP, List.range_zero, Nat.zero_mul]
    all_goals first | exact .refl _ | exact ⟨.refl _, .refl _⟩ | exact ⟨.refl _, .refl _, .refl _⟩ | exact ⟨.refl _, _, rfl⟩ | exact ⟨_, rfl⟩ | exact ⟨.refl _, [], by simp⟩ | exact ⟨[], by simp⟩
  rintro i hi
  simp (maxSteps := 2000000) only [go_sem, reduceIte, Nat.reduceEqDiff, Nat.reduceAdd, Nat.reduceBEq, lk28]
  by_cases hlt : i < l.length + 1
  case neg =>
    have hlt' : ¬ (i : Int) < ((l.length + 1 : Nat) : Int) := by omega
    have ei : i = l.length + 1 := by omega
    subst ei
    simp (maxSteps := 2000000) only [go_sem, reduceIte, Nat.reduceEqDiff, Nat.reduceAdd, Nat.reduceBEq, lk28, hlt', e, e2, ints]
    all_goals first | exact .refl _ | exact ⟨.refl _, .refl _⟩ | exact ⟨.refl _, .refl _, .refl _⟩ | exact ⟨.refl _, _, rfl⟩ | exact ⟨_, rfl⟩ | exact ⟨.refl _, [], by simp⟩ | exact ⟨[], by simp⟩
  have hlt' : (i : Int) < ((l.length + 1 : Nat) : Int) := by omega
  have i9 : (i : Int) < 9 := by omega
  have hrow := bench_rowi (l := l) (f := fillF l q l.length) (q := q) (i := i) (by omega)
  have c1 : decide (1 + i * 441 + 441 ≤ 3971) = true := by simp; omega
  have c1' : decide (1 + i * 441 ≤ 3530) = true := by simp; omega
  simp (maxSteps := 2000000) only [go_sem, reduceIte, Nat.reduceEqDiff, Nat.reduceAdd, Nat.reduceLeDiff, Nat.reduceBEq, lk28, hlt', nn, i9, hrow, bench_len, c1, c1']
  refine goE_loop (bad := [10014]) (kp := kp28) (fun j : Nat => { slots := [(7, .c (.ptr 0 0)), (8, .c (.own 1 ((tabP l q (i * 441 + j * 21)).map iD))), (27, I ((l.length + 1 : Nat) : Int)), (28, I i), (36, .agg (numsC 441 fun j => fillF l q l.length (i * 441 + j))), (37, I j)], heap := [.cells (benchC l (fillF l q l.length) q), .grow (i * 441 + j * 21) 1], marks := [] }) (fun j => j ≤ 21) (fun j => 21 - j) 0 mo (by kernel_rfl) ?_ (Nat.zero_le _) ?_
  · refine ent_weaken [] rfl rfl (Nat.zero_le _) (by simp [AB.low, bench_low]) rfl ?_
    simp (maxSteps := 2000000) only [go_sem, reduceIte, Nat.reduceEqDiff, Nat.reduceAdd, Nat.reduceLT, lk28, Nat.zero_mul, Nat.add_zero]
    all_goals first | exact .refl _ | exact ⟨.refl _, .refl _⟩ | exact ⟨.refl _, .refl _, .refl _⟩ | exact ⟨.refl _, _, rfl⟩ | exact ⟨_, rfl⟩ | exact ⟨.refl _, [], by simp⟩ | exact ⟨[], by simp⟩
  rintro j hj
  simp (maxSteps := 2000000) only [go_sem, reduceIte, Nat.reduceEqDiff, Nat.reduceAdd, Nat.reduceBEq, lk28]
  by_cases hltj : j < 21
  case neg =>
    have hltj' : ¬ (j : Int) < 21 := by omega
    have ej : j = 21 := by omega
    subst ej
    have w7 : wr .i64 ((i : Int) + 1) = ((i + 1 : Nat) : Int) := wr_succ hlt (by omega)
    have m1 : l.length + 1 - (i + 1) < l.length + 1 - i := by omega
    have e441 : (i + 1) * 441 = i * 441 + 441 := by omega
    simp (maxSteps := 2000000) only [go_sem, reduceIte, Nat.reduceEqDiff, Nat.reduceAdd, Nat.reduceBEq, Nat.reduceMul, Nat.reduceSub, Int.reduceLT, lk28, hltj', w7]
    refine ⟨i + 1, hlt, m1, ?_⟩
    refine ent_weaken [] (by rw [e441]; rfl) rfl (Nat.zero_le _) (by simp [AB.low, bench_low]) rfl ?_
    simp (maxSteps := 2000000) only [go_sem, reduceIte, Nat.reduceEqDiff, Nat.reduceAdd, Nat.reduceLT, lk28, e441]
    all_goals first | exact .refl _ | exact ⟨.refl _, .refl _⟩ | exact ⟨.refl _, .refl _, .refl _⟩ | exact ⟨.refl _, _, rfl⟩ | exact ⟨_, rfl⟩ | exact ⟨.refl _, [], by simp⟩ | exact ⟨[], by simp⟩
  have hltj' : (j : Int) < 21 := by omega
  have hrow2 := numsC_take (n := 441) (m := 21) (k := j * 21) (f := fun j => fillF l q l.length (i * 441 + j)) (by omega)
  have c2 : decide (j * 21 + 21 ≤ 441) = true := by simp; omega
  have c2' : decide (j * 21 ≤ 420) = true := by simp; omega
  simp (maxSteps := 2000000) only [go_sem, reduceIte, Nat.reduceEqDiff, Nat.reduceAdd, Nat.reduceLeDiff, Nat.reduceBEq, lk28, hltj', nn, hrow2, numsC_len, c2, zero_nums, set_full]
  refine ⟨c2', stop_mk { slots := [(7, .c (.ptr 0 0)), (8, .c (.own 1 ((tabP l q (i * 441 + j * 21)).map iD))), (11, .c (.ptr 2 0)), (27, I ((l.length + 1 : Nat) : Int)), (28, I i), (36, .agg (numsC 441 fun j => fillF l q l.length (i * 441 + j))), (37, I j)], heap := [.cells (benchC l (fillF l q l.length) q), .grow (i * 441 + j * 21) 1, .cells (numsC 21 fun m => fillF l q l.length (i * 441 + (j * 21 + m)))], marks := [] } Ent.refl ?_⟩
  obtain ⟨row, hsr, hall, hlen, hta⟩ : ∃ row : List (List D), (∀ b0 b1, srcRows [b0, b1, .cells (numsC 21 fun m => fillF l q l.length (i * 441 + (j * 21 + m)))] 1 (.ms 2 0 21 21) = some row) ∧ row.all (fun r => r.length == 1) = true ∧ row.length = 21 ∧ (tabP l q (i * 441 + j * 21 + 21)).map iD = (tabP l q (i * 441 + j * 21)).map iD ++ row := by
    refine ⟨_, fun b0 b1 => src_row b0 b1 21 _, by simp [iD], by simp, ?_⟩
    rw [tabP_add, List.map_append, List.map_map]
    simp only [Nat.add_assoc]
    rfl
  have htl := tabP_len l q (i * 441 + j * 21)
  have m1 : 21 - (j + 1) < 21 - j := by omega
  have ej : i * 441 + (j + 1) * 21 = i * 441 + j * 21 + 21 := by omega
  have w7 : wr .i64 ((j : Int) + 1) = ((j + 1 : Nat) : Int) := wr_succ hltj (by decide)
  simp (maxSteps := 2000000) only [go_sem, reduceIte, Nat.reduceEqDiff, Nat.reduceAdd, Nat.reduceLT, Nat.reduceLeDiff, Nat.reduceBEq, lk28, ↓hsr, htl, w7, hall, hlen]
  refine ⟨?_, j + 1, hltj, m1, ?_⟩
  · clear w7 wl
    simp [iD]; omega
  refine ent_weaken [.cells (numsC 21 fun m => fillF l q l.length (i * 441 + (j * 21 + m)))] (by rw [ej]; rfl) rfl (Nat.zero_le _) (by simp [AB.low, bench_low]) rfl ?_
  rw [ej]
  simp (maxSteps := 2000000) only [go_sem, reduceIte, Nat.reduceEqDiff, Nat.reduceAdd, Nat.reduceLT, lk28, hta]
  all_goals first | exact .refl _ | exact ⟨.refl _, .refl _⟩ | exact ⟨.refl _, .refl _, .refl _⟩ | exact ⟨.refl _, _, rfl⟩ | exact ⟨_, rfl⟩ | exact ⟨.refl _, [], by simp⟩ | exact ⟨[], by simp⟩
end Go.Proofs.Ytkbnmanfoejoiaa
