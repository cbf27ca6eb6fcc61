/- Dyes: Cheapest. -/
import Derived.Test.YtkbnmanfoejoiaaNG
import Derived.Test.YtkbnmanfoejoiaaMK
import Derived.Test.YtkbnmanfoejoiaaAbsB
set_option linter.unusedSimpArgs false
set_option linter.unusedVariables false
set_option maxRecDepth 100000
namespace Go.Proofs.Ytkbnmanfoejoiaa
open Go Go.Abs Go.Proofs
def kp21 : List (Nat × List Nat) := [(0, [0, 3]), (1, [0, 3, 7]), (2, [0, 3, 7, 16]), (3, [4, 5, 6]), (4, [0, 3, 8]), (5, [0, 3, 8]), (6, [0, 8, 9, 10]), (7, [0, 8, 9, 10, 31]), (8, [4, 5, 6]), (9, [8, 9, 10, 11]), (10, [10, 11]), (11, [4, 5, 6])]
theorem lk21 : lookK kp21 0 = some [0, 3] ∧ lookK kp21 1 = some [0, 3, 7] ∧ lookK kp21 2 = some [0, 3, 7, 16] ∧ lookK kp21 3 = some [4, 5, 6] ∧ lookK kp21 4 = some [0, 3, 8] ∧ lookK kp21 5 = some [0, 3, 8] ∧ lookK kp21 6 = some [0, 8, 9, 10] ∧ lookK kp21 7 = some [0, 8, 9, 10, 31] ∧ lookK kp21 8 = some [4, 5, 6] ∧ lookK kp21 9 = some [8, 9, 10, 11] ∧ lookK kp21 10 = some [10, 11] ∧ lookK kp21 11 = some [4, 5, 6] := ⟨rfl, rfl, rfl, rfl, rfl, rfl, rfl, rfl, rfl, rfl, rfl, rfl⟩

theorem set_full (n : Nat) (f g : Nat → Int) : setMany (numsC n f) 0 (numsC n g) = numsC n g := set_all _ _ [] (by simp [numsC_len])
theorem take_full (n : Nat) (f : Nat → Int) : (numsC n f).take n = numsC n f := List.take_of_length_le (by rw [numsC_len]; exact Nat.le_refl _)
theorem min_same (n : Nat) : n.min n = n := Nat.min_self n
theorem len_le (n : Nat) (f : Nat → Int) : (0 + n * 1 ≤ (numsC n f).length) = True := by rw [numsC_len]; simp
theorem fz_nums {id n : Nat} {R : Nat → Int} (hn : n ≤ 140737488355328) : FzV id (numsD n R) (.c (.ms id 0 n n)) (ints (mkL n R)) := by
  have h := FzC.ms (id := id) (ds := numsD n R) 0 1 n n (by rw [numsD_len]; omega) (Nat.le_refl _) hn
  rw [List.drop_zero, chunk_nums] at h
  unfold ints mkL
  rw [List.map_map]
  exact .c h
theorem fz3 {id n : Nat} {R : Nat → Int} {a b : V} (hn : n ≤ 140737488355328) : FzT id (numsD n R) (.tup [.c (.ms id 0 n n), a, b]) (.tup [ints (mkL n R), a, b]) := .tup rfl fun i x y hx hy => by
  match i, hx, hy with
  | 0, hx, hy => simp at hx hy; subst hx; subst hy; exact fz_nums hn
  | 1, hx, hy => simp at hx hy; subst hx; subst hy; exact .same _
  | 2, hx, hy => simp at hx hy; subst hx; subst hy; exact .same _
  | i + 3, hx, hy => simp at hx
def chE (l : List Dy) (w : Wn) : Int := if okWn l w = 0 then (if costB l w = MX then 13 else 0) else okWn l w
def chC (l : List Dy) (w : Wn) : Int := if chE l w = 0 then costB l w else 0
def chR (l : List Dy) (w : Wn) : List Int := if chE l w = 0 then bestR l w else []
set_option maxHeartbeats 4000000 in
theorem cheapest21_bad (l : List Dy) (w : Wn) (h0 : okWn l w ≠ 0) : Pure Try.prog 21 [dys l, wnV w] (.tup [ints (chR l w), I (chC l w), I (chE l w)]) := by
  refine pure_wkE (bad := []) (kp := kp21) (X := tx) (nt := 42) (rs := [.tmp 4, .tmp 5, .tmp 6]) Try.func21 rfl rfl rfl rfl mo (by kernel_rfl) rfl rfl (fun hf => ?_)
  have e1 : chE l w = okWn l w := by unfold chE; rw [if_neg h0]
  have e2 : chC l w = 0 := by unfold chC; rw [e1, if_neg h0]
  have e3 : chR l w = [] := by unfold chR; rw [e1, if_neg h0]
  have hw := wanted43 l w
  unfold wnV wnC at hw
  simp (maxSteps := 2000000) only [go_sem, reduceIte, Nat.reduceEqDiff, Nat.reduceAdd, lk21, wnV, wnC]
  refine aops_pure' (hw) rfl rfl (by first | exact wk_refls _ | (repeat constructor)) ?_
  simp (maxSteps := 2000000) only [go_sem, reduceIte, Nat.reduceEqDiff, Nat.reduceAdd, lk21, h0, e1, e2, e3, ints]
  all_goals first | exact .refl _ | exact ⟨.refl _, .refl _⟩ | exact ⟨.refl _, .refl _, .refl _⟩ | exact ⟨.refl _, _, rfl⟩ | exact ⟨_, rfl⟩ | exact ⟨.refl _, [], by simp⟩ | exact ⟨[], by simp⟩
set_option maxHeartbeats 4000000 in
theorem cheapest21_none (l : List Dy) (w : Wn) (h0 : okWn l w = 0) (h1 : costB l w = MX) : Pure Try.prog 21 [dys l, wnV w] (.tup [ints (chR l w), I (chC l w), I (chE l w)]) := by
  refine pure_wkE (bad := []) (kp := kp21) (X := tx) (nt := 42) (rs := [.tmp 4, .tmp 5, .tmp 6]) Try.func21 rfl rfl rfl rfl mo (by kernel_rfl) rfl rfl (fun hf => ?_)
  obtain ⟨hl, hv⟩ := (okWn_iff l w).1 h0
  have e1 : chE l w = 13 := by unfold chE; rw [if_pos h0, if_pos h1]
  have e2 : chC l w = 0 := by unfold chC; rw [e1]; rfl
  have e3 : chR l w = [] := by unfold chR; rw [e1]; rfl
  have hw := wanted43 l w
  have hb := bench51 l [.cells (wnC w)]
  have hf := fill52b l w (fun _ => 0) 0 w.f hl
  have hbe := best53 l w w (fillF l w.f l.length) w.f hl hv
  have hc : bestC w (fillF l w.f l.length) l.length = 1099511627776 := h1
  rw [hc] at hbe
  simp (maxSteps := 2000000) only [go_sem, lk21, wnV, wnC, sC, List.cons_append, List.nil_append] at hw hb hf hbe
  simp (maxSteps := 2000000) only [go_sem, reduceIte, Nat.reduceEqDiff, Nat.reduceAdd, lk21, wnV, wnC]
  refine aops_pure' (hw) rfl rfl (by first | exact wk_refls _ | (repeat constructor)) ?_
  simp (maxSteps := 2000000) only [go_sem, reduceIte, Nat.reduceEqDiff, Nat.reduceAdd, lk21, h0]
  refine aops_at (hb) rfl rfl (by first | exact wk_refls _ | (repeat constructor)) ?_
  simp (maxSteps := 2000000) only [go_sem, reduceIte, Nat.reduceEqDiff, Nat.reduceAdd, Nat.reduceBEq, lk21]
  refine aops_at (hf) rfl rfl (by first | exact wk_refls _ | (repeat constructor)) ?_
  simp (maxSteps := 2000000) only [go_sem, reduceIte, Nat.reduceEqDiff, Nat.reduceAdd, lk21]
  refine aops_at (hbe) rfl rfl (by first | exact wk_refls _ | (repeat constructor)) ?_
  simp (maxSteps := 2000000) only [go_sem, reduceIte, Nat.reduceEqDiff, Nat.reduceAdd, lk21, e1, e2, e3, ints]
set_option maxHeartbeats 4000000 in
theorem cheapest21_ok (l : List Dy) (w : Wn) (h0 : okWn l w = 0) (h1 : costB l w ≠ MX) : Pure Try.prog 21 [dys l, wnV w] (.tup [ints (chR l w), I (chC l w), I (chE l w)]) := by
  refine pure_fzE (bad := []) (kp := kp21) (X := tx) (nt := 42) (rs := [.tmp 4, .tmp 5, .tmp 6]) Try.func21 rfl rfl rfl rfl mo (by kernel_rfl) rfl rfl (fun hf => ?_)
  obtain ⟨hl, hv⟩ := (okWn_iff l w).1 h0
  have e1 : chE l w = 0 := by unfold chE; rw [if_pos h0, if_neg h1]
  have e2 : chC l w = costB l w := by unfold chC; rw [e1]; rfl
  have e3 : chR l w = bestR l w := by unfold chR; rw [e1]; rfl
  have hw := wanted43 l w
  have hb := bench51 l [.cells (wnC w)]
  have hf := fill52b l w (fun _ => 0) 0 w.f hl
  have hbe := best53 l w w (fillF l w.f l.length) w.f hl hv
  have hc : ¬ costB l w = 1099511627776 := h1
  rw [show bestC w (fillF l w.f l.length) l.length = costB l w from rfl] at hbe
  simp (maxSteps := 2000000) only [go_sem, lk21, wnV, wnC, sC, List.cons_append, List.nil_append] at hw hb hf hbe
  simp (maxSteps := 2000000) only [go_sem, reduceIte, Nat.reduceEqDiff, Nat.reduceAdd, lk21, wnV, wnC]
  refine aops_pure' (hw) rfl rfl (by first | exact wk_refls _ | (repeat constructor)) ?_
  simp (maxSteps := 2000000) only [go_sem, reduceIte, Nat.reduceEqDiff, Nat.reduceAdd, lk21, h0]
  refine aops_at (hb) rfl rfl (by first | exact wk_refls _ | (repeat constructor)) ?_
  simp (maxSteps := 2000000) only [go_sem, reduceIte, Nat.reduceEqDiff, Nat.reduceAdd, Nat.reduceBEq, lk21]
  refine aops_at (hf) rfl rfl (by first | exact wk_refls _ | (repeat constructor)) ?_
  simp (maxSteps := 2000000) only [go_sem, reduceIte, Nat.reduceEqDiff, Nat.reduceAdd, lk21]
  refine aops_at (hbe) rfl rfl (by first | exact wk_refls _ | (repeat constructor)) ?_
  have hp := inS_lt hv (best_spec hv (fillF l w.f l.length) l.length).1
  have hR : bestR l w = mkL l.length (backF l (fillF l w.f l.length) l.length (bestS w (fillF l w.f l.length) l.length).1 (bestS w (fillF l w.f l.length) l.length).2 fun _ => 0) := rfl
  have hlow : ([.cells (wnC w), .cells (benchC l (fillF l w.f l.length) w.f), .cells (sC (bestS w (fillF l w.f l.length) l.length)), .cells (numsC l.length fun _ => 0)] : List AB).all (AB.low 4) = true := by simp [AB.low, bench_low, nums_low, wnC, sC, C.lowL, C.low]
  have hk := back54 [.cells (wnC w), .cells (benchC l (fillF l w.f l.length) w.f), .cells (sC (bestS w (fillF l w.f l.length) l.length)), .cells (numsC l.length fun _ => 0)] hlow 1 l (fillF l w.f l.length) w.f rfl hl (back_ok hl w.f) _ _ hp.1 hp.2
  have h8 := hl.n8
  simp (maxSteps := 2000000) only [go_sem, reduceIte, Nat.reduceEqDiff, Nat.reduceAdd, lk21, hc, dys, Int.toNat_natCast, rep_nums2]
  refine ⟨by rw [Bool.and_eq_true, Bool.and_eq_true]; exact ⟨⟨decide_eq_true (Int.le_refl _), decide_eq_true (by show (8 : Int) * _ ≤ _; omega)⟩, decide_eq_true (by show (_ : Int) ≤ 140737488355328; omega)⟩, ?_⟩
  generalize backF l (fillF l w.f l.length) l.length (bestS w (fillF l w.f l.length) l.length).1 (bestS w (fillF l w.f l.length) l.length).2 (fun _ => 0) = R at *
  simp (maxSteps := 2000000) only [go_sem, Nat.reduceAdd, lk21, wnV, wnC, sC, spV, spC, List.cons_append, List.nil_append] at hk
  refine aops_gen hk rfl rfl (by first | exact wk_refls _ | (repeat constructor)) (fun y H' h => ?_)
  obtain ⟨rfl, a, b, T, rfl⟩ := h
  simp (maxSteps := 2000000) only [go_sem, reduceIte, Nat.reduceEqDiff, Nat.reduceLT, lk21, e1, e2, e3, hR, min_same, srcCells, numsC_len, Nat.mul_one, Nat.zero_add, Nat.le_refl, and_self, take_full, set_full]
  exact ⟨3, numsC l.length R, numsD l.length R, _, rfl, by rw [numsC_d]; exact toDs_d _, fz3 (by omega), .refl _⟩
theorem cheapest21 (l : List Dy) (w : Wn) : Pure Try.prog 21 [dys l, wnV w] (.tup [ints (chR l w), I (chC l w), I (chE l w)]) := by
  by_cases h0 : okWn l w = 0
  · by_cases h1 : costB l w = MX
    · exact cheapest21_none l w h0 h1
    · exact cheapest21_ok l w h0 h1
  · exact cheapest21_bad l w h0
end Go.Proofs.Ytkbnmanfoejoiaa
/- Dyes: Grades. -/
set_option linter.unusedSimpArgs false
set_option linter.unusedVariables false
set_option maxRecDepth 100000
namespace Go.Proofs.Ytkbnmanfoejoiaa
open Go Go.Abs Go.Proofs
def kp24 : List (Nat × List Nat) := [(0, [0, 3]), (1, [0, 3, 6]), (2, [0, 3, 6, 16]), (3, [4, 5]), (4, [3, 7]), (5, [3, 7, 8]), (6, [3, 7, 8, 9]), (7, [3, 7, 8, 9, 21]), (8, [3, 7, 8, 9]), (9, [3, 7, 8, 9]), (10, [3, 7, 8, 9, 11]), (11, [3, 7, 8, 9, 11, 34]), (12, [3, 7, 8, 9, 11]), (13, [3, 7, 8, 9]), (14, [4, 5])]
theorem lk24 : lookK kp24 0 = some [0, 3] ∧ lookK kp24 1 = some [0, 3, 6] ∧ lookK kp24 2 = some [0, 3, 6, 16] ∧ lookK kp24 3 = some [4, 5] ∧ lookK kp24 4 = some [3, 7] ∧ lookK kp24 5 = some [3, 7, 8] ∧ lookK kp24 6 = some [3, 7, 8, 9] ∧ lookK kp24 7 = some [3, 7, 8, 9, 21] ∧ lookK kp24 8 = some [3, 7, 8, 9] ∧ lookK kp24 9 = some [3, 7, 8, 9] ∧ lookK kp24 10 = some [3, 7, 8, 9, 11] ∧ lookK kp24 11 = some [3, 7, 8, 9, 11, 34] ∧ lookK kp24 12 = some [3, 7, 8, 9, 11] ∧ lookK kp24 13 = some [3, 7, 8, 9] ∧ lookK kp24 14 = some [4, 5] := ⟨rfl, rfl, rfl, rfl, rfl, rfl, rfl, rfl, rfl, rfl, rfl, rfl, rfl, rfl, rfl⟩

def gradeV (l : List Dy) (w : Wn) (q : Int) : Int := if bestC w (fillF l q l.length) l.length = MX then -1 else bestC w (fillF l q l.length) l.length
def gradeL (l : List Dy) (w : Wn) (k : Nat) : List Int := (List.range k).map fun j => gradeV l w ((j + 1 : Nat) : Int)
theorem gradeL_succ (l : List Dy) (w : Wn) (k : Nat) : gradeL l w (k + 1) = gradeL l w k ++ [gradeV l w ((k + 1 : Nat) : Int)] := by simp [gradeL, List.range_succ]
theorem gradeL_len (l : List Dy) (w : Wn) (k : Nat) : (gradeL l w k).length = k := by simp [gradeL]
def grL (l : List Dy) (w : Wn) : List Int := if okWn l w = 0 then gradeL l w 8 else []
set_option maxHeartbeats 4000000 in
theorem grades24_bad (l : List Dy) (w : Wn) (h0 : okWn l w ≠ 0) : Pure Try.prog 24 [dys l, wnV w] (.tup [ints (grL l w), I (okWn l w)]) := by
  refine pure_wkE (bad := []) (kp := kp24) (X := tx) (nt := 40) (rs := [.tmp 4, .tmp 5]) Try.func24 rfl rfl rfl rfl mo (by kernel_rfl) rfl rfl (fun hf => ?_)
  have e3 : grL l w = [] := by unfold grL; rw [if_neg h0]
  have hw := wanted43 l w
  unfold wnV wnC at hw
  simp (maxSteps := 2000000) only [go_sem, reduceIte, Nat.reduceEqDiff, Nat.reduceAdd, Int.reduceNeg, lk24, wnV, wnC]
  refine aops_pure' (hw) rfl rfl (by first | exact wk_refls _ | (repeat constructor)) ?_
  simp (maxSteps := 2000000) only [go_sem, reduceIte, Nat.reduceEqDiff, Nat.reduceAdd, Int.reduceNeg, lk24, h0, e3, ints]
  all_goals first | exact .refl _ | exact ⟨.refl _, .refl _⟩ | exact ⟨.refl _, .refl _, .refl _⟩ | exact ⟨.refl _, _, rfl⟩ | exact ⟨_, rfl⟩ | exact ⟨.refl _, [], by simp⟩ | exact ⟨[], by simp⟩
def f24 (l : List Dy) (k : Nat) : Nat → Int := if k = 0 then fun _ => 0 else fillF l k l.length
set_option maxHeartbeats 4000000 in
theorem grades24_ok (l : List Dy) (w : Wn) (h0 : okWn l w = 0) : Pure Try.prog 24 [dys l, wnV w] (.tup [ints (grL l w), I (okWn l w)]) := by
  refine pure_wkE (bad := []) (kp := kp24) (X := tx) (nt := 40) (rs := [.tmp 4, .tmp 5]) Try.func24 rfl rfl rfl rfl mo (by kernel_rfl) rfl rfl (fun hf => ?_)
  obtain ⟨hl, hv⟩ := (okWn_iff l w).1 h0
  have e3 : grL l w = gradeL l w 8 := by unfold grL; rw [if_pos h0]
  have hw := wanted43 l w
  have hb := bench51 l [.cells (wnC w)]
  have hlow : ∀ f q, ([.cells (wnC w), .cells (benchC l f q)] : List AB).all (AB.low 2) = true := fun f q => by simp [AB.low, bench_low, wnC, C.lowL, C.low]
  simp (maxSteps := 2000000) only [go_sem, lk24, wnV, wnC, sC, List.cons_append, List.nil_append] at hw hb
  simp (maxSteps := 2000000) only [go_sem, reduceIte, Nat.reduceEqDiff, Nat.reduceAdd, Int.reduceNeg, lk24, wnV, wnC]
  refine aops_pure' (hw) rfl rfl (by first | exact wk_refls _ | (repeat constructor)) ?_
  simp (maxSteps := 2000000) only [go_sem, reduceIte, Nat.reduceEqDiff, Nat.reduceAdd, Int.reduceNeg, lk24, h0]
  refine aops_at (hb) rfl rfl (by first | exact wk_refls _ | (repeat constructor)) ?_
  simp (maxSteps := 2000000) only [go_sem, reduceIte, Nat.reduceEqDiff, Int.reduceNeg, lk24]
  refine goE_loop (bad := []) (kp := kp24) (fun k : Nat => { slots := [(3, .c (.ptr 0 0)), (7, .c (.ptr 1 0)), (8, .c (.own 2 ((gradeL l w k).map iD))), (9, I ((k + 1 : Nat) : Int))], heap := [.cells (wnC w), .cells (benchC l (f24 l k) k), .grow k 1], marks := [] }) (fun k => k ≤ 8) (fun k => 8 - k) 0 mo (by kernel_rfl) ?_ (Nat.zero_le _) ?_
  · refine Ent.trans (ent_own 8 1 rfl) ?_
    refine ent_weaken [] rfl rfl (Nat.zero_le _) (by simp [AB.low, bench_low, wnC, C.lowL, C.low]) rfl ?_
    simp (maxSteps := 2000000) only [go_sem, reduceIte, Nat.reduceEqDiff, Nat.reduceAdd, Nat.reduceLT, lk24, gradeL, List.range_zero]
    all_goals first | exact .refl _ | exact ⟨.refl _, .refl _⟩ | exact ⟨.refl _, .refl _, .refl _⟩ | exact ⟨.refl _, _, rfl⟩ | exact ⟨_, rfl⟩ | exact ⟨.refl _, [], by simp⟩ | exact ⟨[], by simp⟩
  rintro k hk
  simp (maxSteps := 2000000) only [go_sem, reduceIte, Nat.reduceEqDiff, Nat.reduceAdd, Int.reduceNeg, lk24, wnC]
  by_cases hlt : k < 8
  · have hlt' : ((k + 1 : Nat) : Int) ≤ 8 := by omega
    have hff := (fill52b l w (f24 l k) k ((k + 1 : Nat) : Int) hl).frame2 rfl (hlow _ _) rfl rfl [.grow k 1]
    have hbb := (best53 l w w (fillF l ((k + 1 : Nat) : Int) l.length) ((k + 1 : Nat) : Int) hl hv).frame2 rfl (hlow _ _) rfl rfl [.grow k 1]
    have hg : gradeV l w ((k + 1 : Nat) : Int) = if bestC w (fillF l ((k + 1 : Nat) : Int) l.length) l.length = 1099511627776 then -1 else bestC w (fillF l ((k + 1 : Nat) : Int) l.length) l.length := rfl
    have hgl := gradeL_len l w k
    have e24 : f24 l (k + 1) = fillF l ((k + 1 : Nat) : Int) l.length := if_neg (by omega)
    have hsu := gradeL_succ l w k
    have w7 : wr .i64 (((k + 1 : Nat) : Int) + 1) = ((k + 1 + 1 : Nat) : Int) := wr_succ (n := 9) (by omega) (by decide)
    have m1 : 8 - (k + 1) < 8 - k := by omega
    simp (maxSteps := 2000000) only [go_sem, lk24, wnV, wnC, sC, List.cons_append, List.nil_append] at hff hbb
    generalize bestC w (fillF l ((k + 1 : Nat) : Int) l.length) l.length = c at *
    simp (maxSteps := 2000000) only [go_sem, reduceIte, Nat.reduceEqDiff, Nat.reduceAdd, Int.reduceNeg, lk24, hlt']
    refine aops_at (hff) rfl rfl (by first | exact wk_refls _ | (repeat constructor)) ?_
    simp (maxSteps := 2000000) only [go_sem, reduceIte, Nat.reduceEqDiff, Nat.reduceAdd, Int.reduceNeg, lk24]
    refine aops_at (hbb) rfl rfl (by first | exact wk_refls _ | (repeat constructor)) ?_
    by_cases hc : c = 1099511627776
    · rw [if_pos hc] at hg
      simp (maxSteps := 2000000) only [go_sem, reduceIte, Nat.reduceEqDiff, Nat.reduceAdd, Nat.reduceLT, Nat.reduceLeDiff, Nat.reduceBEq, Nat.reduceMul, Int.reduceNeg, lk24, hc, hgl, w7]
      refine ⟨by simp [iD]; omega, k + 1, hlt, m1, ?_⟩
      refine ent_weaken [.cells (sC (bestS w (fillF l ((k + 1 : Nat) : Int) l.length) l.length))] (by rw [e24]; rfl) rfl (Nat.zero_le _) (by simp [AB.low, bench_low, wnC, C.lowL, C.low]) rfl ?_
      simp (maxSteps := 2000000) only [go_sem, reduceIte, Nat.reduceEqDiff, Nat.reduceAdd, Nat.reduceLT, Int.reduceNeg, lk24, hsu, hg, List.map_append, iD]
      all_goals first | exact .refl _ | exact ⟨.refl _, .refl _⟩ | exact ⟨.refl _, .refl _, .refl _⟩ | exact ⟨.refl _, _, rfl⟩ | exact ⟨_, rfl⟩ | exact ⟨.refl _, [], by simp⟩ | exact ⟨[], by simp⟩
    · rw [if_neg hc] at hg
      simp (maxSteps := 2000000) only [go_sem, reduceIte, Nat.reduceEqDiff, Nat.reduceAdd, Nat.reduceLT, Nat.reduceLeDiff, Nat.reduceBEq, Nat.reduceMul, Int.reduceNeg, lk24, hc, hgl, w7]
      refine ⟨by simp [iD]; omega, k + 1, hlt, m1, ?_⟩
      refine ent_weaken [.cells (sC (bestS w (fillF l ((k + 1 : Nat) : Int) l.length) l.length))] (by rw [e24]; rfl) rfl (Nat.zero_le _) (by simp [AB.low, bench_low, wnC, C.lowL, C.low]) rfl ?_
      simp (maxSteps := 2000000) only [go_sem, reduceIte, Nat.reduceEqDiff, Nat.reduceAdd, Nat.reduceLT, lk24, hsu, hg, List.map_append, iD]
      all_goals first | exact .refl _ | exact ⟨.refl _, .refl _⟩ | exact ⟨.refl _, .refl _, .refl _⟩ | exact ⟨.refl _, _, rfl⟩ | exact ⟨_, rfl⟩ | exact ⟨.refl _, [], by simp⟩ | exact ⟨[], by simp⟩
  · have hlt' : ¬ ((k + 1 : Nat) : Int) ≤ 8 := by omega
    have e : k = 8 := by omega
    subst e
    simp (maxSteps := 2000000) only [go_sem, reduceIte, Nat.reduceEqDiff, Nat.reduceAdd, Nat.reduceSub, Int.reduceNeg, Int.reduceLE, lk24, hlt', e3, h0, ints]
    all_goals first | exact .refl _ | exact ⟨.refl _, .refl _⟩ | exact ⟨.refl _, .refl _, .refl _⟩ | exact ⟨.refl _, _, rfl⟩ | exact ⟨_, rfl⟩ | exact ⟨.refl _, [], by simp⟩ | exact ⟨[], by simp⟩
theorem grades24 (l : List Dy) (w : Wn) : Pure Try.prog 24 [dys l, wnV w] (.tup [ints (grL l w), I (okWn l w)]) := by
  by_cases h0 : okWn l w = 0
  · exact grades24_ok l w h0
  · exact grades24_bad l w h0
end Go.Proofs.Ytkbnmanfoejoiaa
