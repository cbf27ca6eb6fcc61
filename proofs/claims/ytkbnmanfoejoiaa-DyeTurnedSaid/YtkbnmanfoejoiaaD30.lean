/- Dyes: the statement Turned. -/
import Derived.Test.YtkbnmanfoejoiaaDL6
import Derived.Test.YtkbnmanfoejoiaaD29
set_option linter.unusedSimpArgs false
set_option linter.unusedVariables false
set_option maxRecDepth 100000
namespace Go.Proofs.Ytkbnmanfoejoiaa
open Go Go.Abs Go.Proofs
def kp9 : List (Nat × List Nat) := [(0, [0, 2, 4]), (1, [0, 2, 4, 36]), (2, [6]), (3, [0, 2, 4, 7, 8]), (4, [0, 2, 4, 7, 8, 9]), (5, [0, 2, 4, 7, 8, 9, 41]), (6, [0, 2, 4, 7, 8, 9]), (7, [0, 2, 4, 7, 8, 9, 10]), (8, [0, 2, 4, 7, 8, 9]), (9, [0, 2, 4, 7, 8, 9]), (10, [0, 4, 7, 8, 11]), (11, [0, 4, 7, 8, 11, 13, 14]), (12, [0, 4, 7, 8, 11, 13, 14, 16, 17]), (13, [0, 4, 7, 8, 11, 13, 14, 16, 17, 19, 20]), (14, [0, 4, 7, 8, 11, 13, 14, 16, 17, 19, 20, 21, 22]), (15, [0, 4, 7, 8, 11, 13, 14, 16, 17, 19, 20, 21, 22, 23, 24]), (16, [0, 4, 7, 8, 11, 13, 14, 16, 17, 19, 20, 21, 22, 23, 24, 25, 26]), (17, [4, 7, 8, 11, 13, 14, 16, 17, 19, 20, 21, 22, 23, 24, 25, 26, 27, 28]), (18, [4, 8, 13, 14, 16, 17, 19, 20, 21, 22, 23, 24, 25, 26, 27, 28, 29, 30]), (19, [13, 14, 16, 17, 19, 20, 21, 22, 23, 24, 25, 26, 27, 28, 29, 30, 31, 32]), (20, [6])]
theorem lk9 : lookK kp9 0 = some [0, 2, 4] ∧ lookK kp9 1 = some [0, 2, 4, 36] ∧ lookK kp9 2 = some [6] ∧ lookK kp9 3 = some [0, 2, 4, 7, 8] ∧ lookK kp9 4 = some [0, 2, 4, 7, 8, 9] ∧ lookK kp9 5 = some [0, 2, 4, 7, 8, 9, 41] ∧ lookK kp9 6 = some [0, 2, 4, 7, 8, 9] ∧ lookK kp9 7 = some [0, 2, 4, 7, 8, 9, 10] ∧ lookK kp9 8 = some [0, 2, 4, 7, 8, 9] ∧ lookK kp9 9 = some [0, 2, 4, 7, 8, 9] ∧ lookK kp9 10 = some [0, 4, 7, 8, 11] ∧ lookK kp9 11 = some [0, 4, 7, 8, 11, 13, 14] ∧ lookK kp9 12 = some [0, 4, 7, 8, 11, 13, 14, 16, 17] ∧ lookK kp9 13 = some [0, 4, 7, 8, 11, 13, 14, 16, 17, 19, 20] ∧ lookK kp9 14 = some [0, 4, 7, 8, 11, 13, 14, 16, 17, 19, 20, 21, 22] ∧ lookK kp9 15 = some [0, 4, 7, 8, 11, 13, 14, 16, 17, 19, 20, 21, 22, 23, 24] ∧ lookK kp9 16 = some [0, 4, 7, 8, 11, 13, 14, 16, 17, 19, 20, 21, 22, 23, 24, 25, 26] ∧ lookK kp9 17 = some [4, 7, 8, 11, 13, 14, 16, 17, 19, 20, 21, 22, 23, 24, 25, 26, 27, 28] ∧ lookK kp9 18 = some [4, 8, 13, 14, 16, 17, 19, 20, 21, 22, 23, 24, 25, 26, 27, 28, 29, 30] ∧ lookK kp9 19 = some [13, 14, 16, 17, 19, 20, 21, 22, 23, 24, 25, 26, 27, 28, 29, 30, 31, 32] ∧ lookK kp9 20 = some [6] := ⟨rfl, rfl, rfl, rfl, rfl, rfl, rfl, rfl, rfl, rfl, rfl, rfl, rfl, rfl, rfl, rfl, rfl, rfl, rfl, rfl, rfl⟩

theorem take_swD {l : List Dy} {i : Nat} (h : i < l.length) : (swD l).take (i + 1) = (swD l).take i ++ [⟨(gD l i).b, (gD l i).a, (gD l i).p, (gD l i).f⟩] := by
  have h1 := gD_lt (l := swD l) (b := i) (by rw [swD_len]; exact h)
  rw [swD_get h] at h1
  exact take_succ_eq h1
theorem dapp_ok2 {n : Nat} (l : List Dy) (h : n ≤ 1000000) : ((l.all fun x => true) && decide ((n + 1 + (n + 1) / 4 + 256) * 32 ≤ 281474976710656) && decide (n ≤ 140737488355327)) = true := by
  simp; omega
theorem take_rot {l : List Dy} {i t : Nat} (h : i < l.length) : (rotD l t).take (i + 1) = (rotD l t).take i ++ [gD l ((i + t) % l.length)] := by
  have h1 := gD_lt (l := rotD l t) (b := i) (by rw [rotD_len]; exact h)
  rw [rotD_get h] at h1
  exact take_succ_eq h1
set_option maxHeartbeats 8000000 in
theorem turnedLaw (l : List Dy) (w : Wn) (t : Int) (ht0 : 0 ≤ t) (ht : t < 256) : Pure Try.prog 9 [dys l, wnV w, .c (.d (.int .u8 t))] (B true) := by
  refine pure_wkE (bad := [10019]) (kp := kp9) (X := tx) (nt := 205) (rs := [.tmp 6]) Try.func9 rfl rfl rfl rfl mo (by kernel_rfl) rfl rfl (fun hf => ?_)
  have h1 := fine32 l w
  have hw := works13
  by_cases h0 : okWn l w = 0
  case neg =>
    rw [decide_eq_false h0] at h1
    unfold wnV wnC at h1
    simp (maxSteps := 2000000) only [go_sem, reduceIte, Nat.reduceEqDiff, Nat.reduceAdd, Nat.reduceBEq, lk9, wnV, wnC]
    refine aops_pure' (h1) rfl rfl (by first | exact wk_refls _ | (repeat constructor)) ?_
    simp (maxSteps := 2000000) only [go_sem, reduceIte, Nat.reduceEqDiff, Nat.reduceAdd, Nat.reduceBEq, lk9]
    refine aops_pure' (hw) rfl rfl (by first | exact wk_refls _ | (repeat constructor)) ?_
    simp (maxSteps := 2000000) only [go_sem, reduceIte, Nat.reduceEqDiff, lk9]
  obtain ⟨hl, hv⟩ := (okWn_iff l w).1 h0
  rw [decide_eq_true h0] at h1
  have h8 := hl.n8
  have hn1 := hl.n1
  obtain ⟨tn, htn⟩ : ∃ tn : Nat, (tn : Int) = t := ⟨t.toNat, by omega⟩
  subst htn
  have wt : wr .i64 (tn : Int) = tn := wr_in (by omega)
  unfold wnV wnC dys at h1
  simp (maxSteps := 2000000) only [go_sem, reduceIte, Nat.reduceEqDiff, Nat.reduceAdd, Nat.reduceBEq, lk9, wnV, wnC, dys]
  refine aops_pure' (h1) rfl rfl (by first | exact wk_refls _ | (repeat constructor)) ?_
  simp (maxSteps := 2000000) only [go_sem, reduceIte, Nat.reduceEqDiff, Nat.reduceAdd, Nat.reduceBEq, lk9]
  refine goE_loop (bad := [10019]) (kp := kp9) (fun i : Nat => { slots := [(0, dys l), (2, .c (.d (.int .u8 (tn : Int)))), (4, .c (.ptr 0 0)), (7, .c (.own 1 (((swD l).take i).map dyD))), (8, .c (.own 2 (((rotD l tn).take i).map dyD))), (9, I i)], heap := [.cells (wnC w), .grow i 4, .grow i 4], marks := [] }) (fun i => i ≤ l.length) (fun i => l.length - i) 0 mo (by kernel_rfl) ?_ (Nat.zero_le _) ?_
  · refine Ent.trans (ent_own 7 4 rfl) (Ent.trans (ent_own 8 4 rfl) ?_)
    refine ent_weaken [] rfl rfl (Nat.zero_le _) rfl rfl ?_
    simp (maxSteps := 2000000) only [go_sem, reduceIte, Nat.reduceEqDiff, Nat.reduceAdd, Nat.reduceLT, lk9, dys, wnC, List.take_zero, List.map_nil]
    all_goals first | exact .refl _ | exact ⟨.refl _, .refl _⟩ | exact ⟨.refl _, .refl _, .refl _⟩ | exact ⟨.refl _, _, rfl⟩ | exact ⟨_, rfl⟩ | exact ⟨.refl _, [], by simp⟩ | exact ⟨[], by simp⟩
  rintro i hi
  simp (maxSteps := 2000000) only [go_sem, reduceIte, Nat.reduceEqDiff, Nat.reduceAdd, Nat.reduceBEq, lk9, dys, wnC]
  by_cases hlt : i < l.length
  · have hlt' : (i : Int) < l.length := by omega
    have g1 := gD_lt hlt
    have k1 := kind35 (gD l i).b (gD l i).a (gD l i).p (gD l i).f
    have m1 : l.length - (i + 1) < l.length - i := by omega
    have ha1 := dapp_ok2 (n := i) ((swD l).take i) (by omega)
    have ha2 := dapp_ok2 (n := i) ((rotD l tn).take i) (by omega)
    have tl1 : ((swD l).take i).length = i := by rw [List.length_take, swD_len]; omega
    have tl2 : ((rotD l tn).take i).length = i := by rw [List.length_take, rotD_len]; omega
    have ts1 := take_swD hlt
    have ts2 := take_rot (t := tn) hlt
    generalize (swD l).take i = A0 at *
    generalize (rotD l tn).take i = B0 at *
    have hm := Nat.mod_lt (i + tn) hn1
    have hm' : (((i + tn) % l.length : Nat) : Int) < l.length := by omega
    have g2 := gD_lt hm
    have z0 : ¬ (l.length : Int) = 0 := by omega
    have tm : Int.tmod (((i + tn : Nat) : Int)) (l.length : Int) = (((i + tn) % l.length : Nat) : Int) := rfl
    have wm : wr .i64 (((i + tn) % l.length : Nat) : Int) = (((i + tn) % l.length : Nat) : Int) := wr_in (by omega)
    have w1 : wr .i64 ((i : Int) + tn) = ((i + tn : Nat) : Int) := by rw [wr_in (by omega)]; omega
    have w7 : wr .i64 ((i : Int) + 1) = ((i + 1 : Nat) : Int) := wr_succ hlt (by omega)
    unfold dyV dyC at k1
    simp (maxSteps := 2000000) only [go_sem, reduceIte, Nat.reduceEqDiff, Nat.reduceAdd, Nat.reduceLT, Nat.reduceLeDiff, Nat.reduceBEq, Nat.reduceMul, Int.reduceLT, Int.reduceLE, Int.reduceToNat, lk9, hlt', nn, g1, dyD]
    refine aops_pure' (k1) rfl rfl (by first | exact wk_refls _ | (repeat constructor)) ?_
    simp (maxSteps := 2000000) only [go_sem, reduceIte, Nat.reduceEqDiff, Nat.reduceAdd, Nat.reduceLT, Nat.reduceLeDiff, Nat.reduceBEq, Nat.reduceMul, lk9, tl1, tl2, ha1, ha2, wt, w1, z0, tm, wm, hm', g2, dyD, nn, w7]
    refine ⟨i + 1, hlt, m1, ?_⟩
    refine ent_weaken [.cells (dyC (gD l i))] rfl rfl (Nat.zero_le _) rfl rfl ?_
    simp (maxSteps := 2000000) only [go_sem, reduceIte, Nat.reduceEqDiff, Nat.reduceAdd, Nat.reduceLT, lk9, ts1, ts2, List.map_append, dys, wnC, dyD]
    all_goals first | exact .refl _ | exact ⟨.refl _, .refl _⟩ | exact ⟨.refl _, .refl _, .refl _⟩ | exact ⟨.refl _, _, rfl⟩ | exact ⟨_, rfl⟩ | exact ⟨.refl _, [], by simp⟩ | exact ⟨[], by simp⟩
  · have hlt' : ¬ (i : Int) < l.length := by omega
    have ei : i = l.length := by omega
    subst ei
    have tk1 : (swD l).take l.length = swD l := List.take_of_length_le (by rw [swD_len]; exact Nat.le_refl _)
    have tk2 : (rotD l tn).take l.length = rotD l tn := List.take_of_length_le (by rw [rotD_len]; exact Nat.le_refl _)
    have S1 := sw_same hl hv
    have S2 := rot_same hl hv tn
    have e1 := cheapest21 l w
    have e2 := cheapest21 (swD l) (swW w)
    have e3 := cheapest21 (rotD l tn) w
    have g1 := grades24 l w
    have g2 := grades24 (swD l) (swW w)
    have g3 := grades24 (rotD l tn) w
    have n1 := wider22 l w
    have n2 := wider22 (swD l) (swW w)
    have n3 := wider22 (rotD l tn) w
    rw [S1.e, S1.c] at e2
    rw [S2.e, S2.c] at e3
    rw [h0] at g1 n1
    rw [S1.g, S1.ok] at g2
    rw [S2.g, S2.ok] at g3
    rw [S1.n, S1.ok] at n2
    rw [S2.n, S2.ok] at n3
    have lg := longs20 (grL l w) (grL l w)
    rw [decide_eq_true rfl] at lg
    clear S1 S2
    generalize chR l w = r1 at *
    generalize chR (swD l) (swW w) = r2 at *
    generalize chR (rotD l tn) w = r3 at *
    generalize chE l w = E at *
    generalize chC l w = C at *
    generalize grL l w = G at *
    generalize wiN l w = N at *
    simp only [wnV, wnC, dys, swW] at e1 e2 e3 g1 g2 g3 n1 n2 n3
    simp (maxSteps := 2000000) only [go_sem, reduceIte, Nat.reduceEqDiff, Nat.reduceAdd, Nat.reduceLeDiff, Nat.reduceBEq, Nat.reduceMul, Int.reduceLT, Int.reduceLE, Int.reduceToNat, lk9, hlt', tk1, tk2]
    refine aops_pure' (e1) rfl rfl (by first | exact wk_refls _ | (repeat constructor)) ?_
    simp (maxSteps := 2000000) only [go_sem, reduceIte, Nat.reduceEqDiff, Nat.reduceAdd, lk9]
    refine aops_pure' (e2) rfl rfl (by first | exact wk_refls _ | (repeat constructor)) ?_
    simp (maxSteps := 2000000) only [go_sem, reduceIte, Nat.reduceEqDiff, Nat.reduceAdd, lk9]
    refine aops_pure' (e3) rfl rfl (by first | exact wk_refls _ | (repeat constructor)) ?_
    simp (maxSteps := 2000000) only [go_sem, reduceIte, Nat.reduceEqDiff, Nat.reduceAdd, lk9]
    refine aops_pure' (g1) rfl rfl (by first | exact wk_refls _ | (repeat constructor)) ?_
    simp (maxSteps := 2000000) only [go_sem, reduceIte, Nat.reduceEqDiff, Nat.reduceAdd, lk9]
    refine aops_pure' (g2) rfl rfl (by first | exact wk_refls _ | (repeat constructor)) ?_
    simp (maxSteps := 2000000) only [go_sem, reduceIte, Nat.reduceEqDiff, Nat.reduceAdd, lk9]
    refine aops_pure' (g3) rfl rfl (by first | exact wk_refls _ | (repeat constructor)) ?_
    simp (maxSteps := 2000000) only [go_sem, reduceIte, Nat.reduceEqDiff, Nat.reduceAdd, lk9]
    refine aops_pure' (n1) rfl rfl (by first | exact wk_refls _ | (repeat constructor)) ?_
    simp (maxSteps := 2000000) only [go_sem, reduceIte, Nat.reduceEqDiff, Nat.reduceAdd, lk9]
    refine aops_pure' (n2) rfl rfl (by first | exact wk_refls _ | (repeat constructor)) ?_
    simp (maxSteps := 2000000) only [go_sem, reduceIte, Nat.reduceEqDiff, Nat.reduceAdd, lk9]
    refine aops_pure' (n3) rfl rfl (by first | exact wk_refls _ | (repeat constructor)) ?_
    simp (maxSteps := 2000000) only [go_sem, reduceIte, Nat.reduceEqDiff, lk9]
    refine stop_mk _ Ent.refl ?_
    simp (maxSteps := 2000000) only [go_sem, reduceIte, Nat.reduceEqDiff, Nat.reduceAdd, Nat.reduceBEq, lk9]
    refine aops_pure' (lg) rfl rfl (by first | exact wk_refls _ | (repeat constructor)) ?_
    simp (maxSteps := 2000000) only [go_sem, reduceIte, Nat.reduceEqDiff, lk9]
    refine aops_pure' (lg) rfl rfl (by first | exact wk_refls _ | (repeat constructor)) ?_
    simp (maxSteps := 2000000) only [go_sem, reduceIte, Nat.reduceEqDiff, lk9]
    refine aops_pure' (hw) rfl rfl (by first | exact wk_refls _ | (repeat constructor)) ?_
    simp (maxSteps := 2000000) only [go_sem, reduceIte, Nat.reduceEqDiff, lk9]
end Go.Proofs.Ytkbnmanfoejoiaa
