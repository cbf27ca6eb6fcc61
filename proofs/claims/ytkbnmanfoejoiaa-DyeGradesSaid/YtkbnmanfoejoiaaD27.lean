/- Dyes: the statement Grades. -/
import Derived.Test.YtkbnmanfoejoiaaD26
set_option linter.unusedSimpArgs false
set_option linter.unusedVariables false
set_option maxRecDepth 100000
namespace Go.Proofs.Ytkbnmanfoejoiaa
open Go Go.Abs Go.Proofs
def kp11 : List (Nat × List Nat) := [(0, [0, 2, 4]), (1, [0, 2, 4, 18]), (2, [6]), (3, [0, 2, 4, 7, 8]), (4, [0, 2, 4, 7, 32]), (5, [6]), (6, [0, 2, 4, 7, 9]), (7, [0, 2, 4, 7, 9, 36]), (8, [0, 2, 4, 7, 9]), (9, [0, 2, 4, 7, 9, 77]), (10, [6]), (11, [0, 2, 7, 10]), (12, [0, 7, 10]), (13, [0, 7, 10, 12, 13]), (14, [0, 10, 119]), (15, [6]), (16, [0, 8, 10, 14]), (17, [0, 10, 14, 127]), (18, [6]), (19, [0, 10, 14, 133]), (20, [6]), (21, [0, 10, 13, 14]), (22, [0, 10, 14, 144]), (23, [6]), (24, [0, 10, 14, 146]), (25, [6]), (26, [13]), (27, [6])]
theorem lk11 : lookK kp11 0 = some [0, 2, 4] ∧ lookK kp11 1 = some [0, 2, 4, 18] ∧ lookK kp11 2 = some [6] ∧ lookK kp11 3 = some [0, 2, 4, 7, 8] ∧ lookK kp11 4 = some [0, 2, 4, 7, 32] ∧ lookK kp11 5 = some [6] ∧ lookK kp11 6 = some [0, 2, 4, 7, 9] ∧ lookK kp11 7 = some [0, 2, 4, 7, 9, 36] ∧ lookK kp11 8 = some [0, 2, 4, 7, 9] ∧ lookK kp11 9 = some [0, 2, 4, 7, 9, 77] ∧ lookK kp11 10 = some [6] ∧ lookK kp11 11 = some [0, 2, 7, 10] ∧ lookK kp11 12 = some [0, 7, 10] ∧ lookK kp11 13 = some [0, 7, 10, 12, 13] ∧ lookK kp11 14 = some [0, 10, 119] ∧ lookK kp11 15 = some [6] ∧ lookK kp11 16 = some [0, 8, 10, 14] ∧ lookK kp11 17 = some [0, 10, 14, 127] ∧ lookK kp11 18 = some [6] ∧ lookK kp11 19 = some [0, 10, 14, 133] ∧ lookK kp11 20 = some [6] ∧ lookK kp11 21 = some [0, 10, 13, 14] ∧ lookK kp11 22 = some [0, 10, 14, 144] ∧ lookK kp11 23 = some [6] ∧ lookK kp11 24 = some [0, 10, 14, 146] ∧ lookK kp11 25 = some [6] ∧ lookK kp11 26 = some [13] ∧ lookK kp11 27 = some [6] := ⟨rfl, rfl, rfl, rfl, rfl, rfl, rfl, rfl, rfl, rfl, rfl, rfl, rfl, rfl, rfl, rfl, rfl, rfl, rfl, rfl, rfl, rfl, rfl, rfl, rfl, rfl, rfl, rfl⟩

theorem tmod_8 {x : Int} (h : 0 ≤ x) : x.tmod 8 = x % 8 := Int.tmod_eq_emod_of_nonneg h
set_option maxHeartbeats 4000000 in
theorem gradesLaw (l : List Dy) (w : Wn) (b : Int) (hb0 : 0 ≤ b) (hb : b < 256) : Pure Try.prog 11 [dys l, wnV w, .c (.d (.int .u8 b))] (B true) := by
  refine pure_wkE (bad := []) (kp := kp11) (X := tx) (nt := 163) (rs := [.tmp 6]) Try.func11 rfl rfl rfl rfl mo (by kernel_rfl) rfl rfl (fun hf => ?_)
  have h1 := fine32 l w
  have hw := works13
  have m1 := grades24 l w
  by_cases h0 : okWn l w = 0
  case neg =>
    rw [decide_eq_false h0] at h1
    unfold wnV wnC at h1
    simp (maxSteps := 2000000) only [go_sem, reduceIte, Nat.reduceEqDiff, Nat.reduceAdd, Int.reduceNeg, lk11, wnV, wnC]
    refine aops_pure' (h1) rfl rfl (by first | exact wk_refls _ | (repeat constructor)) ?_
    simp (maxSteps := 2000000) only [go_sem, reduceIte, Nat.reduceEqDiff, Nat.reduceAdd, Int.reduceNeg, lk11]
    refine aops_pure' (hw) rfl rfl (by first | exact wk_refls _ | (repeat constructor)) ?_
    simp (maxSteps := 2000000) only [go_sem, reduceIte, Nat.reduceEqDiff, lk11]
  obtain ⟨hl, hv⟩ := (okWn_iff l w).1 h0
  rw [decide_eq_true h0] at h1
  have eg : grL l w = gradeL l w 8 := by unfold grL; rw [if_pos h0]
  rw [eg, h0] at m1
  have hlen := gradeL_len l w 8
  have hG : ∀ i, i < 8 → gI (gradeL l w 8) i = gradeV l w ((i + 1 : Nat) : Int) := fun i hi => gradeL_get l w hi
  obtain ⟨qn, hqn⟩ : ∃ qn : Nat, (qn : Int) = b % 8 := ⟨(b % 8).toNat, by omega⟩
  have hq8 : qn < 8 := by omega
  have hv2 : OkW ⟨w.x, w.y, ((qn + 1 : Nat) : Int)⟩ := wn_ok hv (by omega) (by omega)
  have h02 : okWn l ⟨w.x, w.y, ((qn + 1 : Nat) : Int)⟩ = 0 := (okWn_iff _ _).2 ⟨hl, hv2⟩
  have hGq : gI (gradeL l w 8) qn = if costB l ⟨w.x, w.y, ((qn + 1 : Nat) : Int)⟩ = MX then -1 else costB l ⟨w.x, w.y, ((qn + 1 : Nat) : Int)⟩ := (hG qn hq8).trans (gradeV_at l w _)
  have m2 := cheapest21 l ⟨w.x, w.y, ((qn + 1 : Nat) : Int)⟩
  have m3 := wider22 l ⟨w.x, w.y, ((qn + 1 : Nat) : Int)⟩
  obtain ⟨wd1, wd2, wd3⟩ := widF_spec hl hv2 20 (Nat.le_refl _) (fun b hb => by omega)
  rw [h02, show wiN l ⟨w.x, w.y, ((qn + 1 : Nat) : Int)⟩ = (widF l ⟨w.x, w.y, ((qn + 1 : Nat) : Int)⟩ 20 : Nat) by unfold wiN; rw [if_pos h02]] at m3
  generalize widF l ⟨w.x, w.y, ((qn + 1 : Nat) : Int)⟩ 20 = bn at *
  have hstep : ∀ k, k < 7 → ¬ gI (gradeL l w 8) (k + 1) < -1 ∧ (gI (gradeL l w 8) k = -1 → gI (gradeL l w 8) (k + 1) = -1) ∧ (gI (gradeL l w 8) (k + 1) ≠ -1 → gI (gradeL l w 8) k ≤ gI (gradeL l w 8) (k + 1)) := fun k hk => by
    rw [hG k (by omega), hG (k + 1) (by omega)]
    exact grade_step hl hv (by omega) (by omega) (by omega)
  have hgl : ∀ i, i < 8 → (gradeL l w 8)[i]? = some (gI (gradeL l w 8) i) := fun i hi => gI_lt (by omega)
  clear hG eg
  have hb20 : (bn : Int) ≤ 20 := by omega
  have wd := widened34 ⟨w.x, w.y, ((qn + 1 : Nat) : Int)⟩ bn hv2 (by omega) hb20
  have wdp := fun h : 0 < bn => widened34 ⟨w.x, w.y, ((qn + 1 : Nat) : Int)⟩ ((bn - 1 : Nat) : Int) hv2 (by omega) (by omega)
  have m4 := cheapest21 l (widenW ⟨w.x, w.y, ((qn + 1 : Nat) : Int)⟩ bn)
  have m5 := cheapest21 l (widenW ⟨w.x, w.y, ((qn + 1 : Nat) : Int)⟩ ((bn - 1 : Nat) : Int))
  have h04 : ∀ c : Int, 0 ≤ c → okWn l (widenW ⟨w.x, w.y, ((qn + 1 : Nat) : Int)⟩ c) = 0 := fun c hc => (okWn_iff _ _).2 ⟨hl, widen_ok hv2 hc⟩
  have e4 : chE l (widenW ⟨w.x, w.y, ((qn + 1 : Nat) : Int)⟩ bn) = 0 := by
    rcases chE_val (h04 bn (by omega)) with h | h
    · exact h.2.1
    · exact absurd h.1 wd2
  have e5 : 0 < bn → chE l (widenW ⟨w.x, w.y, ((qn + 1 : Nat) : Int)⟩ ((bn - 1 : Nat) : Int)) = 13 := fun h => by
    rcases chE_val (h04 ((bn - 1 : Nat) : Int) (by omega)) with h2 | h2
    · exact absurd (wd3 (bn - 1) (by omega)) h2.1
    · exact h2.2.1
  rw [e4] at m4
  have hch := chE_val h02
  clear h04 e4 wd2 wd3
  generalize widenW ⟨w.x, w.y, ((qn + 1 : Nat) : Int)⟩ bn = W4 at *
  generalize widenW ⟨w.x, w.y, ((qn + 1 : Nat) : Int)⟩ ((bn - 1 : Nat) : Int) = W5 at *
  generalize gradeL l w 8 = G at *
  have w8 : wr .i64 b = b := wr_in (by omega)
  have t8 := tmod_8 hb0
  have w9 : wr .i64 (1 + b % 8) = ((qn + 1 : Nat) : Int) := by rw [wr_in (by omega)]; omega
  have w10 : wr .i64 (((qn + 1 : Nat) : Int) - 1) = (qn : Int) := by rw [wr_in (by omega)]; omega
  have w0 : wr .i64 (b % 8) = b % 8 := wr_in (by omega)
  unfold wnV wnC at h1 m1 m2 m3 m4 m5 wd
  unfold wnV wnC at wdp
  unfold dys at h1 m1 m2 m3 m4 m5
  simp (maxSteps := 2000000) only [go_sem, reduceIte, Nat.reduceEqDiff, Nat.reduceAdd, Int.reduceNeg, lk11, wnV, wnC, dys]
  refine aops_pure' (h1) rfl rfl (by first | exact wk_refls _ | (repeat constructor)) ?_
  simp (maxSteps := 2000000) only [go_sem, reduceIte, Nat.reduceEqDiff, Nat.reduceAdd, Int.reduceNeg, lk11]
  refine aops_pure' (m1) rfl rfl (by first | exact wk_refls _ | (repeat constructor)) ?_
  simp (maxSteps := 2000000) only [go_sem, reduceIte, Nat.reduceEqDiff, Nat.reduceAdd, Int.reduceNeg, lk11, hlen, ints]
  refine goE_loop (bad := []) (kp := kp11) (fun k : Nat => { slots := [(0, dys l), (2, .c (.d (.int .u8 b))), (4, .c (.ptr 0 0)), (7, ints G), (9, I ((k + 1 : Nat) : Int))], heap := [.cells (wnC w)], marks := [] }) (fun k => k ≤ 7) (fun k => 7 - k) 0 mo (by kernel_rfl) ?_ (Nat.zero_le _) ?_
  · refine ent_weaken [] rfl rfl (Nat.zero_le _) rfl rfl ?_
    simp (maxSteps := 2000000) only [go_sem, reduceIte, Nat.reduceEqDiff, Nat.reduceLT, lk11, dys, ints, wnC]
    all_goals first | exact .refl _ | exact ⟨.refl _, .refl _⟩ | exact ⟨.refl _, .refl _, .refl _⟩ | exact ⟨.refl _, _, rfl⟩ | exact ⟨_, rfl⟩ | exact ⟨.refl _, [], by simp⟩ | exact ⟨[], by simp⟩
  rintro k hk
  simp (maxSteps := 2000000) only [go_sem, reduceIte, Nat.reduceEqDiff, Nat.reduceAdd, Int.reduceNeg, lk11, dys, ints, wnC]
  by_cases hlt : k < 7
  · have hlt' : ((k + 1 : Nat) : Int) < 8 := by omega
    obtain ⟨s1, s2, s3⟩ := hstep k hlt
    have g1 := hgl (k + 1) (by omega)
    have g0 := hgl k (by omega)
    have k8 : (k : Int) < 8 := by omega
    have m7 : 7 - (k + 1) < 7 - k := by omega
    have w6 : wr .i64 (((k + 1 : Nat) : Int) - 1) = (k : Int) := by rw [wr_in (by omega)]; omega
    have w7 : wr .i64 (((k + 1 : Nat) : Int) + 1) = ((k + 1 + 1 : Nat) : Int) := wr_succ (n := 9) (by omega) (by decide)
    by_cases c1 : gI G k = -1
    · have c2 := s2 c1
      simp (maxSteps := 2000000) only [go_sem, reduceIte, Nat.reduceEqDiff, Nat.reduceAdd, Int.reduceNeg, Int.reduceLT, lk11, hlen, hlt', k8, nn, g1, g0, iD, s1, w6, w7, c1, c2]
      refine ⟨k + 1, hlt, m7, ?_⟩
      refine ent_weaken [] rfl rfl (Nat.zero_le _) rfl rfl ?_
      simp (maxSteps := 2000000) only [go_sem, reduceIte, Nat.reduceEqDiff, Nat.reduceLT, lk11, dys, ints, wnC]
      all_goals first | exact .refl _ | exact ⟨.refl _, .refl _⟩ | exact ⟨.refl _, .refl _, .refl _⟩ | exact ⟨.refl _, _, rfl⟩ | exact ⟨_, rfl⟩ | exact ⟨.refl _, [], by simp⟩ | exact ⟨[], by simp⟩
    · by_cases c2 : gI G (k + 1) = -1
      · simp (maxSteps := 2000000) only [go_sem, reduceIte, Nat.reduceEqDiff, Nat.reduceAdd, Int.reduceNeg, Int.reduceLT, lk11, hlen, hlt', k8, nn, g1, g0, iD, s1, w6, w7, c1, c2]
        refine ⟨k + 1, hlt, m7, ?_⟩
        refine ent_weaken [] rfl rfl (Nat.zero_le _) rfl rfl ?_
        simp (maxSteps := 2000000) only [go_sem, reduceIte, Nat.reduceEqDiff, Nat.reduceLT, lk11, dys, ints, wnC]
        all_goals first | exact .refl _ | exact ⟨.refl _, .refl _⟩ | exact ⟨.refl _, .refl _, .refl _⟩ | exact ⟨.refl _, _, rfl⟩ | exact ⟨_, rfl⟩ | exact ⟨.refl _, [], by simp⟩ | exact ⟨[], by simp⟩
      · have c3 : ¬ gI G (k + 1) < gI G k := Int.not_lt.2 (s3 c2)
        simp (maxSteps := 2000000) only [go_sem, reduceIte, Nat.reduceEqDiff, Nat.reduceAdd, Int.reduceNeg, lk11, hlen, hlt', k8, nn, g1, g0, iD, s1, w6, w7, c1, c2, c3]
        refine ⟨k + 1, hlt, m7, ?_⟩
        refine ent_weaken [] rfl rfl (Nat.zero_le _) rfl rfl ?_
        simp (maxSteps := 2000000) only [go_sem, reduceIte, Nat.reduceEqDiff, Nat.reduceLT, lk11, dys, ints, wnC]
        all_goals first | exact .refl _ | exact ⟨.refl _, .refl _⟩ | exact ⟨.refl _, .refl _, .refl _⟩ | exact ⟨.refl _, _, rfl⟩ | exact ⟨_, rfl⟩ | exact ⟨.refl _, [], by simp⟩ | exact ⟨[], by simp⟩
  · have hlt' : ¬ ((k + 1 : Nat) : Int) < 8 := by omega
    have gq := hgl qn hq8
    have q8 : (qn : Int) < 8 := by omega
    have nb1 : ¬ (bn : Int) < 0 := by omega
    have nb2 : ¬ (20 : Int) < bn := by omega
    have nb3 : bn = 0 ∨ 0 < bn := by omega
    have nb4 : 0 < bn → ¬ (bn : Int) = 0 := fun h => by omega
    have w11 : 0 < bn → wr .i64 ((bn : Int) - 1) = ((bn - 1 : Nat) : Int) := fun h => by rw [wr_in (by omega)]; omega
    rcases hch with ⟨c1, x1, x2, x3⟩ | ⟨c1, x1, x2, x3⟩
    · rw [if_neg c1] at hGq
      rw [x1, x2] at m2
      simp (maxSteps := 2000000) only [go_sem, reduceIte, Nat.reduceEqDiff, Nat.reduceAdd, Nat.reduceBEq, Int.reduceNeg, Int.reduceEq, lk11, hlen, hlt', w8, t8, w0, w9]
      refine aops_pure' (m2) rfl rfl (by first | exact wk_refls _ | (repeat constructor)) ?_
      simp (maxSteps := 2000000) only [go_sem, reduceIte, Nat.reduceEqDiff, Nat.reduceAdd, Nat.reduceBEq, Int.reduceNeg, lk11, hlen, w10, nn, q8, gq, iD, hGq, c1]
      refine aops_pure' (m3) rfl rfl (by first | exact wk_refls _ | (repeat constructor)) ?_
      simp (maxSteps := 2000000) only [go_sem, reduceIte, Nat.reduceEqDiff, Nat.reduceAdd, lk11, nb1, nb2]
      refine aops_pure' (wd) rfl rfl (by first | exact wk_refls _ | (repeat constructor)) ?_
      simp (maxSteps := 2000000) only [go_sem, reduceIte, Nat.reduceEqDiff, lk11]
      refine aops_pure' (m4) rfl rfl (by first | exact wk_refls _ | (repeat constructor)) ?_
      simp (maxSteps := 2000000) only [go_sem, reduceIte, Nat.reduceEqDiff, Nat.reduceAdd, lk11]
      rcases nb3 with nb | nb
      · subst nb
        simp (maxSteps := 2000000) only [go_sem, reduceIte, Nat.reduceEqDiff, Nat.reduceAdd, lk11]
        refine aops_pure' (hw) rfl rfl (by first | exact wk_refls _ | (repeat constructor)) ?_
        simp (maxSteps := 2000000) only [go_sem, reduceIte, Nat.reduceEqDiff, lk11]
      · have w11' := w11 nb
        have nb4' := nb4 nb
        have wdp' := wdp nb
        have m5' := m5
        rw [e5 nb] at m5'
        simp (maxSteps := 2000000) only [go_sem, reduceIte, Nat.reduceEqDiff, Nat.reduceAdd, lk11, nb4', w11']
        refine aops_pure' (wdp') rfl rfl (by first | exact wk_refls _ | (repeat constructor)) ?_
        simp (maxSteps := 2000000) only [go_sem, reduceIte, Nat.reduceEqDiff, lk11]
        refine aops_pure' (m5') rfl rfl (by first | exact wk_refls _ | (repeat constructor)) ?_
        simp (maxSteps := 2000000) only [go_sem, reduceIte, Nat.reduceEqDiff, lk11]
        refine aops_pure' (hw) rfl rfl (by first | exact wk_refls _ | (repeat constructor)) ?_
        simp (maxSteps := 2000000) only [go_sem, reduceIte, Nat.reduceEqDiff, lk11]
    · rw [if_pos c1] at hGq
      rw [x1, x2] at m2
      simp (maxSteps := 2000000) only [go_sem, reduceIte, Nat.reduceEqDiff, Nat.reduceAdd, Nat.reduceBEq, Int.reduceNeg, Int.reduceEq, lk11, hlen, hlt', w8, t8, w0, w9]
      refine aops_pure' (m2) rfl rfl (by first | exact wk_refls _ | (repeat constructor)) ?_
      simp (maxSteps := 2000000) only [go_sem, reduceIte, Nat.reduceEqDiff, Nat.reduceAdd, Nat.reduceBEq, Int.reduceNeg, Int.reduceEq, lk11, hlen, w10, nn, q8, gq, iD, hGq, c1]
      refine aops_pure' (m3) rfl rfl (by first | exact wk_refls _ | (repeat constructor)) ?_
      simp (maxSteps := 2000000) only [go_sem, reduceIte, Nat.reduceEqDiff, Nat.reduceAdd, lk11, nb1, nb2]
      refine aops_pure' (wd) rfl rfl (by first | exact wk_refls _ | (repeat constructor)) ?_
      simp (maxSteps := 2000000) only [go_sem, reduceIte, Nat.reduceEqDiff, lk11]
      refine aops_pure' (m4) rfl rfl (by first | exact wk_refls _ | (repeat constructor)) ?_
      simp (maxSteps := 2000000) only [go_sem, reduceIte, Nat.reduceEqDiff, Nat.reduceAdd, lk11]
      rcases nb3 with nb | nb
      · subst nb
        simp (maxSteps := 2000000) only [go_sem, reduceIte, Nat.reduceEqDiff, Nat.reduceAdd, lk11]
        refine aops_pure' (hw) rfl rfl (by first | exact wk_refls _ | (repeat constructor)) ?_
        simp (maxSteps := 2000000) only [go_sem, reduceIte, Nat.reduceEqDiff, lk11]
      · have w11' := w11 nb
        have nb4' := nb4 nb
        have wdp' := wdp nb
        have m5' := m5
        rw [e5 nb] at m5'
        simp (maxSteps := 2000000) only [go_sem, reduceIte, Nat.reduceEqDiff, Nat.reduceAdd, lk11, nb4', w11']
        refine aops_pure' (wdp') rfl rfl (by first | exact wk_refls _ | (repeat constructor)) ?_
        simp (maxSteps := 2000000) only [go_sem, reduceIte, Nat.reduceEqDiff, lk11]
        refine aops_pure' (m5') rfl rfl (by first | exact wk_refls _ | (repeat constructor)) ?_
        simp (maxSteps := 2000000) only [go_sem, reduceIte, Nat.reduceEqDiff, lk11]
        refine aops_pure' (hw) rfl rfl (by first | exact wk_refls _ | (repeat constructor)) ?_
        simp (maxSteps := 2000000) only [go_sem, reduceIte, Nat.reduceEqDiff, lk11]
end Go.Proofs.Ytkbnmanfoejoiaa
