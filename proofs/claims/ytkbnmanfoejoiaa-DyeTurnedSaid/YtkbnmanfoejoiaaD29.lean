/- Dyes: the statement Prices. -/
import Derived.Test.YtkbnmanfoejoiaaDL6
import Derived.Test.YtkbnmanfoejoiaaD26
set_option linter.unusedSimpArgs false
set_option linter.unusedVariables false
set_option maxRecDepth 100000
namespace Go.Proofs.Ytkbnmanfoejoiaa
open Go Go.Abs Go.Proofs
def kp10 : List (Nat × List Nat) := [(0, [0, 2, 3, 5]), (1, [0, 2, 3, 5, 34]), (2, [8]), (3, [0, 3, 5, 9]), (4, [0, 3, 5, 9, 10, 11]), (5, [0, 3, 5, 9, 10, 11, 12]), (6, [0, 3, 5, 9, 10, 11, 12, 41]), (7, [0, 3, 5, 9, 10, 11, 12]), (8, [0, 3, 5, 9, 10, 11, 12, 13]), (9, [0, 3, 5, 9, 10, 11, 12, 13]), (10, [0, 3, 5, 9, 10, 11, 12]), (11, [0, 3, 5, 9, 10, 11, 15, 16]), (12, [0, 3, 5, 9, 10, 11, 15, 16, 85]), (13, [0, 3, 5, 9, 11, 15, 16, 18, 19]), (14, [0, 3, 5, 11, 16, 102]), (15, [8]), (16, [0, 3, 5, 16, 20, 21, 22]), (17, [0, 3, 5, 21, 22, 122]), (18, [8]), (19, [0, 5, 21, 22, 23]), (20, [21, 22, 23, 25]), (21, [8])]
theorem lk10 : lookK kp10 0 = some [0, 2, 3, 5] ∧ lookK kp10 1 = some [0, 2, 3, 5, 34] ∧ lookK kp10 2 = some [8] ∧ lookK kp10 3 = some [0, 3, 5, 9] ∧ lookK kp10 4 = some [0, 3, 5, 9, 10, 11] ∧ lookK kp10 5 = some [0, 3, 5, 9, 10, 11, 12] ∧ lookK kp10 6 = some [0, 3, 5, 9, 10, 11, 12, 41] ∧ lookK kp10 7 = some [0, 3, 5, 9, 10, 11, 12] ∧ lookK kp10 8 = some [0, 3, 5, 9, 10, 11, 12, 13] ∧ lookK kp10 9 = some [0, 3, 5, 9, 10, 11, 12, 13] ∧ lookK kp10 10 = some [0, 3, 5, 9, 10, 11, 12] ∧ lookK kp10 11 = some [0, 3, 5, 9, 10, 11, 15, 16] ∧ lookK kp10 12 = some [0, 3, 5, 9, 10, 11, 15, 16, 85] ∧ lookK kp10 13 = some [0, 3, 5, 9, 11, 15, 16, 18, 19] ∧ lookK kp10 14 = some [0, 3, 5, 11, 16, 102] ∧ lookK kp10 15 = some [8] ∧ lookK kp10 16 = some [0, 3, 5, 16, 20, 21, 22] ∧ lookK kp10 17 = some [0, 3, 5, 21, 22, 122] ∧ lookK kp10 18 = some [8] ∧ lookK kp10 19 = some [0, 5, 21, 22, 23] ∧ lookK kp10 20 = some [21, 22, 23, 25] ∧ lookK kp10 21 = some [8] := ⟨rfl, rfl, rfl, rfl, rfl, rfl, rfl, rfl, rfl, rfl, rfl, rfl, rfl, rfl, rfl, rfl, rfl, rfl, rfl, rfl, rfl, rfl⟩

theorem dapp_ok {n : Nat} (l : List Dy) (h : n ≤ 1000000) : ((l.all fun x => (dyD x).length == 4) && decide ((n + 1 + (n + 1) / 4 + 256) * 32 ≤ 281474976710656) && decide (n ≤ 140737488355327)) = true := by
  rw [show (l.all fun x => (dyD x).length == 4) = true from List.all_eq_true.2 fun _ _ => rfl]
  simp; omega
theorem take_setP {g : Dy → Int} {l : List Dy} {i : Nat} (h : i < l.length) : (setP g l).take (i + 1) = (setP g l).take i ++ [⟨(gD l i).a, (gD l i).b, g (gD l i), (gD l i).f⟩] := by
  have h1 := gD_lt (l := setP g l) (b := i) (by rw [setP_len]; exact h)
  rw [setP_get g h] at h1
  exact take_succ_eq h1
set_option maxHeartbeats 4000000 in
theorem pricesLaw (l : List Dy) (w : Wn) (k : Int) (by' : List Int) (hu : U8 by') (hk0 : 0 ≤ k) (hk : k < 256) : Pure Try.prog 10 [dys l, wnV w, .c (.d (.int .u8 k)), u8s by'] (B true) := by
  refine pure_wkE (bad := []) (kp := kp10) (X := tx) (nt := 148) (rs := [.tmp 8]) Try.func10 rfl rfl rfl rfl mo (by kernel_rfl) rfl rfl (fun hf => ?_)
  have h1 := fine32 l w
  have hw := works13
  by_cases h0 : okWn l w = 0
  case neg =>
    rw [decide_eq_false h0] at h1
    unfold wnV wnC at h1
    simp (maxSteps := 2000000) only [go_sem, reduceIte, Nat.reduceEqDiff, Nat.reduceAdd, lk10, wnV, wnC]
    refine aops_pure' (h1) rfl rfl (by first | exact wk_refls _ | (repeat constructor)) ?_
    simp (maxSteps := 2000000) only [go_sem, reduceIte, Nat.reduceEqDiff, Nat.reduceAdd, lk10]
    refine aops_pure' (hw) rfl rfl (by first | exact wk_refls _ | (repeat constructor)) ?_
    simp (maxSteps := 2000000) only [go_sem, reduceIte, Nat.reduceEqDiff, lk10]
  obtain ⟨hl, hv⟩ := (okWn_iff l w).1 h0
  rw [decide_eq_true h0] at h1
  by_cases h2 : 12 < by'.length
  · have h2' : (12 : Int) < by'.length := by omega
    unfold wnV wnC at h1
    simp (maxSteps := 2000000) only [go_sem, reduceIte, Nat.reduceEqDiff, Nat.reduceAdd, lk10, wnV, wnC, u8s]
    refine aops_pure' (h1) rfl rfl (by first | exact wk_refls _ | (repeat constructor)) ?_
    simp (maxSteps := 2000000) only [go_sem, reduceIte, Nat.reduceEqDiff, Nat.reduceAdd, lk10, h2']
    refine aops_pure' (hw) rfl rfl (by first | exact wk_refls _ | (repeat constructor)) ?_
    simp (maxSteps := 2000000) only [go_sem, reduceIte, Nat.reduceEqDiff, lk10]
  have h2' : ¬ (12 : Int) < by'.length := by omega
  have h8 := hl.n8
  have wk : wr .i64 k = k := wr_in (by omega)
  unfold wnV wnC dys at h1
  simp (maxSteps := 2000000) only [go_sem, reduceIte, Nat.reduceEqDiff, Nat.reduceAdd, lk10, wnV, wnC, u8s, dys]
  refine aops_pure' (h1) rfl rfl (by first | exact wk_refls _ | (repeat constructor)) ?_
  simp (maxSteps := 2000000) only [go_sem, reduceIte, Nat.reduceEqDiff, Nat.reduceAdd, lk10, h2', wk]
  refine goE_loop (bad := []) (kp := kp10) (fun i : Nat => { slots := [(0, dys l), (3, u8s by'), (5, .c (.ptr 0 0)), (9, I k), (10, .c (.own 1 (((setP (fun d => k * d.p) l).take i).map dyD))), (11, .c (.own 2 (((setP (fun _ => 1) l).take i).map dyD))), (12, I i)], heap := [.cells (wnC w), .grow i 4, .grow i 4], marks := [] }) (fun i => i ≤ l.length) (fun i => l.length - i) 0 mo (by kernel_rfl) ?_ (Nat.zero_le _) ?_
  · refine Ent.trans (ent_own 10 4 rfl) (Ent.trans (ent_own 11 4 rfl) ?_)
    refine ent_weaken [] rfl rfl (Nat.zero_le _) rfl rfl ?_
    simp (maxSteps := 2000000) only [go_sem, reduceIte, Nat.reduceEqDiff, Nat.reduceAdd, Nat.reduceLT, lk10, dys, u8s, wnC, List.take_zero, List.map_nil]
    all_goals first | exact .refl _ | exact ⟨.refl _, .refl _⟩ | exact ⟨.refl _, .refl _, .refl _⟩ | exact ⟨.refl _, _, rfl⟩ | exact ⟨_, rfl⟩ | exact ⟨.refl _, [], by simp⟩ | exact ⟨[], by simp⟩
  rintro i hi
  simp (maxSteps := 2000000) only [go_sem, reduceIte, Nat.reduceEqDiff, Nat.reduceAdd, lk10, dys, u8s, wnC]
  by_cases hlt : i < l.length
  · have hlt' : (i : Int) < l.length := by omega
    have g1 := gD_lt hlt
    have hd := hl.g hlt
    have p0 := hd.p0
    have p6 := hd.p6
    have q1 := mulb hk0 (show k ≤ 255 by omega) p0 p6
    have k1 := kind35 (gD l i).a (gD l i).b (k * (gD l i).p) (gD l i).f
    have k2 := kind35 (gD l i).a (gD l i).b 1 (gD l i).f
    have m1 : l.length - (i + 1) < l.length - i := by omega
    have ha1 := dapp_ok (n := i) ((setP (fun d => k * d.p) l).take i) (by omega)
    have ha2 := dapp_ok (n := i) ((setP (fun _ => 1) l).take i) (by omega)
    have tl1 : ((setP (fun d => k * d.p) l).take i).length = i := by rw [List.length_take, setP_len]; omega
    have tl2 : ((setP (fun _ => 1) l).take i).length = i := by rw [List.length_take, setP_len]; omega
    have ts1 := take_setP (g := fun d => k * d.p) hlt
    have ts2 := take_setP (g := fun _ => 1) hlt
    generalize (setP (fun d => k * d.p) l).take i = A0 at *
    generalize (setP (fun _ => 1) l).take i = B0 at *
    have w1 : wr .i64 (k * (gD l i).p) = k * (gD l i).p := wr_in (by omega)
    have w7 : wr .i64 ((i : Int) + 1) = ((i + 1 : Nat) : Int) := wr_succ hlt (by omega)
    unfold dyV dyC at k1 k2
    simp (maxSteps := 2000000) only [go_sem, reduceIte, Nat.reduceEqDiff, Nat.reduceAdd, Nat.reduceLeDiff, Nat.reduceBEq, Nat.reduceMul, Int.reduceLT, Int.reduceLE, Int.reduceToNat, lk10, hlt', nn, g1, dyD, w1]
    refine aops_pure' (k1) rfl rfl (by first | exact wk_refls _ | (repeat constructor)) ?_
    simp (maxSteps := 2000000) only [go_sem, reduceIte, Nat.reduceEqDiff, Nat.reduceAdd, Nat.reduceLT, Nat.reduceLeDiff, Nat.reduceBEq, Nat.reduceMul, lk10, tl1, ha1]
    refine aops_pure' (k2) rfl rfl (by first | exact wk_refls _ | (repeat constructor)) ?_
    simp (maxSteps := 2000000) only [go_sem, reduceIte, Nat.reduceEqDiff, Nat.reduceAdd, Nat.reduceLT, Nat.reduceLeDiff, Nat.reduceBEq, Nat.reduceMul, lk10, tl2, ha2, w7]
    refine ⟨i + 1, hlt, m1, ?_⟩
    refine ent_weaken [.cells (dyC (gD l i))] rfl rfl (Nat.zero_le _) rfl rfl ?_
    simp (maxSteps := 2000000) only [go_sem, reduceIte, Nat.reduceEqDiff, Nat.reduceAdd, Nat.reduceLT, lk10, ts1, ts2, List.map_append, dys, u8s, wnC, dyD]
    all_goals first | exact .refl _ | exact ⟨.refl _, .refl _⟩ | exact ⟨.refl _, .refl _, .refl _⟩ | exact ⟨.refl _, _, rfl⟩ | exact ⟨_, rfl⟩ | exact ⟨.refl _, [], by simp⟩ | exact ⟨[], by simp⟩
  · have hlt' : ¬ (i : Int) < l.length := by omega
    have ei : i = l.length := by omega
    subst ei
    have tk : ∀ g, (setP g l).take l.length = setP g l := fun g => List.take_of_length_le (by rw [setP_len]; exact Nat.le_refl _)
    have m1 := cheapest21 l w
    have fx := fine32 (setP (fun d => k * d.p) l) w
    have m2 := cheapest21 (setP (fun d => k * d.p) l) w
    have hO := ones_ok hl
    have o0 : okWn (setP (fun _ => 1) l) w = 0 := (okWn_iff _ _).2 ⟨hO, hv⟩
    have m3 := cheapest21 (setP (fun _ => 1) l) w
    have r33 := recipe33 l by' h8 hu
    have k16 := check16 l w (recL l.length by')
    have gry := grains36 (recL l.length by') (recL_ok (l := l) by').b (by rw [recL_len]; omega)
    have hyle : chkE l w (recL l.length by') = 0 → costB (setP (fun _ => 1) l) w ≤ sumF (gI (recL l.length by')) (recL l.length by').length := fun h => by
      have hf := (chkE_iff.1 h).2
      have := fits_le hO hv (setP_fits.2 hf)
      rwa [ones_sum hf.ok.ln] at this
    have hyn0 : costB l w = MX → ¬ chkE l w (recL l.length by') = 0 := fun h h2 => fits_lt2 hl hv (chkE_iff.1 h2).2 h
    have hON := setP_none (g := fun _ => 1) hl hv hO
    generalize recL l.length by' = y at *
    rcases chE_val h0 with ⟨c1, e1, e2, e3⟩ | ⟨c1, e1, e2, e3⟩
    · obtain ⟨oc, o1, o2, o3⟩ : costB (setP (fun _ => 1) l) w ≠ MX ∧ chE (setP (fun _ => 1) l) w = 0 ∧ chC (setP (fun _ => 1) l) w = costB (setP (fun _ => 1) l) w ∧ chR (setP (fun _ => 1) l) w = bestR (setP (fun _ => 1) l) w := by
        rcases chE_val o0 with h | h
        · exact h
        · exact absurd (hON.1 h.1) c1
      have hbl := bestR_fits hO hv oc
      have gr3 := grains36 (bestR (setP (fun _ => 1) l) w) hbl.ok.b (by rw [hbl.ok.ln, setP_len]; omega)
      have hgs : sumF (gI (bestR (setP (fun _ => 1) l) w)) (bestR (setP (fun _ => 1) l) w).length = costB (setP (fun _ => 1) l) w := by
        rw [← (bestR_law hO hv oc).2.2.2, ones_sum (hbl.ok.ln.trans (setP_len _ _))]
      rw [hgs] at gr3
      have hcb := (bestR_law hl hv c1).2.2.2
      have hsb := s_bounds hl (bestR_fits hl hv c1).ok (n := l.length) (Nat.le_refl _)
      have hc6 : 0 ≤ costB l w ∧ costB l w ≤ 160000000 := by omega
      have hkc := mulb hk0 (show k ≤ 255 by omega) hc6.1 hc6.2
      have wkc : wr .i64 (k * costB l w) = k * costB l w := wr_in (by omega)
      clear hgs hbl hcb hsb
      rw [e1, e2] at m1
      rw [o1, o2, o3] at m3
      unfold wnV wnC dys at m1 fx m2 m3 k16
      unfold dys u8s at r33
      simp (maxSteps := 2000000) only [go_sem, reduceIte, Nat.reduceEqDiff, Nat.reduceAdd, lk10, hlt', tk]
      refine aops_pure' (m1) rfl rfl (by first | exact wk_refls _ | (repeat constructor)) ?_
      simp (maxSteps := 2000000) only [go_sem, reduceIte, Nat.reduceEqDiff, Nat.reduceAdd, lk10]
      by_cases hx0 : okWn (setP (fun d => k * d.p) l) w = 0
      · have hX := ((okWn_iff _ _).1 hx0).1
        rw [decide_eq_true hx0] at fx
        have hXN := setP_none (g := fun d => k * d.p) hl hv hX
        obtain ⟨x1, x2⟩ : chE (setP (fun d => k * d.p) l) w = 0 ∧ chC (setP (fun d => k * d.p) l) w = k * costB l w := by
          rcases chE_val hx0 with h | h
          · exact ⟨h.2.1, h.2.2.1.trans (times_cost hk0 hl hv hX c1)⟩
          · exact absurd (hXN.1 h.1) c1
        rw [x1, x2] at m2
        refine aops_pure' (fx) rfl rfl (by first | exact wk_refls _ | (repeat constructor)) ?_
        simp (maxSteps := 2000000) only [go_sem, reduceIte, Nat.reduceEqDiff, Nat.reduceAdd, lk10]
        refine aops_pure' (m2) rfl rfl (by first | exact wk_refls _ | (repeat constructor)) ?_
        simp (maxSteps := 2000000) only [go_sem, reduceIte, Nat.reduceEqDiff, Nat.reduceAdd, lk10, wkc]
        refine aops_pure' (m3) rfl rfl (by first | exact wk_refls _ | (repeat constructor)) ?_
        simp (maxSteps := 2000000) only [go_sem, reduceIte, Nat.reduceEqDiff, lk10, o1, o2]
        refine aops_pure' (gr3) rfl rfl (by first | exact wk_refls _ | (repeat constructor)) ?_
        simp (maxSteps := 2000000) only [go_sem, reduceIte, Nat.reduceEqDiff, Nat.reduceAdd, lk10]
        refine aops_pure' (r33) rfl rfl (by first | exact wk_refls _ | (repeat constructor)) ?_
        simp (maxSteps := 2000000) only [go_sem, reduceIte, Nat.reduceEqDiff, Nat.reduceAdd, lk10]
        by_cases hy : chkE l w y = 0
        · have hge := hyle hy
          rw [hy] at k16
          refine aops_pure' (k16) rfl rfl (by first | exact wk_refls _ | (repeat constructor)) ?_
          simp (maxSteps := 2000000) only [go_sem, reduceIte, Nat.reduceEqDiff, lk10]
          refine aops_pure' (gry) rfl rfl (by first | exact wk_refls _ | (repeat constructor)) ?_
          simp (maxSteps := 2000000) only [go_sem, reduceIte, Nat.reduceEqDiff, lk10, hge]
          refine aops_pure' (hw) rfl rfl (by first | exact wk_refls _ | (repeat constructor)) ?_
          simp (maxSteps := 2000000) only [go_sem, reduceIte, Nat.reduceEqDiff, lk10]
        · refine aops_pure' (k16) rfl rfl (by first | exact wk_refls _ | (repeat constructor)) ?_
          simp (maxSteps := 2000000) only [go_sem, reduceIte, Nat.reduceEqDiff, lk10, hy]
          refine aops_pure' (hw) rfl rfl (by first | exact wk_refls _ | (repeat constructor)) ?_
          simp (maxSteps := 2000000) only [go_sem, reduceIte, Nat.reduceEqDiff, lk10]
      · rw [decide_eq_false hx0] at fx
        refine aops_pure' (fx) rfl rfl (by first | exact wk_refls _ | (repeat constructor)) ?_
        simp (maxSteps := 2000000) only [go_sem, reduceIte, Nat.reduceEqDiff, Nat.reduceAdd, lk10]
        refine aops_pure' (m3) rfl rfl (by first | exact wk_refls _ | (repeat constructor)) ?_
        simp (maxSteps := 2000000) only [go_sem, reduceIte, Nat.reduceEqDiff, lk10, o1, o2]
        refine aops_pure' (gr3) rfl rfl (by first | exact wk_refls _ | (repeat constructor)) ?_
        simp (maxSteps := 2000000) only [go_sem, reduceIte, Nat.reduceEqDiff, Nat.reduceAdd, lk10]
        refine aops_pure' (r33) rfl rfl (by first | exact wk_refls _ | (repeat constructor)) ?_
        simp (maxSteps := 2000000) only [go_sem, reduceIte, Nat.reduceEqDiff, Nat.reduceAdd, lk10]
        by_cases hy : chkE l w y = 0
        · have hge := hyle hy
          rw [hy] at k16
          refine aops_pure' (k16) rfl rfl (by first | exact wk_refls _ | (repeat constructor)) ?_
          simp (maxSteps := 2000000) only [go_sem, reduceIte, Nat.reduceEqDiff, lk10]
          refine aops_pure' (gry) rfl rfl (by first | exact wk_refls _ | (repeat constructor)) ?_
          simp (maxSteps := 2000000) only [go_sem, reduceIte, Nat.reduceEqDiff, lk10, hge]
          refine aops_pure' (hw) rfl rfl (by first | exact wk_refls _ | (repeat constructor)) ?_
          simp (maxSteps := 2000000) only [go_sem, reduceIte, Nat.reduceEqDiff, lk10]
        · refine aops_pure' (k16) rfl rfl (by first | exact wk_refls _ | (repeat constructor)) ?_
          simp (maxSteps := 2000000) only [go_sem, reduceIte, Nat.reduceEqDiff, lk10, hy]
          refine aops_pure' (hw) rfl rfl (by first | exact wk_refls _ | (repeat constructor)) ?_
          simp (maxSteps := 2000000) only [go_sem, reduceIte, Nat.reduceEqDiff, lk10]
    · obtain ⟨oc, o1, o2, o3⟩ : costB (setP (fun _ => 1) l) w = MX ∧ chE (setP (fun _ => 1) l) w = 13 ∧ chC (setP (fun _ => 1) l) w = 0 ∧ chR (setP (fun _ => 1) l) w = [] := by
        rcases chE_val o0 with h | h
        · exact absurd (hON.2 c1) h.1
        · exact h
      have hyn := hyn0 c1
      have wk0 : wr .i64 (k * 0) = 0 := by rw [Int.mul_zero]; rfl
      rw [e1, e2] at m1
      rw [o1, o2, o3] at m3
      unfold wnV wnC dys at m1 fx m2 m3 k16
      unfold dys u8s at r33
      simp (maxSteps := 2000000) only [go_sem, reduceIte, Nat.reduceEqDiff, Nat.reduceAdd, lk10, hlt', tk]
      refine aops_pure' (m1) rfl rfl (by first | exact wk_refls _ | (repeat constructor)) ?_
      simp (maxSteps := 2000000) only [go_sem, reduceIte, Nat.reduceEqDiff, Nat.reduceAdd, lk10]
      by_cases hx0 : okWn (setP (fun d => k * d.p) l) w = 0
      · have hX := ((okWn_iff _ _).1 hx0).1
        rw [decide_eq_true hx0] at fx
        have hXN := setP_none (g := fun d => k * d.p) hl hv hX
        obtain ⟨x1, x2⟩ : chE (setP (fun d => k * d.p) l) w = 13 ∧ chC (setP (fun d => k * d.p) l) w = 0 := by
          rcases chE_val hx0 with h | h
          · exact absurd (hXN.2 c1) h.1
          · exact ⟨h.2.1, h.2.2.1⟩
        rw [x1, x2] at m2
        refine aops_pure' (fx) rfl rfl (by first | exact wk_refls _ | (repeat constructor)) ?_
        simp (maxSteps := 2000000) only [go_sem, reduceIte, Nat.reduceEqDiff, Nat.reduceAdd, lk10]
        refine aops_pure' (m2) rfl rfl (by first | exact wk_refls _ | (repeat constructor)) ?_
        simp (maxSteps := 2000000) only [go_sem, reduceIte, Nat.reduceEqDiff, Nat.reduceAdd, lk10, wk0]
        refine aops_pure' (m3) rfl rfl (by first | exact wk_refls _ | (repeat constructor)) ?_
        simp (maxSteps := 2000000) only [go_sem, reduceIte, Nat.reduceEqDiff, Nat.reduceAdd, Int.reduceEq, lk10, o1, o2]
        refine aops_pure' (r33) rfl rfl (by first | exact wk_refls _ | (repeat constructor)) ?_
        simp (maxSteps := 2000000) only [go_sem, reduceIte, Nat.reduceEqDiff, Nat.reduceAdd, lk10]
        refine aops_pure' (k16) rfl rfl (by first | exact wk_refls _ | (repeat constructor)) ?_
        simp (maxSteps := 2000000) only [go_sem, reduceIte, Nat.reduceEqDiff, lk10, hyn]
        refine aops_pure' (hw) rfl rfl (by first | exact wk_refls _ | (repeat constructor)) ?_
        simp (maxSteps := 2000000) only [go_sem, reduceIte, Nat.reduceEqDiff, lk10]
      · rw [decide_eq_false hx0] at fx
        refine aops_pure' (fx) rfl rfl (by first | exact wk_refls _ | (repeat constructor)) ?_
        simp (maxSteps := 2000000) only [go_sem, reduceIte, Nat.reduceEqDiff, Nat.reduceAdd, lk10]
        refine aops_pure' (m3) rfl rfl (by first | exact wk_refls _ | (repeat constructor)) ?_
        simp (maxSteps := 2000000) only [go_sem, reduceIte, Nat.reduceEqDiff, Nat.reduceAdd, Int.reduceEq, lk10, o1, o2]
        refine aops_pure' (r33) rfl rfl (by first | exact wk_refls _ | (repeat constructor)) ?_
        simp (maxSteps := 2000000) only [go_sem, reduceIte, Nat.reduceEqDiff, Nat.reduceAdd, lk10]
        refine aops_pure' (k16) rfl rfl (by first | exact wk_refls _ | (repeat constructor)) ?_
        simp (maxSteps := 2000000) only [go_sem, reduceIte, Nat.reduceEqDiff, lk10, hyn]
        refine aops_pure' (hw) rfl rfl (by first | exact wk_refls _ | (repeat constructor)) ?_
        simp (maxSteps := 2000000) only [go_sem, reduceIte, Nat.reduceEqDiff, lk10]
end Go.Proofs.Ytkbnmanfoejoiaa
