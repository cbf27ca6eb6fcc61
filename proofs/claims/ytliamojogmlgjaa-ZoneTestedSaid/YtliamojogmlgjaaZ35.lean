/- Zones: the statement Tested. -/
import Derived.Test.YtliamojogmlgjaaZ30
set_option linter.unusedSimpArgs false
set_option linter.unusedVariables false
set_option maxRecDepth 100000
namespace Go.Proofs.Ytliamojogmlgjaa
open Go Go.Abs Go.Proofs
def kp13 : List (Nat × List Nat) := [(0, [1, 2, 3, 4]), (1, [1, 2, 3, 4, 31]), (2, [8]), (3, [2, 3, 4, 9]), (4, [2, 3, 4, 9, 10, 11, 12]), (5, [2, 3, 4, 9, 10, 11, 12, 13, 14]), (6, [2, 3, 4, 9, 10, 11, 13, 86]), (7, [8]), (8, [3, 4, 9, 10, 11, 13, 15]), (9, [4, 9, 10, 11, 13, 16]), (10, [11, 13, 17, 18]), (11, [11, 13, 17, 119]), (12, [8]), (13, [11, 13, 17, 122]), (14, [8]), (15, [11, 12, 13, 19]), (16, [8])]
theorem lk13 : lookK kp13 0 = some [1, 2, 3, 4] ∧ lookK kp13 1 = some [1, 2, 3, 4, 31] ∧ lookK kp13 2 = some [8] ∧ lookK kp13 3 = some [2, 3, 4, 9] ∧ lookK kp13 4 = some [2, 3, 4, 9, 10, 11, 12] ∧ lookK kp13 5 = some [2, 3, 4, 9, 10, 11, 12, 13, 14] ∧ lookK kp13 6 = some [2, 3, 4, 9, 10, 11, 13, 86] ∧ lookK kp13 7 = some [8] ∧ lookK kp13 8 = some [3, 4, 9, 10, 11, 13, 15] ∧ lookK kp13 9 = some [4, 9, 10, 11, 13, 16] ∧ lookK kp13 10 = some [11, 13, 17, 18] ∧ lookK kp13 11 = some [11, 13, 17, 119] ∧ lookK kp13 12 = some [8] ∧ lookK kp13 13 = some [11, 13, 17, 122] ∧ lookK kp13 14 = some [8] ∧ lookK kp13 15 = some [11, 12, 13, 19] ∧ lookK kp13 16 = some [8] := ⟨rfl, rfl, rfl, rfl, rfl, rfl, rfl, rfl, rfl, rfl, rfl, rfl, rfl, rfl, rfl, rfl, rfl⟩

theorem sp_le {l : La} (ok : OkLa l) (hd : dbB l = false) : spLo l ≤ spHi l := sumW_le (fun k hk => (ok.wr k hk).1) (fun k hk => dbB_no hd hk)
theorem ts_span {l : La} (ok : OkLa l) (h10 : l.an.length ≤ 10) {k : Nat} (hk : k < l.we.length) {r : Rg} (hr : 0 ≤ r.lo ∧ r.lo ≤ r.hi ∧ r.hi ≤ 200) : spLo l ≤ spLo (tsL l k r) ∧ spHi (tsL l k r) ≤ spHi l := by
  unfold spLo spHi
  rw [ts_we]
  exact ⟨sumW_le (fun j hj => (ok.wr j hj).1) (fun j hj => (ts_more ok h10 hk hr hj).1), sumW_le (fun j hj => (ok.wr j hj).1) (fun j hj => (ts_more ok h10 hk hr hj).2)⟩
theorem nxW_range {l : La} (ok : OkLa l) (h10 : l.an.length ≤ 10) (hd : dbB l = false) {k : Nat} (hk : k < l.we.length) {off : Int} (h0 : 0 ≤ off) : ∀ j, j ≤ nxJ l off k → 0 ≤ nxW l off k j ∧ nxW l off k j ≤ spHi l - spLo l
  | 0, _ => by
    have := sp_le ok hd
    exact ⟨Int.le_refl _, by show (0 : Int) ≤ _; omega⟩
  | j + 1, hj => by
    have ih := nxW_range ok h10 hd hk h0 j (by omega)
    have s := ts_span ok h10 hk (nxR_ok ok hk h0 (show j < nxJ l off k by omega))
    rw [nxW]
    split
    · rename_i ht
      unfold tdN
      rw [if_pos ht]; omega
    · exact ih
theorem nxW_ge {l : La} {off : Int} {k j : Nat} (ht : tdO l k (nxR l off k j) = true) : ∀ m, j < m → tdN l k (nxR l off k j) ≤ nxW l off k m
  | 0, h => by omega
  | m + 1, h => by
    rw [nxW]
    by_cases e : j = m
    · subst e
      rw [if_pos ht]; omega
    · have ih := nxW_ge ht m (by omega)
      split <;> omega
/-- A test at the degree that is returned, whatever it tells. -/
theorem tested_law {l : La} (ok : OkLa l) (h10 : l.an.length ≤ 10) (hd : dbB l = false) {K : Nat} (hK : K < l.we.length) {o : Int} (o0 : 0 ≤ o) (o2 : o ≤ 20) {f : Nat → Int} (hf : True' l.we.length (dir l) (L0 l) (H0 l) f) {q : Int} (q0 : 0 ≤ q) (qo : q ≤ o) :
    tsO l K ⟨max 0 (f K - q), min 200 (f K - q + o)⟩ = true ∧ dbB (tsL l K ⟨max 0 (f K - q), min 200 (f K - q + o)⟩) = false ∧ spLo l ≤ spLo (tsL l K ⟨max 0 (f K - q), min 200 (f K - q + o)⟩) ∧ spHi (tsL l K ⟨max 0 (f K - q), min 200 (f K - q + o)⟩) ≤ spHi l
      ∧ spLo (tsL l K ⟨max 0 (f K - q), min 200 (f K - q + o)⟩) ≤ spHi (tsL l K ⟨max 0 (f K - q), min 200 (f K - q + o)⟩) ∧ spHi (tsL l K ⟨max 0 (f K - q), min 200 (f K - q + o)⟩) - spLo (tsL l K ⟨max 0 (f K - q), min 200 (f K - q + o)⟩) ≤ nxA l o K := by
  have hb := true_between hf hK
  have hb : bl l K ≤ f K ∧ f K ≤ bh l K := hb
  have r1 := bl_range ok hK
  have r2 := bh_range ok hK
  have hr : 0 ≤ (⟨max 0 (f K - q), min 200 (f K - q + o)⟩ : Rg).lo ∧ (⟨max 0 (f K - q), min 200 (f K - q + o)⟩ : Rg).lo ≤ (⟨max 0 (f K - q), min 200 (f K - q + o)⟩ : Rg).hi ∧ (⟨max 0 (f K - q), min 200 (f K - q + o)⟩ : Rg).hi ≤ 200 := by dsimp only; omega
  obtain ⟨t1, t2, t3⟩ := ts_true ok h10 hK hr hf (by dsimp only; omega)
  have hs := ts_span ok h10 hK hr
  have okT := ts_ok ok h10 hK hr t1
  have hle := sp_le okT t2
  have eR : nxR l o K (f K - q - (bl l K - o)).toNat = ⟨max 0 (f K - q), min 200 (f K - q + o)⟩ := by
    unfold nxR nxM
    have e : bl l K - o + (((f K - q - (bl l K - o)).toNat : Nat) : Int) = f K - q := by omega
    rw [e]
  have hj : (f K - q - (bl l K - o)).toNat < nxJ l o K := by unfold nxJ; omega
  have htd : tdO l K (nxR l o K (f K - q - (bl l K - o)).toNat) = true := by
    rw [eR]; unfold tdO; rw [t1, t2]; rfl
  have hg := nxW_ge htd _ hj
  rw [eR] at hg htd
  unfold tdN at hg
  rw [if_pos htd] at hg
  exact ⟨t1, t2, hs.1, hs.2, hle, hg⟩
set_option maxHeartbeats 8000000 in
theorem testedLaw (l : La) (off : Int) (hoff : 0 ≤ off ∧ off < 256) (y : List Int) (hy : U8 y) (less : Int) (hle : 0 ≤ less ∧ less < 256) : Pure Try.prog 13 [laV l, .c (.d (.int .u8 off)), u8s y, .c (.d (.int .u8 less))] (B true) := by
  refine pure_wkE (bad := [10]) (kp := kp13) (X := tx) (nt := 148) (rs := [.tmp 8]) Try.func13 rfl rfl rfl rfl mo (by kernel_rfl) rfl rfl (fun hf => ?_)
  have hfn := fine37 l
  have hsl := slow34 l
  unfold laV laC at hfn hsl
  simp (config := { maxSteps := 2000000 }) only [go_sem, reduceIte, Nat.reduceEqDiff, Nat.reduceAdd, Nat.reduceLT, Nat.reduceLeDiff, Nat.reduceBEq, Nat.reduceMul, Nat.reduceSub, Nat.reduceDiv, Int.reduceNeg, Int.reduceLT, Int.reduceLE, Int.reduceEq, Int.reduceToNat, List.replicate_succ, lk13, laV, laC, u8s]
  refine aops_pure' (hfn) rfl rfl (by first | exact wk_refls _ | (repeat constructor)) ?_
  cases hfb : fineB l with
  | false =>
    simp (config := { maxSteps := 2000000 }) only [go_sem, reduceIte, Nat.reduceEqDiff, Nat.reduceAdd, Nat.reduceLT, Nat.reduceLeDiff, Nat.reduceBEq, Nat.reduceMul, Nat.reduceSub, Nat.reduceDiv, Int.reduceNeg, Int.reduceLT, Int.reduceLE, Int.reduceEq, Int.reduceToNat, List.replicate_succ, lk13]
    refine aops_pure' (works16) rfl rfl (by first | exact wk_refls _ | (repeat constructor)) ?_
    simp (config := { maxSteps := 2000000 }) only [go_sem, reduceIte, Nat.reduceEqDiff, Nat.reduceAdd, Nat.reduceLT, Nat.reduceLeDiff, Nat.reduceBEq, Nat.reduceMul, Nat.reduceSub, Nat.reduceDiv, Int.reduceNeg, Int.reduceLT, Int.reduceLE, Int.reduceEq, Int.reduceToNat, List.replicate_succ, lk13]
  | true =>
  simp (config := { maxSteps := 2000000 }) only [go_sem, reduceIte, Nat.reduceEqDiff, Nat.reduceAdd, Nat.reduceLT, Nat.reduceLeDiff, Nat.reduceBEq, Nat.reduceMul, Nat.reduceSub, Nat.reduceDiv, Int.reduceNeg, Int.reduceLT, Int.reduceLE, Int.reduceEq, Int.reduceToNat, List.replicate_succ, lk13]
  refine aops_pure' (hsl) rfl rfl (by first | exact wk_refls _ | (repeat constructor)) ?_
  cases hsb : slowB l with
  | true =>
    simp (config := { maxSteps := 2000000 }) only [go_sem, reduceIte, Nat.reduceEqDiff, Nat.reduceAdd, Nat.reduceLT, Nat.reduceLeDiff, Nat.reduceBEq, Nat.reduceMul, Nat.reduceSub, Nat.reduceDiv, Int.reduceNeg, Int.reduceLT, Int.reduceLE, Int.reduceEq, Int.reduceToNat, List.replicate_succ, lk13]
    refine aops_pure' (works16) rfl rfl (by first | exact wk_refls _ | (repeat constructor)) ?_
    simp (config := { maxSteps := 2000000 }) only [go_sem, reduceIte, Nat.reduceEqDiff, Nat.reduceAdd, Nat.reduceLT, Nat.reduceLeDiff, Nat.reduceBEq, Nat.reduceMul, Nat.reduceSub, Nat.reduceDiv, Int.reduceNeg, Int.reduceLT, Int.reduceLE, Int.reduceEq, Int.reduceToNat, List.replicate_succ, lk13]
  | false =>
  by_cases hy1 : 100 < y.length
  · have hy1' : (100 : Int) < y.length := by omega
    simp (config := { maxSteps := 2000000 }) only [go_sem, reduceIte, Nat.reduceEqDiff, Nat.reduceAdd, Nat.reduceLT, Nat.reduceLeDiff, Nat.reduceBEq, Nat.reduceMul, Nat.reduceSub, Nat.reduceDiv, Int.reduceNeg, Int.reduceLT, Int.reduceLE, Int.reduceEq, Int.reduceToNat, List.replicate_succ, lk13, hy1']
    refine aops_pure' (works16) rfl rfl (by first | exact wk_refls _ | (repeat constructor)) ?_
    simp (config := { maxSteps := 2000000 }) only [go_sem, reduceIte, Nat.reduceEqDiff, Nat.reduceAdd, Nat.reduceLT, Nat.reduceLeDiff, Nat.reduceBEq, Nat.reduceMul, Nat.reduceSub, Nat.reduceDiv, Int.reduceNeg, Int.reduceLT, Int.reduceLE, Int.reduceEq, Int.reduceToNat, List.replicate_succ, lk13]
  have hy1' : ¬ (100 : Int) < y.length := by omega
  obtain ⟨h0, hd⟩ := (fine_iff l).1 hfb
  obtain ⟨ok, h10⟩ := (okLa_iff l).1 h0
  obtain ⟨n2, n91⟩ := ok.n91
  have m2 := ok.m2
  have hsp := spE_0 h0 hd
  have p0 : (0 : Int) < l.an.length := by omega
  have a0 := gI_lt (l := l.an) (i := 0) (by omega)
  have b0 := ok.a0 0 (by omega)
  obtain ⟨o, eo, o0, o2⟩ : ∃ o, off.tmod 21 = o ∧ 0 ≤ o ∧ o ≤ 20 := ⟨_, rfl, by rw [Int.tmod_eq_emod_of_nonneg hoff.1]; omega, by rw [Int.tmod_eq_emod_of_nonneg hoff.1]; omega⟩
  obtain ⟨q, eq, q0, qo⟩ : ∃ q, less.tmod (o + 1) = q ∧ 0 ≤ q ∧ q ≤ o := ⟨_, rfl, Int.tmod_nonneg _ hle.1, by
    rw [Int.tmod_eq_emod_of_nonneg hle.1]
    have := Int.emod_lt_of_pos less (show 0 < o + 1 by omega)
    omega⟩
  have hne : ¬ o + 1 = 0 := by omega
  have hnx := next35 l o
  have enE := nxE_0 h0 (show ¬ (o < 0 ∨ 200 < o) by omega) hd
  obtain ⟨enD, enN⟩ := nxD_0 enE
  rw [enD, enN, enE] at hnx
  have hK : nxK l o < l.we.length := bstF_lt ltB _ _ (by omega)
  obtain ⟨nr1, nr2⟩ := nxW_range ok h10 hd hK o0 (nxJ l o (nxK l o)) (Nat.le_refl _)
  have nr1 : 0 ≤ nxA l o (nxK l o) := nr1
  have nr2 : nxA l o (nxK l o) ≤ spHi l - spLo l := nr2
  have ht := ln_true hd y
  have hl := lan39 l h0 hd y hy (by omega)
  have r1 := (ln_room hd y _ hK)
  have r2 := bl_range ok hK
  have r3 := bh_range ok hK
  have law := tested_law ok h10 hd hK o0 o2 ht q0 qo
  have h42 := ref42 l ok (nxK l o) hK ⟨max 0 (lnF l y (nxK l o) - q), min 200 (lnF l y (nxK l o) - q + o)⟩
  have hg43 := rg43 (max 0 (lnF l y (nxK l o) - q)) (min 200 (lnF l y (nxK l o) - q + o))
  have xv := gI_lt (l := fl l.we.length (lnF l y)) (i := nxK l o) (by rw [fl_len]; exact hK)
  rw [fl_get _ hK] at xv
  have xl := fl_len l.we.length (lnF l y)
  have hs := span27 l
  rw [hsp, spR_0 hsp] at hs
  have s1 := spLo_range ok
  have s2 := spHi_range ok
  generalize nxA l o (nxK l o) = NA at *
  generalize nxK l o = K at *
  generalize fl l.we.length (lnF l y) = X at *
  generalize lnF l y K = xk at *
  obtain ⟨l1, l2, l3, l4, l5, l6⟩ := law
  have etf : tfL l K ⟨max 0 (xk - q), min 200 (xk - q + o)⟩ = tsL l K ⟨max 0 (xk - q), min 200 (xk - q + o)⟩ := by unfold tfL; rw [l1]; rfl
  rw [etf, l1] at h42
  generalize tsL l K ⟨max 0 (xk - q), min 200 (xk - q + o)⟩ = T at *
  have hT := lamp20 T
  have hsT := span27 T
  have hin := inside41 ⟨spLo T, spHi T⟩ ⟨spLo l, spHi l⟩
  rw [decide_eq_true (show (⟨spLo l, spHi l⟩ : Rg).lo ≤ (⟨spLo T, spHi T⟩ : Rg).lo from l3), decide_eq_true (show (⟨spLo T, spHi T⟩ : Rg).hi ≤ (⟨spLo l, spHi l⟩ : Rg).hi from l4), decide_eq_true (show (⟨spLo T, spHi T⟩ : Rg).lo ≤ (⟨spLo T, spHi T⟩ : Rg).hi from l5)] at hin
  unfold laV laC rgV rgC at h42 hs
  unfold rgV rgC at hg43 hin
  unfold laV laC at hT hsT hnx
  unfold laV laC u8s ints at hl
  have g1 : ¬ gI l.an 0 + (K : Int) < gI l.an 0 := by omega
  have g2 : ¬ (l.we.length : Int) ≤ K := by omega
  have g3 : ¬ NA < 0 := by omega
  have g4 : ¬ spHi l - spLo l < NA := by omega
  have g5 : (K : Int) < X.length := by omega
  have eK : gI l.an 0 + (K : Int) - gI l.an 0 = K := by omega
  have w1 : wr .i64 off = off := wr_in (by omega)
  have w2 : wr .i64 less = less := wr_in (by clear w1; omega)
  have w3 : wr .i64 (o + 1) = o + 1 := wr_in (by clear w1 w2; omega)
  have w4 : wr .i64 (K : Int) = K := wr_in (by clear w1 w2 w3; omega)
  have w5 : wr .i64 (spHi l - spLo l) = spHi l - spLo l := wr_in (by clear w1 w2 w3 w4; omega)
  have w6 : wr .i64 (xk - q) = xk - q := wr_in (by clear w1 w2 w3 w4 w5; omega)
  have w7 : wr .i64 (xk - q + o) = xk - q + o := wr_in (by clear w1 w2 w3 w4 w5 w6; omega)
  simp (config := { maxSteps := 2000000 }) only [go_sem, reduceIte, Nat.reduceEqDiff, Nat.reduceAdd, Nat.reduceLT, Nat.reduceLeDiff, Nat.reduceBEq, Nat.reduceMul, Nat.reduceSub, Nat.reduceDiv, Int.reduceNeg, Int.reduceLT, Int.reduceLE, Int.reduceEq, Int.reduceToNat, List.replicate_succ, lk13, hy1', w1, eo]
  refine aops_pure' (hnx) rfl rfl (by first | exact wk_refls _ | (repeat constructor)) ?_
  simp (config := { maxSteps := 2000000 }) only [go_sem, reduceIte, Nat.reduceEqDiff, Nat.reduceAdd, Nat.reduceLT, Nat.reduceLeDiff, Nat.reduceBEq, Nat.reduceMul, Nat.reduceSub, Nat.reduceDiv, Int.reduceNeg, Int.reduceLT, Int.reduceLE, Int.reduceEq, Int.reduceToNat, List.replicate_succ, lk13]
  refine aops_pure' (hs) rfl rfl (by first | exact wk_refls _ | (repeat constructor)) ?_
  simp (config := { maxSteps := 2000000 }) only [go_sem, reduceIte, Nat.reduceEqDiff, Nat.reduceAdd, Nat.reduceLT, Nat.reduceLeDiff, Nat.reduceBEq, Nat.reduceMul, Nat.reduceSub, Nat.reduceDiv, Int.reduceNeg, Int.reduceLT, Int.reduceLE, Int.reduceEq, Int.reduceToNat, List.replicate_succ, lk13, p0, a0, nn, iD, g1, eK, w4, g2, g3, w5, g4]
  refine aops_pure' (hl) rfl rfl (by first | exact wk_refls _ | (repeat constructor)) ?_
  simp (config := { maxSteps := 2000000 }) only [go_sem, reduceIte, Nat.reduceEqDiff, Nat.reduceAdd, Nat.reduceLT, Nat.reduceLeDiff, Nat.reduceBEq, Nat.reduceMul, Nat.reduceSub, Nat.reduceDiv, Int.reduceNeg, Int.reduceLT, Int.reduceLE, Int.reduceEq, Int.reduceToNat, List.replicate_succ, lk13, p0, a0, nn, iD, eK, w4, g5, xv, w2, w3, hne, eq, w6, w7, maxL1, minL1]
  refine de_pure (hg43) rfl rfl (by first | exact wk_refls _ | (repeat constructor)) ?_
  simp (config := { maxSteps := 2000000 }) only [go_sem, reduceIte, Nat.reduceEqDiff, Nat.reduceAdd, Nat.reduceLT, Nat.reduceLeDiff, Nat.reduceBEq, Nat.reduceMul, Nat.reduceSub, Nat.reduceDiv, Int.reduceNeg, Int.reduceLT, Int.reduceLE, Int.reduceEq, Int.reduceToNat, List.replicate_succ, lk13]
  refine de_pure (h42) rfl rfl (by first | exact wk_refls _ | (repeat constructor)) ?_
  simp (config := { maxSteps := 2000000 }) only [go_sem, reduceIte, Nat.reduceEqDiff, Nat.reduceAdd, Nat.reduceLT, Nat.reduceLeDiff, Nat.reduceBEq, Nat.reduceMul, Nat.reduceSub, Nat.reduceDiv, Int.reduceNeg, Int.reduceLT, Int.reduceLE, Int.reduceEq, Int.reduceToNat, List.replicate_succ, lk13]
  refine ⟨pairsOk_ord (by kernel_rfl), ?_⟩
  refine aops_pure' (hT) rfl rfl (by first | exact wk_refls _ | (repeat constructor)) ?_
  by_cases hT0 : okLa T = 0
  case neg =>
    simp (config := { maxSteps := 2000000 }) only [go_sem, reduceIte, Nat.reduceEqDiff, Nat.reduceAdd, Nat.reduceLT, Nat.reduceLeDiff, Nat.reduceBEq, Nat.reduceMul, Nat.reduceSub, Nat.reduceDiv, Int.reduceNeg, Int.reduceLT, Int.reduceLE, Int.reduceEq, Int.reduceToNat, List.replicate_succ, lk13, hT0]
    refine aops_pure' (works16) rfl rfl (by first | exact wk_refls _ | (repeat constructor)) ?_
    simp (config := { maxSteps := 2000000 }) only [go_sem, reduceIte, Nat.reduceEqDiff, Nat.reduceAdd, Nat.reduceLT, Nat.reduceLeDiff, Nat.reduceBEq, Nat.reduceMul, Nat.reduceSub, Nat.reduceDiv, Int.reduceNeg, Int.reduceLT, Int.reduceLE, Int.reduceEq, Int.reduceToNat, List.replicate_succ, lk13]
  have eT := spE_0 hT0 l2
  rw [eT, spR_0 eT] at hsT
  have okT := okLa_n hT0
  have s3 := spLo_range okT
  have s4 := spHi_range okT
  have w8 : wr .i64 (spHi T - spLo T) = spHi T - spLo T := wr_in (by clear w1 w2 w3 w4 w5 w6 w7; omega)
  unfold rgV rgC at hsT
  simp (config := { maxSteps := 2000000 }) only [go_sem, reduceIte, Nat.reduceEqDiff, Nat.reduceAdd, Nat.reduceLT, Nat.reduceLeDiff, Nat.reduceBEq, Nat.reduceMul, Nat.reduceSub, Nat.reduceDiv, Int.reduceNeg, Int.reduceLT, Int.reduceLE, Int.reduceEq, Int.reduceToNat, List.replicate_succ, lk13, hT0]
  refine aops_pure' (hsT) rfl rfl (by first | exact wk_refls _ | (repeat constructor)) ?_
  simp (config := { maxSteps := 2000000 }) only [go_sem, reduceIte, Nat.reduceEqDiff, Nat.reduceAdd, Nat.reduceLT, Nat.reduceLeDiff, Nat.reduceBEq, Nat.reduceMul, Nat.reduceSub, Nat.reduceDiv, Int.reduceNeg, Int.reduceLT, Int.reduceLE, Int.reduceEq, Int.reduceToNat, List.replicate_succ, lk13]
  refine aops_pure' (hin) rfl rfl (by first | exact wk_refls _ | (repeat constructor)) ?_
  simp (config := { maxSteps := 2000000 }) only [go_sem, reduceIte, Nat.reduceEqDiff, Nat.reduceAdd, Nat.reduceLT, Nat.reduceLeDiff, Nat.reduceBEq, Nat.reduceMul, Nat.reduceSub, Nat.reduceDiv, Int.reduceNeg, Int.reduceLT, Int.reduceLE, Int.reduceEq, Int.reduceToNat, List.replicate_succ, lk13, w8, l6]
  refine aops_pure' (works16) rfl rfl (by first | exact wk_refls _ | (repeat constructor)) ?_
  simp (config := { maxSteps := 2000000 }) only [go_sem, reduceIte, Nat.reduceEqDiff, Nat.reduceAdd, Nat.reduceLT, Nat.reduceLeDiff, Nat.reduceBEq, Nat.reduceMul, Nat.reduceSub, Nat.reduceDiv, Int.reduceNeg, Int.reduceLT, Int.reduceLE, Int.reduceEq, Int.reduceToNat, List.replicate_succ, lk13]
end Go.Proofs.Ytliamojogmlgjaa
