/- Zones: the test that narrows most, by the document's answer. -/
import Derived.Test.YtliamojogmlgjaaZ21
import Derived.Test.YtliamojogmlgjaaZ23
set_option linter.unusedSimpArgs false
set_option linter.unusedVariables false
set_option maxRecDepth 100000
namespace Go.Proofs.Ytliamojogmlgjaa
open Go Go.Abs Go.Proofs
def kp36 : List (Nat × List Nat) := [(0, [1, 2]), (1, [1, 2, 20]), (2, [4, 5, 6]), (3, [1, 2, 28]), (4, [4, 5, 6]), (5, [1, 2, 30]), (6, [4, 5, 6]), (7, [1, 2, 7, 8]), (8, [1, 2, 7, 8, 9]), (9, [1, 2, 7, 8, 9, 44]), (10, [1, 2, 7, 8, 9]), (11, [1, 2, 7, 8, 9, 10]), (12, [1, 2, 7, 8, 9, 10, 12]), (13, [1, 2, 7, 8, 9, 10, 12, 13]), (14, [1, 2, 7, 8, 9, 10, 12, 13, 60]), (15, [1, 2, 7, 8, 9, 10, 12, 13]), (16, [1, 2, 7, 8, 9, 10, 12, 13, 14, 15]), (17, [1, 2, 7, 8, 9, 10, 12, 13, 14, 81]), (18, [1, 2, 7, 8, 9, 10, 12, 13, 14, 16, 17]), (19, [1, 2, 7, 8, 9, 10, 12, 13]), (20, [1, 2, 7, 8, 9, 12, 104]), (21, [1, 2, 7, 8, 9]), (22, [4, 5, 6])]
theorem lk36 : lookK kp36 0 = some [1, 2] ∧ lookK kp36 1 = some [1, 2, 20] ∧ lookK kp36 2 = some [4, 5, 6] ∧ lookK kp36 3 = some [1, 2, 28] ∧ lookK kp36 4 = some [4, 5, 6] ∧ lookK kp36 5 = some [1, 2, 30] ∧ lookK kp36 6 = some [4, 5, 6] ∧ lookK kp36 7 = some [1, 2, 7, 8] ∧ lookK kp36 8 = some [1, 2, 7, 8, 9] ∧ lookK kp36 9 = some [1, 2, 7, 8, 9, 44] ∧ lookK kp36 10 = some [1, 2, 7, 8, 9] ∧ lookK kp36 11 = some [1, 2, 7, 8, 9, 10] ∧ lookK kp36 12 = some [1, 2, 7, 8, 9, 10, 12] ∧ lookK kp36 13 = some [1, 2, 7, 8, 9, 10, 12, 13] ∧ lookK kp36 14 = some [1, 2, 7, 8, 9, 10, 12, 13, 60] ∧ lookK kp36 15 = some [1, 2, 7, 8, 9, 10, 12, 13] ∧ lookK kp36 16 = some [1, 2, 7, 8, 9, 10, 12, 13, 14, 15] ∧ lookK kp36 17 = some [1, 2, 7, 8, 9, 10, 12, 13, 14, 81] ∧ lookK kp36 18 = some [1, 2, 7, 8, 9, 10, 12, 13, 14, 16, 17] ∧ lookK kp36 19 = some [1, 2, 7, 8, 9, 10, 12, 13] ∧ lookK kp36 20 = some [1, 2, 7, 8, 9, 12, 104] ∧ lookK kp36 21 = some [1, 2, 7, 8, 9] ∧ lookK kp36 22 = some [4, 5, 6] := ⟨rfl, rfl, rfl, rfl, rfl, rfl, rfl, rfl, rfl, rfl, rfl, rfl, rfl, rfl, rfl, rfl, rfl, rfl, rfl, rfl, rfl, rfl, rfl⟩

theorem ref42 (l : La) (ok : OkLa l) (k : Nat) (hk : k < l.we.length) (r : Rg) : Pure Try.prog 42 [laV l, I (gI l.an 0 + k), rgV r] (.tup [laV (tfL l k r), B (tsO l k r)]) := by
  by_cases ha : angN l k < l.an.length
  · exact ref42a l ok k hk r ha
  · exact ref42i l ok k hk r ha
def rbD (l : La) (off : Int) (k : Nat) : Int := if k = 0 then -1 else gI l.an 0 + bstF ltB (nxA l off) k
def rbN (l : La) (off : Int) (k : Nat) : Int := if k = 0 then 0 else nxA l off (bstF ltB (nxA l off) k)
theorem at_k {l : La} (h0 : okLa l = 0) (hd : dbB l = false) {k : Nat} (hk : k < l.we.length) : atE l (gI l.an 0 + k) = 0 ∧ atR l (gI l.an 0 + k) = ⟨bl l k, bh l k⟩ := by
  have ok := okLa_n h0
  have hwe := ok.we
  have e := atE_0 (l := l) (d := gI l.an 0 + k) h0 (by omega) hd
  refine ⟨e, ?_⟩
  rw [atR_0 e, show (gI l.an 0 + (k : Int) - gI l.an 0).toNat = k by omega]
set_option maxHeartbeats 8000000 in
theorem next36 (l : La) (off : Int) : Pure Try.prog 36 [laV l, I off] (.tup [I (nxD l off), I (nxN l off), I (nxE l off)]) := by
  refine pure_wkE (bad := []) (kp := kp36) (X := tx) (nt := 109) (rs := [.tmp 4, .tmp 5, .tmp 6]) Try.func36 rfl rfl rfl rfl mo (by kernel_rfl) rfl rfl (fun hf => ?_)
  have hl := lamp20 l
  unfold laV laC at hl
  simp (maxSteps := 2000000) only [go_sem, reduceIte, Nat.reduceEqDiff, Nat.reduceAdd, Int.reduceNeg, List.replicate_succ, lk36, laV, laC]
  refine aops_pure' (hl) rfl rfl (by first | exact wk_refls _ | (repeat constructor)) ?_
  by_cases h0 : okLa l = 0
  case neg =>
    have e := nxE_bad h0 off
    obtain ⟨e2, e3⟩ := nxD_bad (l := l) (off := off) (by rw [e]; exact h0)
    simp (maxSteps := 2000000) only [go_sem, reduceIte, Nat.reduceEqDiff, Nat.reduceAdd, Int.reduceNeg, List.replicate_succ, lk36, h0]
    refine aops_pure' (hl) rfl rfl (by first | exact wk_refls _ | (repeat constructor)) ?_
    simp (maxSteps := 2000000) only [go_sem, reduceIte, Nat.reduceEqDiff, List.replicate_succ, lk36, e, e2, e3]
    all_goals first | exact .refl _ | exact ⟨.refl _, .refl _⟩ | exact ⟨.refl _, .refl _, .refl _⟩ | exact ⟨.refl _, _, rfl⟩ | exact ⟨_, rfl⟩ | exact ⟨.refl _, [], by simp⟩ | exact ⟨[], by simp⟩
  have ok := okLa_n h0
  have hdb := doubted26 l ok
  unfold laV laC at hdb
  by_cases h1 : off < 0
  · have e := nxE_3 h0 (.inl h1)
    obtain ⟨e2, e3⟩ := nxD_bad (l := l) (off := off) (by rw [e]; decide)
    simp (maxSteps := 2000000) only [go_sem, reduceIte, Nat.reduceEqDiff, Nat.reduceAdd, Int.reduceNeg, List.replicate_succ, lk36, h0, h1, e, e2, e3]
    all_goals first | exact .refl _ | exact ⟨.refl _, .refl _⟩ | exact ⟨.refl _, .refl _, .refl _⟩ | exact ⟨.refl _, _, rfl⟩ | exact ⟨_, rfl⟩ | exact ⟨.refl _, [], by simp⟩ | exact ⟨[], by simp⟩
  by_cases h2 : 200 < off
  · have e := nxE_3 h0 (.inr h2)
    obtain ⟨e2, e3⟩ := nxD_bad (l := l) (off := off) (by rw [e]; decide)
    simp (maxSteps := 2000000) only [go_sem, reduceIte, Nat.reduceEqDiff, Nat.reduceAdd, Int.reduceNeg, List.replicate_succ, lk36, h0, h1, h2, e, e2, e3]
    all_goals first | exact .refl _ | exact ⟨.refl _, .refl _⟩ | exact ⟨.refl _, .refl _, .refl _⟩ | exact ⟨.refl _, _, rfl⟩ | exact ⟨_, rfl⟩ | exact ⟨.refl _, [], by simp⟩ | exact ⟨[], by simp⟩
  have h12 : ¬ (off < 0 ∨ 200 < off) := by omega
  cases hd : dbB l with
  | true =>
    have e := nxE_21 h0 h12 hd
    obtain ⟨e2, e3⟩ := nxD_bad (l := l) (off := off) (by rw [e]; decide)
    rw [hd] at hdb
    simp (maxSteps := 2000000) only [go_sem, reduceIte, Nat.reduceEqDiff, Nat.reduceAdd, Int.reduceNeg, List.replicate_succ, lk36, h0, h1, h2]
    refine aops_pure' (hdb) rfl rfl (by first | exact wk_refls _ | (repeat constructor)) ?_
    simp (maxSteps := 2000000) only [go_sem, reduceIte, Nat.reduceEqDiff, Nat.reduceAdd, Int.reduceNeg, List.replicate_succ, lk36, e, e2, e3]
    all_goals first | exact .refl _ | exact ⟨.refl _, .refl _⟩ | exact ⟨.refl _, .refl _, .refl _⟩ | exact ⟨.refl _, _, rfl⟩ | exact ⟨_, rfl⟩ | exact ⟨.refl _, [], by simp⟩ | exact ⟨[], by simp⟩
  | false =>
  have e := nxE_0 h0 h12 hd
  obtain ⟨e2, e3⟩ := nxD_0 (l := l) (off := off) e
  have h10 := ((okLa_iff l).1 h0).2
  obtain ⟨n2, n91⟩ := ok.n91
  have m2 := ok.m2
  have m11 := ok.m11
  have hwe := ok.we
  have p0 : (0 : Int) < l.an.length := by omega
  have a0 := gI_lt (l := l.an) (i := 0) (by omega)
  have b0 := ok.a0 0 (by omega)
  have an := gI_lt (l := l.an) (i := l.an.length - 1) (by omega)
  have pn : ((l.an.length - 1 : Nat) : Int) < l.an.length := by omega
  have w1 := wr_len1 (n := l.an.length) (by omega) (by omega)
  rw [hd] at hdb
  simp (maxSteps := 2000000) only [go_sem, reduceIte, Nat.reduceEqDiff, Nat.reduceAdd, Int.reduceNeg, List.replicate_succ, lk36, h0, h1, h2]
  refine aops_pure' (hdb) rfl rfl (by first | exact wk_refls _ | (repeat constructor)) ?_
  simp (maxSteps := 2000000) only [go_sem, reduceIte, Nat.reduceEqDiff, Nat.reduceAdd, Nat.reduceLeDiff, Nat.reduceBEq, Int.reduceNeg, Int.reduceLE, Int.reduceToNat, List.replicate_succ, lk36, p0, a0, nn, iD]
  refine goE_loop (bad := []) (kp := kp36) (fun k : Nat => { slots := [(1, I off), (2, .c (.ptr 0 0)), (7, I (rbD l off k)), (8, I (rbN l off k)), (9, I (gI l.an 0 + k))], heap := [.cells (laC l)], marks := [] }) (fun k => k ≤ l.we.length) (fun k => l.we.length - k) 0 mo (by kernel_rfl) ?_ (Nat.zero_le _) ?_
  · refine ent_weaken [] rfl rfl (Nat.zero_le _) rfl rfl ?_
    have z0 : gI l.an 0 + ((0 : Nat) : Int) = gI l.an 0 := by omega
    simp (maxSteps := 2000000) only [go_sem, reduceIte, Nat.reduceEqDiff, Nat.reduceLT, Int.reduceNeg, List.replicate_succ, lk36, laC, rbD, rbN, Int.add_zero]
    all_goals first | exact .refl _ | exact ⟨.refl _, .refl _⟩ | exact ⟨.refl _, .refl _, .refl _⟩ | exact ⟨.refl _, _, rfl⟩ | exact ⟨_, rfl⟩ | exact ⟨.refl _, [], by simp⟩ | exact ⟨[], by simp⟩
  rintro k hk
  simp (maxSteps := 2000000) only [go_sem, reduceIte, Nat.reduceEqDiff, Nat.reduceAdd, Nat.reduceLeDiff, Nat.reduceBEq, List.replicate_succ, lk36, laC]
  by_cases hlt : k < l.we.length
  case neg =>
    have ek : k = l.we.length := by omega
    have hlt' : ¬ gI l.an 0 + (k : Int) ≤ gI l.an (l.an.length - 1) := by clear w1; omega
    have r1 : rbD l off k = nxD l off := by unfold rbD; rw [if_neg (by clear w1; omega), e2, ek]; rfl
    have r2 : rbN l off k = nxN l off := by unfold rbN; rw [if_neg (by clear w1; omega), e3, ek]; rfl
    simp (maxSteps := 2000000) only [go_sem, reduceIte, Nat.reduceEqDiff, Nat.reduceAdd, List.replicate_succ, lk36, w1, nn, pn, an, iD, hlt', r1, r2, e]
    all_goals first | exact .refl _ | exact ⟨.refl _, .refl _⟩ | exact ⟨.refl _, .refl _, .refl _⟩ | exact ⟨.refl _, _, rfl⟩ | exact ⟨_, rfl⟩ | exact ⟨.refl _, [], by simp⟩ | exact ⟨[], by simp⟩
  have hlt' : gI l.an 0 + (k : Int) ≤ gI l.an (l.an.length - 1) := by clear w1; omega
  obtain ⟨at1, at2⟩ := at_k h0 hd hlt
  have hat := at30 l (gI l.an 0 + k)
  rw [at1, at2] at hat
  unfold laV laC rgV rgC at hat
  have hlok := bl_range ok hlt
  have hhik := bh_range ok hlt
  have hlek := dbB_no hd hlt
  have m1 : l.we.length - (k + 1) < l.we.length - k := by clear w1; omega
  have w0 : wr .i64 (bl l k - off) = nxM l off k 0 := by rw [wr_in (by clear w1; omega)]; unfold nxM; clear w1; omega
  simp (maxSteps := 2000000) only [go_sem, reduceIte, Nat.reduceEqDiff, Nat.reduceAdd, List.replicate_succ, lk36, w1, nn, pn, an, iD, hlt']
  refine aops_pure' (hat) rfl rfl (by first | exact wk_refls _ | (repeat constructor)) ?_
  simp (maxSteps := 2000000) only [go_sem, reduceIte, Nat.reduceEqDiff, Nat.reduceAdd, Nat.reduceLeDiff, Nat.reduceBEq, List.replicate_succ, lk36, w0]
  clear w0 w1
  have hJ : nxJ l off k ≤ 401 := by unfold nxJ; omega
  refine goE_loop (bad := []) (kp := kp36) (fun j : Nat => { slots := [(1, I off), (2, .c (.ptr 0 0)), (7, I (rbD l off k)), (8, I (rbN l off k)), (9, I (gI l.an 0 + k)), (10, .c (.ptr 1 0)), (12, I (nxW l off k j)), (13, I (nxM l off k j))], heap := [.cells (laC l), .cells [.d (.int .i64 (bl l k)), .d (.int .i64 (bh l k))]], marks := [] }) (fun j => j ≤ nxJ l off k) (fun j => nxJ l off k - j) 0 mo (by kernel_rfl) ?_ (Nat.zero_le _) ?_
  · refine ent_weaken [] rfl rfl (Nat.zero_le _) rfl rfl ?_
    simp (maxSteps := 2000000) only [go_sem, reduceIte, Nat.reduceEqDiff, Nat.reduceAdd, Nat.reduceLT, List.replicate_succ, lk36, laC, nxW]
    all_goals first | exact .refl _ | exact ⟨.refl _, .refl _⟩ | exact ⟨.refl _, .refl _, .refl _⟩ | exact ⟨.refl _, _, rfl⟩ | exact ⟨_, rfl⟩ | exact ⟨.refl _, [], by simp⟩ | exact ⟨[], by simp⟩
  rintro j hj
  simp (maxSteps := 2000000) only [go_sem, reduceIte, Nat.reduceEqDiff, Nat.reduceAdd, Nat.reduceBEq, List.replicate_succ, lk36, laC]
  have hMJ : nxM l off k j ≤ bh l k ↔ j < nxJ l off k := by unfold nxM nxJ; omega
  have hMr : -1000 ≤ nxM l off k j ∧ nxM l off k j ≤ 1000 := by unfold nxM; omega
  by_cases hjl : j < nxJ l off k
  · have hjl' := hMJ.2 hjl
    have hro := nxR_ok ok hlt (show 0 ≤ off by omega) hjl
    have ht := ref42 l ok k hlt (nxR l off k j)
    have eW : nxW l off k (j + 1) = if tdO l k (nxR l off k j) then max (nxW l off k j) (tdN l k (nxR l off k j)) else nxW l off k j := rfl
    have eo : tdO l k (nxR l off k j) = (tsO l k (nxR l off k j) && !dbB (tsL l k (nxR l off k j))) := rfl
    have en : tdN l k (nxR l off k j) = if tdO l k (nxR l off k j) then spHi (tsL l k (nxR l off k j)) - spLo (tsL l k (nxR l off k j)) else 0 := rfl
    have etf : tsO l k (nxR l off k j) = true → tfL l k (nxR l off k j) = tsL l k (nxR l off k j) := fun h => by unfold tfL; rw [h]; rfl
    have okT := fun h => ts_ok ok h10 hlt hro h
    have ewe := ts_we l k (nxR l off k j)
    have mj : nxJ l off k - (j + 1) < nxJ l off k - j := by omega
    have hM1 : wr .i64 (nxM l off k j + 1) = nxM l off k (j + 1) := by rw [wr_in (by omega)]; unfold nxM; omega
    have wo : wr .i64 (nxM l off k j + off) = nxM l off k j + off := wr_in (by clear hM1; omega)
    have eR : nxR l off k j = ⟨max 0 (nxM l off k j), min 200 (nxM l off k j + off)⟩ := rfl
    have ht : Pure Try.prog 42 [laV l, I (gI l.an 0 + k), .agg [.d (.int .i64 (max 0 (nxM l off k j))), .d (.int .i64 (min 200 (nxM l off k j + off)))]] (.tup [laV (tfL l k (nxR l off k j)), B (tsO l k (nxR l off k j))]) := ht
    generalize nxR l off k j = R at *
    unfold laV laC at ht
    simp (maxSteps := 2000000) only [go_sem, reduceIte, Nat.reduceEqDiff, Nat.reduceAdd, Nat.reduceLeDiff, Nat.reduceBEq, List.replicate_succ, lk36, hjl', wo, maxL1, minL1]
    refine aops_pure' (ht) rfl rfl (by first | exact wk_refls _ | (repeat constructor)) ?_
    cases hto : tsO l k R with
    | false =>
      rw [hto] at eo
      have eo : tdO l k R = false := eo
      rw [eo, if_neg (by decide)] at eW
      simp (maxSteps := 2000000) only [go_sem, reduceIte, Nat.reduceEqDiff, Nat.reduceAdd, List.replicate_succ, lk36, hM1]
      refine ⟨j + 1, hjl, mj, ?_⟩
      refine ent_weaken [_] rfl rfl (Nat.zero_le _) rfl rfl ?_
      simp (maxSteps := 2000000) only [go_sem, reduceIte, Nat.reduceEqDiff, Nat.reduceAdd, Nat.reduceLT, List.replicate_succ, lk36, eW, laC]
      all_goals first | exact .refl _ | exact ⟨.refl _, .refl _⟩ | exact ⟨.refl _, .refl _, .refl _⟩ | exact ⟨.refl _, _, rfl⟩ | exact ⟨_, rfl⟩ | exact ⟨.refl _, [], by simp⟩ | exact ⟨[], by simp⟩
    | true =>
    have okT := okT hto
    have etf := etf hto
    rw [hto, Bool.true_and] at eo
    have hdT := doubted26 _ okT
    have hbT := bounds56 _ okT
    have s1 := sum38f okT (f := bl (tsL l k R)) (fun k hk => bl_range okT hk)
    have s2 := sum38f okT (f := bh (tsL l k R)) (fun k hk => bh_range okT hk)
    have q1 := spLo_range okT
    have q2 := spHi_range okT
    have ws : wr .i64 (spHi (tsL l k R) - spLo (tsL l k R)) = spHi (tsL l k R) - spLo (tsL l k R) := wr_in (by clear hM1 wo; omega)
    rw [etf]
    have s1 : Pure Try.prog 38 [ints (tsL l k R).we, ints (fl (tsL l k R).we.length (bl (tsL l k R)))] (I (spLo (tsL l k R))) := s1
    have s2 : Pure Try.prog 38 [ints (tsL l k R).we, ints (fl (tsL l k R).we.length (bh (tsL l k R)))] (I (spHi (tsL l k R))) := s2
    generalize tsL l k R = T at *
    unfold laV laC at hdT hbT
    unfold ints at hbT s1 s2
    simp (maxSteps := 2000000) only [go_sem, reduceIte, Nat.reduceEqDiff, Nat.reduceAdd, List.replicate_succ, lk36]
    refine aops_pure' (hdT) rfl rfl (by first | exact wk_refls _ | (repeat constructor)) ?_
    cases hd2 : dbB T with
    | true =>
      rw [hd2] at eo
      have eo : tdO l k R = false := eo
      rw [eo, if_neg (by decide)] at eW
      simp (maxSteps := 2000000) only [go_sem, reduceIte, Nat.reduceEqDiff, Nat.reduceAdd, List.replicate_succ, lk36, hM1]
      refine ⟨j + 1, hjl, mj, ?_⟩
      refine ent_weaken [_] rfl rfl (Nat.zero_le _) rfl rfl ?_
      simp (maxSteps := 2000000) only [go_sem, reduceIte, Nat.reduceEqDiff, Nat.reduceAdd, Nat.reduceLT, List.replicate_succ, lk36, eW, laC]
      all_goals first | exact .refl _ | exact ⟨.refl _, .refl _⟩ | exact ⟨.refl _, .refl _, .refl _⟩ | exact ⟨.refl _, _, rfl⟩ | exact ⟨_, rfl⟩ | exact ⟨.refl _, [], by simp⟩ | exact ⟨[], by simp⟩
    | false =>
      rw [hd2] at eo
      have eo : tdO l k R = true := eo
      rw [eo, if_pos rfl] at en eW
      rw [en] at eW
      simp (maxSteps := 2000000) only [go_sem, reduceIte, Nat.reduceEqDiff, Nat.reduceAdd, List.replicate_succ, lk36]
      refine aops_pure' (hbT) rfl rfl (by first | exact wk_refls _ | (repeat constructor)) ?_
      simp (maxSteps := 2000000) only [go_sem, reduceIte, Nat.reduceEqDiff, Nat.reduceAdd, Nat.reduceBEq, List.replicate_succ, lk36]
      refine dops_pure' (s2) rfl rfl (by first | exact wk_refls _ | (repeat constructor)) (by kernel_rfl) ?_
      simp (maxSteps := 2000000) only [go_sem, reduceIte, Nat.reduceEqDiff, Nat.reduceAdd, Nat.reduceBEq, List.replicate_succ, lk36]
      refine dops_pure' (s1) rfl rfl (by first | exact wk_refls _ | (repeat constructor)) (by kernel_rfl) ?_
      simp (maxSteps := 2000000) only [go_sem, reduceIte, Nat.reduceEqDiff, Nat.reduceAdd, List.replicate_succ, lk36, ws, maxL1, hM1]
      refine ⟨j + 1, hjl, mj, ?_⟩
      refine ent_weaken [_] rfl rfl (Nat.zero_le _) rfl rfl ?_
      simp (maxSteps := 2000000) only [go_sem, reduceIte, Nat.reduceEqDiff, Nat.reduceAdd, Nat.reduceLT, List.replicate_succ, lk36, eW, laC]
      all_goals first | exact .refl _ | exact ⟨.refl _, .refl _⟩ | exact ⟨.refl _, .refl _, .refl _⟩ | exact ⟨.refl _, _, rfl⟩ | exact ⟨_, rfl⟩ | exact ⟨.refl _, [], by simp⟩ | exact ⟨[], by simp⟩
  · have hjl' : ¬ nxM l off k j ≤ bh l k := fun h => hjl (hMJ.1 h)
    have ej : j = nxJ l off k := by omega
    have eA : nxW l off k j = nxA l off k := by rw [ej]; rfl
    have w9 : wr .i64 (gI l.an 0 + (k : Int) + 1) = gI l.an 0 + ((k + 1 : Nat) : Int) := by rw [wr_in (by omega)]; omega
    have eb : bstF ltB (nxA l off) (k + 1) = if ltB (nxA l off k) (nxA l off (bstF ltB (nxA l off) k)) then k else bstF ltB (nxA l off) k := rfl
    have r1 : rbD l off (k + 1) = gI l.an 0 + bstF ltB (nxA l off) (k + 1) := if_neg (by clear w9; omega)
    have r2 : rbN l off (k + 1) = nxA l off (bstF ltB (nxA l off) (k + 1)) := if_neg (by clear w9; omega)
    by_cases k0 : k = 0
    · subst k0
      have eb : bstF ltB (nxA l off) (0 + 1) = 0 := by
        rw [eb]; split <;> rfl
      rw [eb] at r1 r2
      have z1 : rbD l off 0 < 0 := by show (-1 : Int) < 0; decide
      clear w9
      have w8 : wr .i64 (gI l.an 0 + 1) = gI l.an 0 + 1 := wr_in (by omega)
      simp (maxSteps := 2000000) only [go_sem, reduceIte, Nat.reduceEqDiff, Nat.reduceAdd, List.replicate_succ, lk36, hjl', z1, eA, Int.add_zero, w8]
      refine ⟨0 + 1, hlt, m1, ?_⟩
      refine ent_weaken [_] rfl rfl (Nat.zero_le _) rfl rfl ?_
      simp (maxSteps := 2000000) only [go_sem, reduceIte, Nat.reduceEqDiff, Nat.reduceLT, List.replicate_succ, lk36, r1, r2, laC, Int.add_zero]
      all_goals first | exact .refl _ | exact ⟨.refl _, .refl _⟩ | exact ⟨.refl _, .refl _, .refl _⟩ | exact ⟨.refl _, _, rfl⟩ | exact ⟨_, rfl⟩ | exact ⟨.refl _, [], by simp⟩ | exact ⟨[], by simp⟩
    · have z1 : ¬ rbD l off k < 0 := by unfold rbD; rw [if_neg k0]; clear w9; omega
      have z2 : rbN l off k = nxA l off (bstF ltB (nxA l off) k) := if_neg k0
      have z3 : rbD l off k = gI l.an 0 + bstF ltB (nxA l off) k := if_neg k0
      by_cases c : nxA l off k < nxA l off (bstF ltB (nxA l off) k)
      · have eb : bstF ltB (nxA l off) (k + 1) = k := by
          rw [eb, show ltB (nxA l off k) (nxA l off (bstF ltB (nxA l off) k)) = true from decide_eq_true c]; rfl
        rw [eb] at r1 r2
        simp (maxSteps := 2000000) only [go_sem, reduceIte, Nat.reduceEqDiff, Nat.reduceAdd, List.replicate_succ, lk36, hjl', z1, eA, z2, c, w9]
        refine ⟨k + 1, hlt, m1, ?_⟩
        refine ent_weaken [_] rfl rfl (Nat.zero_le _) rfl rfl ?_
        simp (maxSteps := 2000000) only [go_sem, reduceIte, Nat.reduceEqDiff, Nat.reduceLT, List.replicate_succ, lk36, r1, r2, laC]
        all_goals first | exact .refl _ | exact ⟨.refl _, .refl _⟩ | exact ⟨.refl _, .refl _, .refl _⟩ | exact ⟨.refl _, _, rfl⟩ | exact ⟨_, rfl⟩ | exact ⟨.refl _, [], by simp⟩ | exact ⟨[], by simp⟩
      · have eb : bstF ltB (nxA l off) (k + 1) = bstF ltB (nxA l off) k := by
          rw [eb, show ltB (nxA l off k) (nxA l off (bstF ltB (nxA l off) k)) = false from decide_eq_false c]; rfl
        rw [eb] at r1 r2
        simp (maxSteps := 2000000) only [go_sem, reduceIte, Nat.reduceEqDiff, Nat.reduceAdd, List.replicate_succ, lk36, hjl', z1, eA, z2, c, w9]
        refine ⟨k + 1, hlt, m1, ?_⟩
        refine ent_weaken [_] rfl rfl (Nat.zero_le _) rfl rfl ?_
        simp (maxSteps := 2000000) only [go_sem, reduceIte, Nat.reduceEqDiff, Nat.reduceLT, List.replicate_succ, lk36, r1, r2, z2, z3, laC]
        all_goals first | exact .refl _ | exact ⟨.refl _, .refl _⟩ | exact ⟨.refl _, .refl _, .refl _⟩ | exact ⟨.refl _, _, rfl⟩ | exact ⟨_, rfl⟩ | exact ⟨.refl _, [], by simp⟩ | exact ⟨[], by simp⟩
end Go.Proofs.Ytliamojogmlgjaa
