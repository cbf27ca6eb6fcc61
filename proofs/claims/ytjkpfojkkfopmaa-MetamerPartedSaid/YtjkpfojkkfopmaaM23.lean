/- Metamers: the stage's theorem. -/
import Derived.Test.YtjkpfojkkfopmaaM22
set_option linter.unusedSimpArgs false
set_option linter.unusedVariables false
set_option maxRecDepth 100000
namespace Go.Proofs.Ytjkpfojkkfopmaa
open Go Go.Abs Go.Proofs
def kp7 : List (Nat × List Nat) := [(0, [1, 2, 3, 4]), (1, [1, 2, 3, 4, 32]), (2, [8]), (3, [1, 2, 4, 9]), (4, [1, 2, 4, 9, 10, 11]), (5, [1, 2, 4, 10, 11, 12, 13]), (6, [1, 2, 4, 10, 11, 12, 13, 14, 15]), (7, [1, 2, 4, 10, 11, 12, 13, 14, 15, 16]), (8, [1, 2, 4, 10, 11, 12, 13, 14, 15, 16, 17, 18]), (9, [1, 2, 4, 10, 12, 14, 16, 17, 18, 83]), (10, [8]), (11, [1, 2, 4, 10, 12, 14, 16, 17, 18, 19]), (12, [1, 2, 4, 10, 12, 14, 16, 17, 18, 19, 20]), (13, [1, 2, 4, 10, 12, 14, 16, 17, 18, 19, 20, 85]), (14, [1, 2, 4, 10, 12, 14, 16, 17, 18, 19, 20]), (15, [1, 2, 4, 10, 12, 14, 16, 17, 18, 19, 20]), (16, [1, 2, 4, 10, 12, 16, 17, 18, 19, 98]), (17, [8]), (18, [1, 2, 4, 17, 126]), (19, [8]), (20, [2, 4, 11, 17, 21]), (21, [11, 13, 21, 22]), (22, [8])]
theorem lk7 : lookK kp7 0 = some [1, 2, 3, 4] ∧ lookK kp7 1 = some [1, 2, 3, 4, 32] ∧ lookK kp7 2 = some [8] ∧ lookK kp7 3 = some [1, 2, 4, 9] ∧ lookK kp7 4 = some [1, 2, 4, 9, 10, 11] ∧ lookK kp7 5 = some [1, 2, 4, 10, 11, 12, 13] ∧ lookK kp7 6 = some [1, 2, 4, 10, 11, 12, 13, 14, 15] ∧ lookK kp7 7 = some [1, 2, 4, 10, 11, 12, 13, 14, 15, 16] ∧ lookK kp7 8 = some [1, 2, 4, 10, 11, 12, 13, 14, 15, 16, 17, 18] ∧ lookK kp7 9 = some [1, 2, 4, 10, 12, 14, 16, 17, 18, 83] ∧ lookK kp7 10 = some [8] ∧ lookK kp7 11 = some [1, 2, 4, 10, 12, 14, 16, 17, 18, 19] ∧ lookK kp7 12 = some [1, 2, 4, 10, 12, 14, 16, 17, 18, 19, 20] ∧ lookK kp7 13 = some [1, 2, 4, 10, 12, 14, 16, 17, 18, 19, 20, 85] ∧ lookK kp7 14 = some [1, 2, 4, 10, 12, 14, 16, 17, 18, 19, 20] ∧ lookK kp7 15 = some [1, 2, 4, 10, 12, 14, 16, 17, 18, 19, 20] ∧ lookK kp7 16 = some [1, 2, 4, 10, 12, 16, 17, 18, 19, 98] ∧ lookK kp7 17 = some [8] ∧ lookK kp7 18 = some [1, 2, 4, 17, 126] ∧ lookK kp7 19 = some [8] ∧ lookK kp7 20 = some [2, 4, 11, 17, 21] ∧ lookK kp7 21 = some [11, 13, 21, 22] ∧ lookK kp7 22 = some [8] := ⟨rfl, rfl, rfl, rfl, rfl, rfl, rfl, rfl, rfl, rfl, rfl, rfl, rfl, rfl, rfl, rfl, rfl, rfl, rfl, rfl, rfl, rfl, rfl⟩

theorem fineB_iff {c : Cs} {a b : List Int} (h : fineB c a b = true) : okChips c a b = 0 := by
  simp only [fineB, Bool.and_eq_true, decide_eq_true_eq] at h
  exact h.2.2.2
theorem spansL_len (c : Cs) (l : List Int) : (spansL c l).length = 3 := rfl
theorem take_all {sp : List Rg} {i : Nat} {r : Rg} (h : sp[i]? = some r) : (sp.take (i + 1)).all zRg = ((sp.take i).all zRg && zRg r) := by
  rw [take_succ_eq h, List.all_append]; simp
set_option maxHeartbeats 8000000 in
theorem partedLaw (c : Cs) (a b by' : List Int) (hby : B16 by') : Pure Try.prog 7 [csV c, ints a, ints b, u16s by'] (B true) := by
  refine pure_wkE (bad := []) (kp := kp7) (X := tx) (nt := 166) (rs := [.tmp 8]) Try.func7 rfl rfl rfl rfl mo (by kernel_rfl) rfl rfl (fun hf => ?_)
  simp (config := { maxSteps := 2000000 }) only [go_sem, reduceIte, Nat.reduceEqDiff, Nat.reduceAdd, Nat.reduceLT, Nat.reduceLeDiff, Nat.reduceBEq, Nat.reduceMul, Nat.reduceSub, Nat.reduceDiv, Int.reduceNeg, Int.reduceLT, Int.reduceLE, Int.reduceEq, Int.reduceToNat, lk7, csV, csC, ints, u16s]
  refine aops_pure' (fine42 c a b) rfl rfl (by first | exact wk_refls _ | (repeat constructor)) ?_
  cases hf : fineB c a b with
  | false =>
    simp (config := { maxSteps := 2000000 }) only [go_sem, reduceIte, Nat.reduceEqDiff, Nat.reduceAdd, Nat.reduceLT, Nat.reduceLeDiff, Nat.reduceBEq, Nat.reduceMul, Nat.reduceSub, Nat.reduceDiv, Int.reduceNeg, Int.reduceLT, Int.reduceLE, Int.reduceEq, Int.reduceToNat, lk7]
    refine aops_pure' (works15) rfl rfl (by first | exact wk_refls _ | (repeat constructor)) ?_
    simp (config := { maxSteps := 2000000 }) only [go_sem, reduceIte, Nat.reduceEqDiff, Nat.reduceAdd, Nat.reduceLT, Nat.reduceLeDiff, Nat.reduceBEq, Nat.reduceMul, Nat.reduceSub, Nat.reduceDiv, Int.reduceNeg, Int.reduceLT, Int.reduceLE, Int.reduceEq, Int.reduceToNat, lk7]
  | true =>
  simp (config := { maxSteps := 2000000 }) only [go_sem, reduceIte, Nat.reduceEqDiff, Nat.reduceAdd, Nat.reduceLT, Nat.reduceLeDiff, Nat.reduceBEq, Nat.reduceMul, Nat.reduceSub, Nat.reduceDiv, Int.reduceNeg, Int.reduceLT, Int.reduceLE, Int.reduceEq, Int.reduceToNat, lk7]
  by_cases h1 : (40 : Int) < by'.length
  · simp (config := { maxSteps := 2000000 }) only [go_sem, reduceIte, Nat.reduceEqDiff, Nat.reduceAdd, Nat.reduceLT, Nat.reduceLeDiff, Nat.reduceBEq, Nat.reduceMul, Nat.reduceSub, Nat.reduceDiv, Int.reduceNeg, Int.reduceLT, Int.reduceLE, Int.reduceEq, Int.reduceToNat, lk7, h1]
    refine aops_pure' (works15) rfl rfl (by first | exact wk_refls _ | (repeat constructor)) ?_
    simp (config := { maxSteps := 2000000 }) only [go_sem, reduceIte, Nat.reduceEqDiff, Nat.reduceAdd, Nat.reduceLT, Nat.reduceLeDiff, Nat.reduceBEq, Nat.reduceMul, Nat.reduceSub, Nat.reduceDiv, Int.reduceNeg, Int.reduceLT, Int.reduceLE, Int.reduceEq, Int.reduceToNat, lk7]
  have h := fineB_iff hf
  obtain ⟨hc, ha, hb⟩ := (okChips_iff c a b).1 h
  obtain ⟨hsa, hna⟩ := chip_spec hc ha
  obtain ⟨hsb, hnb⟩ := chip_spec hc hb
  have hT := trueT_ok hc by'
  have c1 : chip1 c a = 0 := (chip1_iff c a).2 ⟨hc, ha⟩
  have c2 : chip1 c b = 0 := (chip1_iff c b).2 ⟨hc, hb⟩
  have n1 := numbers16 c (trueT c by') a
  have n2 := numbers16 c (trueT c by') b
  rw [numV_ok c1 ((okTr_iff c _).2 hT)] at n1
  rw [numV_ok c2 ((okTr_iff c _).2 hT)] at n2
  have hap := apart24 c a b
  have eap : apaV c a b = .tup [rgs (spansL c (lessL a b)), I 0] := by simp only [apaV, apaL, h, if_true]
  rw [eap] at hap
  have ht43 := true43 c by' hc hby
  simp (config := { maxSteps := 2000000 }) only [go_sem, reduceIte, Nat.reduceEqDiff, Nat.reduceAdd, Nat.reduceLT, Nat.reduceLeDiff, Nat.reduceBEq, Nat.reduceMul, Nat.reduceSub, Nat.reduceDiv, Int.reduceNeg, Int.reduceLT, Int.reduceLE, Int.reduceEq, Int.reduceToNat, lk7, h1, csC]
  refine aops_pure' (ht43) rfl rfl (by first | exact wk_refls _ | (repeat constructor)) ?_
  simp (config := { maxSteps := 2000000 }) only [go_sem, reduceIte, Nat.reduceEqDiff, Nat.reduceAdd, Nat.reduceLT, Nat.reduceLeDiff, Nat.reduceBEq, Nat.reduceMul, Nat.reduceSub, Nat.reduceDiv, Int.reduceNeg, Int.reduceLT, Int.reduceLE, Int.reduceEq, Int.reduceToNat, lk7, csC, trV, trC]
  refine aops_pure' (n1) rfl rfl (by first | exact wk_refls _ | (repeat constructor)) ?_
  simp (config := { maxSteps := 2000000 }) only [go_sem, reduceIte, Nat.reduceEqDiff, Nat.reduceAdd, Nat.reduceLT, Nat.reduceLeDiff, Nat.reduceBEq, Nat.reduceMul, Nat.reduceSub, Nat.reduceDiv, Int.reduceNeg, Int.reduceLT, Int.reduceLE, Int.reduceEq, Int.reduceToNat, lk7, csC, trC]
  refine aops_pure' (n2) rfl rfl (by first | exact wk_refls _ | (repeat constructor)) ?_
  simp (config := { maxSteps := 2000000 }) only [go_sem, reduceIte, Nat.reduceEqDiff, Nat.reduceAdd, Nat.reduceLT, Nat.reduceLeDiff, Nat.reduceBEq, Nat.reduceMul, Nat.reduceSub, Nat.reduceDiv, Int.reduceNeg, Int.reduceLT, Int.reduceLE, Int.reduceEq, Int.reduceToNat, lk7, csC, trC]
  refine aops_pure' (hap) rfl rfl (by first | exact wk_refls _ | (repeat constructor)) ?_
  simp (config := { maxSteps := 2000000 }) only [go_sem, reduceIte, Nat.reduceEqDiff, Nat.reduceAdd, Nat.reduceLT, Nat.reduceLeDiff, Nat.reduceBEq, Nat.reduceMul, Nat.reduceSub, Nat.reduceDiv, Int.reduceNeg, Int.reduceLT, Int.reduceLE, Int.reduceEq, Int.reduceToNat, lk7, csC, trC]
  have hs27 := surely27 c a b
  have hp26 := parting26 c a b
  have hpa := part_all (l := lessL a b) hc
  generalize hsp : spansL c (lessL a b) = sp at *
  have sp3 : sp.length = 3 := by rw [← hsp]; rfl
  cases hp : partB c (lessL a b) with
  | false =>
    obtain ⟨e1, _, e3⟩ := partR_none h hp
    rw [pgV_of e1] at hp26
    rw [sure_eq, e3] at hs27
    rw [hp] at hpa
    have hzz : sp.all zRg = true := by simpa using hpa
    have heq : seeL (pX (trueT c by')) a = seeL (pX (trueT c by')) b := (seeL_eq (by omega)).2 (sure_none hc (by rw [lessL_len]; exact hna) hp hT)
    refine aops_pure' (hs27) rfl rfl (by first | exact wk_refls _ | (repeat constructor)) ?_
    simp (config := { maxSteps := 2000000 }) only [go_sem, reduceIte, Nat.reduceEqDiff, Nat.reduceAdd, Nat.reduceLT, Nat.reduceLeDiff, Nat.reduceBEq, Nat.reduceMul, Nat.reduceSub, Nat.reduceDiv, Int.reduceNeg, Int.reduceLT, Int.reduceLE, Int.reduceEq, Int.reduceToNat, lk7, csC, trC]
    refine aops_pure' (hp26) rfl rfl (by first | exact wk_refls _ | (repeat constructor)) ?_
    generalize hx : (⟨[], []⟩ : Tr) = x
    simp (config := { maxSteps := 2000000 }) only [go_sem, reduceIte, Nat.reduceEqDiff, Nat.reduceAdd, Nat.reduceLT, Nat.reduceLeDiff, Nat.reduceBEq, Nat.reduceMul, Nat.reduceSub, Nat.reduceDiv, Int.reduceNeg, Int.reduceLT, Int.reduceLE, Int.reduceEq, Int.reduceToNat, lk7, csC, trV, trC, sp3, y3, rgs, ints]
    refine goE_loop (bad := []) (kp := kp7) (fun i : Nat => { slots := [(1, ints a), (2, ints b), (4, .c (.ptr 0 0)), (10, ints (seeL (pX (trueT c by')) a)), (12, ints (seeL (pX (trueT c by')) b)), (14, rgs sp), (16, I 0), (17, .c (.ptr 2 0)), (18, I 5), (19, B ((sp.take i).all zRg)), (20, I i)], heap := [.cells (csC c), .cells (trC (trueT c by')), .cells (trC x)], marks := [] }) (fun i => i ≤ 3) (fun i => 3 - i) 0 mo (by kernel_rfl) ?_ (Nat.zero_le _) ?_
    · refine ent_weaken [] rfl rfl (Nat.zero_le _) rfl rfl ?_
      simp (config := { maxSteps := 2000000 }) only [go_sem, reduceIte, Nat.reduceEqDiff, Nat.reduceAdd, Nat.reduceLT, Nat.reduceLeDiff, Nat.reduceBEq, Nat.reduceMul, Nat.reduceSub, Nat.reduceDiv, Int.reduceNeg, Int.reduceLT, Int.reduceLE, Int.reduceEq, Int.reduceToNat, lk7, ints, rgs, List.take_zero, Int.natCast_zero]
      all_goals first | exact .refl _ | exact ⟨.refl _, .refl _⟩ | exact ⟨.refl _, .refl _, .refl _⟩ | exact ⟨.refl _, _, rfl⟩ | exact ⟨_, rfl⟩ | exact ⟨.refl _, [], by simp⟩ | exact ⟨[], by simp⟩
    rintro i hi
    simp (config := { maxSteps := 2000000 }) only [go_sem, reduceIte, Nat.reduceEqDiff, Nat.reduceAdd, Nat.reduceLT, Nat.reduceLeDiff, Nat.reduceBEq, Nat.reduceMul, Nat.reduceSub, Nat.reduceDiv, Int.reduceNeg, Int.reduceLT, Int.reduceLE, Int.reduceEq, Int.reduceToNat, lk7, ints, rgs, csC, trC]
    by_cases hlt : i < 3
    · have hlt' : (i : Int) < 3 := by omega
      obtain ⟨r, hr⟩ := get_of_lt (show i < sp.length by omega)
      have k1 : (i : Int) < sp.length := by omega
      have m1 : 3 - (i + 1) < 3 - i := by omega
      have w3 : wr .i64 ((i : Int) + 1) = ((i + 1 : Nat) : Int) := by rw [wr_i64] <;> omega
      have ht := take_all hr
      cases hz : (sp.take i).all zRg with
      | true =>
        rw [hz, Bool.true_and] at ht
        have ez : (decide (r.lo = 0) && decide (r.hi = 0)) = zRg r := rfl
        simp (config := { maxSteps := 2000000 }) only [go_sem, reduceIte, Nat.reduceEqDiff, Nat.reduceAdd, Nat.reduceLT, Nat.reduceLeDiff, Nat.reduceBEq, Nat.reduceMul, Nat.reduceSub, Nat.reduceDiv, Int.reduceNeg, Int.reduceLT, Int.reduceLE, Int.reduceEq, Int.reduceToNat, lk7, hlt', hr, rgD, nn, k1, w3, ez]
        refine ⟨i + 1, hlt, m1, ?_⟩
        refine ent_weaken [] rfl rfl (Nat.zero_le _) rfl rfl ?_
        simp (config := { maxSteps := 2000000 }) only [go_sem, reduceIte, Nat.reduceEqDiff, Nat.reduceAdd, Nat.reduceLT, Nat.reduceLeDiff, Nat.reduceBEq, Nat.reduceMul, Nat.reduceSub, Nat.reduceDiv, Int.reduceNeg, Int.reduceLT, Int.reduceLE, Int.reduceEq, Int.reduceToNat, lk7, ints, rgs, csC, trC, ht]
        all_goals first | exact .refl _ | exact ⟨.refl _, .refl _⟩ | exact ⟨.refl _, .refl _, .refl _⟩ | exact ⟨.refl _, _, rfl⟩ | exact ⟨_, rfl⟩ | exact ⟨.refl _, [], by simp⟩ | exact ⟨[], by simp⟩
      | false =>
        rw [hz, Bool.false_and] at ht
        simp (config := { maxSteps := 2000000 }) only [go_sem, reduceIte, Nat.reduceEqDiff, Nat.reduceAdd, Nat.reduceLT, Nat.reduceLeDiff, Nat.reduceBEq, Nat.reduceMul, Nat.reduceSub, Nat.reduceDiv, Int.reduceNeg, Int.reduceLT, Int.reduceLE, Int.reduceEq, Int.reduceToNat, lk7, hlt', hr, rgD, nn, k1, w3]
        refine ⟨i + 1, hlt, m1, ?_⟩
        refine ent_weaken [] rfl rfl (Nat.zero_le _) rfl rfl ?_
        simp (config := { maxSteps := 2000000 }) only [go_sem, reduceIte, Nat.reduceEqDiff, Nat.reduceAdd, Nat.reduceLT, Nat.reduceLeDiff, Nat.reduceBEq, Nat.reduceMul, Nat.reduceSub, Nat.reduceDiv, Int.reduceNeg, Int.reduceLT, Int.reduceLE, Int.reduceEq, Int.reduceToNat, lk7, ints, rgs, csC, trC, ht]
        all_goals first | exact .refl _ | exact ⟨.refl _, .refl _⟩ | exact ⟨.refl _, .refl _, .refl _⟩ | exact ⟨.refl _, _, rfl⟩ | exact ⟨_, rfl⟩ | exact ⟨.refl _, [], by simp⟩ | exact ⟨[], by simp⟩
    have hlt' : ¬ (i : Int) < 3 := by omega
    have e3 : sp.take i = sp := List.take_of_length_le (by omega)
    simp (config := { maxSteps := 2000000 }) only [go_sem, reduceIte, Nat.reduceEqDiff, Nat.reduceAdd, Nat.reduceLT, Nat.reduceLeDiff, Nat.reduceBEq, Nat.reduceMul, Nat.reduceSub, Nat.reduceDiv, Int.reduceNeg, Int.reduceLT, Int.reduceLE, Int.reduceEq, Int.reduceToNat, lk7, hlt', e3, hzz]
    refine aops_pure' (longs22 (seeL (pX (trueT c by')) a) (seeL (pX (trueT c by')) b)) rfl rfl (by first | exact wk_refls _ | (repeat constructor)) ?_
    simp (config := { maxSteps := 2000000 }) only [go_sem, reduceIte, Nat.reduceEqDiff, Nat.reduceAdd, Nat.reduceLT, Nat.reduceLeDiff, Nat.reduceBEq, Nat.reduceMul, Nat.reduceSub, Nat.reduceDiv, Int.reduceNeg, Int.reduceLT, Int.reduceLE, Int.reduceEq, Int.reduceToNat, lk7, heq]
    refine aops_pure' (works15) rfl rfl (by first | exact wk_refls _ | (repeat constructor)) ?_
    simp (config := { maxSteps := 2000000 }) only [go_sem, reduceIte, Nat.reduceEqDiff, Nat.reduceAdd, Nat.reduceLT, Nat.reduceLeDiff, Nat.reduceBEq, Nat.reduceMul, Nat.reduceSub, Nat.reduceDiv, Int.reduceNeg, Int.reduceLT, Int.reduceLE, Int.reduceEq, Int.reduceToNat, lk7]
  | true =>
    obtain ⟨e1, _, e3⟩ := partR_some h hp
    rw [pgV_of e1] at hp26
    rw [sure_eq, e3] at hs27
    rw [hp] at hpa
    have hzz : sp.all zRg = false := by simpa using hpa
    have hP := partT_ok hc (partP c (lessL a b))
    have hne : ¬ seeL (pX (partT c (partP c (lessL a b)))) a = seeL (pX (partT c (partP c (lessL a b)))) b := fun he => by
      obtain ⟨k, hk, h0⟩ := part_parts hc (by rw [lessL_len]; exact hna) hp
      exact h0 ((seeL_eq (by omega)).1 he k hk)
    have ht30 := checkTrue30 c (partT c (partP c (lessL a b))) hc
    rw [(okTr_iff c _).2 hP] at ht30
    have m1 := numbers16 c (partT c (partP c (lessL a b))) a
    have m2 := numbers16 c (partT c (partP c (lessL a b))) b
    rw [numV_ok c1 ((okTr_iff c _).2 hP)] at m1
    rw [numV_ok c2 ((okTr_iff c _).2 hP)] at m2
    have l1 : (seeL (pX (partT c (partP c (lessL a b)))) a).length = 3 := rfl
    have l2 : (seeL (pX (partT c (partP c (lessL a b)))) b).length = 3 := rfl
    generalize partT c (partP c (lessL a b)) = x at *
    refine aops_pure' (hs27) rfl rfl (by first | exact wk_refls _ | (repeat constructor)) ?_
    simp (config := { maxSteps := 2000000 }) only [go_sem, reduceIte, Nat.reduceEqDiff, Nat.reduceAdd, Nat.reduceLT, Nat.reduceLeDiff, Nat.reduceBEq, Nat.reduceMul, Nat.reduceSub, Nat.reduceDiv, Int.reduceNeg, Int.reduceLT, Int.reduceLE, Int.reduceEq, Int.reduceToNat, lk7, csC, trC]
    refine aops_pure' (hp26) rfl rfl (by first | exact wk_refls _ | (repeat constructor)) ?_
    simp (config := { maxSteps := 2000000 }) only [go_sem, reduceIte, Nat.reduceEqDiff, Nat.reduceAdd, Nat.reduceLT, Nat.reduceLeDiff, Nat.reduceBEq, Nat.reduceMul, Nat.reduceSub, Nat.reduceDiv, Int.reduceNeg, Int.reduceLT, Int.reduceLE, Int.reduceEq, Int.reduceToNat, lk7, csC, trV, trC, sp3, y3, rgs, ints]
    refine goE_loop (bad := []) (kp := kp7) (fun i : Nat => { slots := [(1, ints a), (2, ints b), (4, .c (.ptr 0 0)), (10, ints (seeL (pX (trueT c by')) a)), (12, ints (seeL (pX (trueT c by')) b)), (14, rgs sp), (16, I 19), (17, .c (.ptr 2 0)), (18, I 0), (19, B ((sp.take i).all zRg)), (20, I i)], heap := [.cells (csC c), .cells (trC (trueT c by')), .cells (trC x)], marks := [] }) (fun i => i ≤ 3) (fun i => 3 - i) 0 mo (by kernel_rfl) ?_ (Nat.zero_le _) ?_
    · refine ent_weaken [] rfl rfl (Nat.zero_le _) rfl rfl ?_
      simp (config := { maxSteps := 2000000 }) only [go_sem, reduceIte, Nat.reduceEqDiff, Nat.reduceAdd, Nat.reduceLT, Nat.reduceLeDiff, Nat.reduceBEq, Nat.reduceMul, Nat.reduceSub, Nat.reduceDiv, Int.reduceNeg, Int.reduceLT, Int.reduceLE, Int.reduceEq, Int.reduceToNat, lk7, ints, rgs, List.take_zero, Int.natCast_zero]
      all_goals first | exact .refl _ | exact ⟨.refl _, .refl _⟩ | exact ⟨.refl _, .refl _, .refl _⟩ | exact ⟨.refl _, _, rfl⟩ | exact ⟨_, rfl⟩ | exact ⟨.refl _, [], by simp⟩ | exact ⟨[], by simp⟩
    rintro i hi
    simp (config := { maxSteps := 2000000 }) only [go_sem, reduceIte, Nat.reduceEqDiff, Nat.reduceAdd, Nat.reduceLT, Nat.reduceLeDiff, Nat.reduceBEq, Nat.reduceMul, Nat.reduceSub, Nat.reduceDiv, Int.reduceNeg, Int.reduceLT, Int.reduceLE, Int.reduceEq, Int.reduceToNat, lk7, ints, rgs, csC, trC]
    by_cases hlt : i < 3
    · have hlt' : (i : Int) < 3 := by omega
      obtain ⟨r, hr⟩ := get_of_lt (show i < sp.length by omega)
      have k1 : (i : Int) < sp.length := by omega
      have m1 : 3 - (i + 1) < 3 - i := by omega
      have w3 : wr .i64 ((i : Int) + 1) = ((i + 1 : Nat) : Int) := by rw [wr_i64] <;> omega
      have ht := take_all hr
      cases hz : (sp.take i).all zRg with
      | true =>
        rw [hz, Bool.true_and] at ht
        have ez : (decide (r.lo = 0) && decide (r.hi = 0)) = zRg r := rfl
        simp (config := { maxSteps := 2000000 }) only [go_sem, reduceIte, Nat.reduceEqDiff, Nat.reduceAdd, Nat.reduceLT, Nat.reduceLeDiff, Nat.reduceBEq, Nat.reduceMul, Nat.reduceSub, Nat.reduceDiv, Int.reduceNeg, Int.reduceLT, Int.reduceLE, Int.reduceEq, Int.reduceToNat, lk7, hlt', hr, rgD, nn, k1, w3, ez]
        refine ⟨i + 1, hlt, m1, ?_⟩
        refine ent_weaken [] rfl rfl (Nat.zero_le _) rfl rfl ?_
        simp (config := { maxSteps := 2000000 }) only [go_sem, reduceIte, Nat.reduceEqDiff, Nat.reduceAdd, Nat.reduceLT, Nat.reduceLeDiff, Nat.reduceBEq, Nat.reduceMul, Nat.reduceSub, Nat.reduceDiv, Int.reduceNeg, Int.reduceLT, Int.reduceLE, Int.reduceEq, Int.reduceToNat, lk7, ints, rgs, csC, trC, ht]
        all_goals first | exact .refl _ | exact ⟨.refl _, .refl _⟩ | exact ⟨.refl _, .refl _, .refl _⟩ | exact ⟨.refl _, _, rfl⟩ | exact ⟨_, rfl⟩ | exact ⟨.refl _, [], by simp⟩ | exact ⟨[], by simp⟩
      | false =>
        rw [hz, Bool.false_and] at ht
        simp (config := { maxSteps := 2000000 }) only [go_sem, reduceIte, Nat.reduceEqDiff, Nat.reduceAdd, Nat.reduceLT, Nat.reduceLeDiff, Nat.reduceBEq, Nat.reduceMul, Nat.reduceSub, Nat.reduceDiv, Int.reduceNeg, Int.reduceLT, Int.reduceLE, Int.reduceEq, Int.reduceToNat, lk7, hlt', hr, rgD, nn, k1, w3]
        refine ⟨i + 1, hlt, m1, ?_⟩
        refine ent_weaken [] rfl rfl (Nat.zero_le _) rfl rfl ?_
        simp (config := { maxSteps := 2000000 }) only [go_sem, reduceIte, Nat.reduceEqDiff, Nat.reduceAdd, Nat.reduceLT, Nat.reduceLeDiff, Nat.reduceBEq, Nat.reduceMul, Nat.reduceSub, Nat.reduceDiv, Int.reduceNeg, Int.reduceLT, Int.reduceLE, Int.reduceEq, Int.reduceToNat, lk7, ints, rgs, csC, trC, ht]
        all_goals first | exact .refl _ | exact ⟨.refl _, .refl _⟩ | exact ⟨.refl _, .refl _, .refl _⟩ | exact ⟨.refl _, _, rfl⟩ | exact ⟨_, rfl⟩ | exact ⟨.refl _, [], by simp⟩ | exact ⟨[], by simp⟩
    have hlt' : ¬ (i : Int) < 3 := by omega
    have e3 : sp.take i = sp := List.take_of_length_le (by omega)
    simp (config := { maxSteps := 2000000 }) only [go_sem, reduceIte, Nat.reduceEqDiff, Nat.reduceAdd, Nat.reduceLT, Nat.reduceLeDiff, Nat.reduceBEq, Nat.reduceMul, Nat.reduceSub, Nat.reduceDiv, Int.reduceNeg, Int.reduceLT, Int.reduceLE, Int.reduceEq, Int.reduceToNat, lk7, hlt', e3, hzz]
    refine aops_pure' (ht30) rfl rfl (by first | exact wk_refls _ | (repeat constructor)) ?_
    simp (config := { maxSteps := 2000000 }) only [go_sem, reduceIte, Nat.reduceEqDiff, Nat.reduceAdd, Nat.reduceLT, Nat.reduceLeDiff, Nat.reduceBEq, Nat.reduceMul, Nat.reduceSub, Nat.reduceDiv, Int.reduceNeg, Int.reduceLT, Int.reduceLE, Int.reduceEq, Int.reduceToNat, lk7, csC, trC]
    refine aops_pure' (m1) rfl rfl (by first | exact wk_refls _ | (repeat constructor)) ?_
    simp (config := { maxSteps := 2000000 }) only [go_sem, reduceIte, Nat.reduceEqDiff, Nat.reduceAdd, Nat.reduceLT, Nat.reduceLeDiff, Nat.reduceBEq, Nat.reduceMul, Nat.reduceSub, Nat.reduceDiv, Int.reduceNeg, Int.reduceLT, Int.reduceLE, Int.reduceEq, Int.reduceToNat, lk7, csC, trC]
    refine aops_pure' (m2) rfl rfl (by first | exact wk_refls _ | (repeat constructor)) ?_
    simp (config := { maxSteps := 2000000 }) only [go_sem, reduceIte, Nat.reduceEqDiff, Nat.reduceAdd, Nat.reduceLT, Nat.reduceLeDiff, Nat.reduceBEq, Nat.reduceMul, Nat.reduceSub, Nat.reduceDiv, Int.reduceNeg, Int.reduceLT, Int.reduceLE, Int.reduceEq, Int.reduceToNat, lk7, ints, l1, l2, y3]
    refine aops_pure' (longs22 (seeL (pX x) a) (seeL (pX x) b)) rfl rfl (by first | exact wk_refls _ | (repeat constructor)) ?_
    simp (config := { maxSteps := 2000000 }) only [go_sem, reduceIte, Nat.reduceEqDiff, Nat.reduceAdd, Nat.reduceLT, Nat.reduceLeDiff, Nat.reduceBEq, Nat.reduceMul, Nat.reduceSub, Nat.reduceDiv, Int.reduceNeg, Int.reduceLT, Int.reduceLE, Int.reduceEq, Int.reduceToNat, lk7, hne]
    refine aops_pure' (works15) rfl rfl (by first | exact wk_refls _ | (repeat constructor)) ?_
    simp (config := { maxSteps := 2000000 }) only [go_sem, reduceIte, Nat.reduceEqDiff, Nat.reduceAdd, Nat.reduceLT, Nat.reduceLeDiff, Nat.reduceBEq, Nat.reduceMul, Nat.reduceSub, Nat.reduceDiv, Int.reduceNeg, Int.reduceLT, Int.reduceLE, Int.reduceEq, Int.reduceToNat, lk7]
end Go.Proofs.Ytjkpfojkkfopmaa
