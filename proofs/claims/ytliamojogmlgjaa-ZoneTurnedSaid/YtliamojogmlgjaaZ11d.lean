/- Zones: draw, walked. -/
import Derived.Test.YtliamojogmlgjaaZ11
set_option linter.unusedSimpArgs false
set_option linter.unusedVariables false
set_option maxRecDepth 100000
namespace Go.Proofs.Ytliamojogmlgjaa
open Go Go.Abs Go.Proofs
def kp78 : List (Nat × List Nat) := [(0, [1]), (1, [1, 2]), (2, [1, 2, 16]), (3, [1, 3]), (4, [1, 3, 4, 5]), (5, [1, 3, 4, 5]), (6, []), (7, [1, 62]), (8, [1]), (9, [1, 68]), (10, [1, 6, 70]), (11, [1, 6, 7]), (12, [1, 6, 7, 8]), (13, [1, 6, 7, 8, 77]), (14, [1, 6, 7, 8]), (15, [1, 6, 7, 8]), (16, [1, 106, 107, 108]), (17, [1, 106, 107, 108, 109]), (18, [1, 9, 10, 106, 107, 108]), (19, [1, 106, 107, 108]), (20, [1, 106, 107, 108])]
theorem lk78 : lookK kp78 0 = some [1] ∧ lookK kp78 1 = some [1, 2] ∧ lookK kp78 2 = some [1, 2, 16] ∧ lookK kp78 3 = some [1, 3] ∧ lookK kp78 4 = some [1, 3, 4, 5] ∧ lookK kp78 5 = some [1, 3, 4, 5] ∧ lookK kp78 6 = some [] ∧ lookK kp78 7 = some [1, 62] ∧ lookK kp78 8 = some [1] ∧ lookK kp78 9 = some [1, 68] ∧ lookK kp78 10 = some [1, 6, 70] ∧ lookK kp78 11 = some [1, 6, 7] ∧ lookK kp78 12 = some [1, 6, 7, 8] ∧ lookK kp78 13 = some [1, 6, 7, 8, 77] ∧ lookK kp78 14 = some [1, 6, 7, 8] ∧ lookK kp78 15 = some [1, 6, 7, 8] ∧ lookK kp78 16 = some [1, 106, 107, 108] ∧ lookK kp78 17 = some [1, 106, 107, 108, 109] ∧ lookK kp78 18 = some [1, 9, 10, 106, 107, 108] ∧ lookK kp78 19 = some [1, 106, 107, 108] ∧ lookK kp78 20 = some [1, 106, 107, 108] := ⟨rfl, rfl, rfl, rfl, rfl, rfl, rfl, rfl, rfl, rfl, rfl, rfl, rfl, rfl, rfl, rfl, rfl, rfl, rfl, rfl, rfl⟩


theorem gap_hw (l : La) (i : Nat) (F G : Nat → Int) : ∃ h w : Nat, h ≤ i + 1 ∧ w ≤ i + 1 ∧ gapC l i = [.d (.int .i64 h), .d (.int .i64 w)] ∧ stepL (da l) F (i + 1) = upd F h (max (F h) (F w)) ∧ stepH (da l) G (i + 1) = upd G w (min (G w) (G h))
    ∧ (∀ f : Nat → Int, (if da l (i + 1) then f (i + 1) else f i) = f w) ∧ ∀ f : Nat → Int, (if da l (i + 1) then f i else f (i + 1)) = f h := by
  have hda : da l (i + 1) = gB l.fa i := rfl
  cases hf : gB l.fa i with
  | true => exact ⟨i, i + 1, by omega, by omega, by unfold gapC; rw [hf]; rfl, by unfold stepL; rw [hda, hf]; rfl, by unfold stepH; rw [hda, hf]; rfl, fun f => by rw [hda, hf]; rfl, fun f => by rw [hda, hf]; rfl⟩
  | false => exact ⟨i + 1, i, by omega, by omega, by unfold gapC; rw [hf]; rfl, by unfold stepL; rw [hda, hf]; rfl, by unfold stepH; rw [hda, hf]; rfl, fun f => by rw [hda, hf]; rfl, fun f => by rw [hda, hf]; rfl⟩
def slG : List (Nat × V) := [(1, .c (.ptr 2 0)), (68, .c (.fn (.func 83) [.ptr 3 0]))]
def HG (l : La) (a : Nat → Int) (A Bd : Code) (st : LoopState) (F G : Nat → Int) : List AB :=
  [.cells (laC l), .cells (tabC l a (ilv F G)), .cells [.ptr 1 0], .cells [.ptr 1 0], .df, .lp { state := st, pend := none, slots := slG, nt := 133, ps := #[69, 70], assign := A, body := Bd, D := 4 }]
theorem HG_low (l : La) (a : Nat → Int) (A Bd : Code) (st : LoopState) (F G : Nat → Int) : (HG l a A Bd st F G).all (AB.low 6) = true := by
  simp only [HG, List.all_cons, List.all_nil, AB.low, tab_low, laC_low, Bool.and_true, Bool.true_and]
  rfl
theorem HG_lowg (l : La) (a : Nat → Int) (A Bd : Code) (st : LoopState) (F G : Nat → Int) (h w : Nat) : (HG l a A Bd st F G ++ [AB.cells [.d (.int .i64 h), .d (.int .i64 w)]]).all (AB.low 7) = true := by
  simp only [HG, List.cons_append, List.nil_append, List.all_cons, List.all_nil, AB.low, tab_low, laC_low, Bool.and_true, Bool.true_and]
  rfl
theorem HG_low3 (l : La) (a : Nat → Int) (A Bd : Code) (st : LoopState) (F G : Nat → Int) (h w x y : Nat) : (HG l a A Bd st F G ++ [AB.cells [.d (.int .i64 h), .d (.int .i64 w)], AB.cells [.d (.int .i64 h), .d (.int .i64 w)], AB.cells [.d (.int .i64 x), .d (.int .i64 y)]]).all (AB.low 9) = true := by
  simp only [HG, List.cons_append, List.nil_append, List.all_cons, List.all_nil, AB.low, tab_low, laC_low, Bool.and_true, Bool.true_and]
  rfl
theorem HD_lowh (l : La) (b d : Nat → Int) (A Bd : Code) (st : LoopState) (F G : Nat → Int) (h w : Nat) : (HD l b d A Bd st F G ++ [AB.cells [.d (.int .i64 h), .d (.int .i64 w)]]).all (AB.low 8) = true := by
  simp only [HD, List.cons_append, List.nil_append, List.all_cons, List.all_nil, AB.low, tab_low, numsC_low, laC_low, Bool.and_true, Bool.true_and]
  rfl
set_option maxHeartbeats 8000000 in
theorem draw78 (l : La) (ok : OkLa l) : ACall Try.prog 78 [.c (.ptr 1 0)] [.cells (laC l), .cells (tabC l (ilv (lis l) (his l)) (fun _ => 0))]
    (one (.tup []) [.cells (laC l), .cells (tabC l (ilv (aL l) (aH l)) (ilv (cut l.we.length (bl l)) (cut l.we.length (bh l))))]) := by
  refine ACall.drop2 (Nat.le_refl _) rfl (H2_low _ _ _) ?_
  refine acall_fitE (bad := [4, 5, 6, 15, 19, 10008]) (kp := kp78) (X := tx) (nt := 133) (rs := []) Try.func78 rfl rfl rfl rfl mo (by kernel_rfl) (fun hf => ?_)
  have m11 := ok.m11
  have m2 := ok.m2
  have hfa := ok.fa
  simp (maxSteps := 2000000) only [go_sem, reduceIte, Nat.reduceEqDiff, Nat.reduceAdd, Nat.reduceBEq, List.replicate_succ, lk78]
  refine goE_loop (bad := [4, 5, 6, 15, 19, 10008]) (kp := kp78) (fun r : Nat => { slots := [(1, .c (.ptr 2 0))], heap := H3 l (ilv (rL l r) (rH l r)) (fun _ => 0), marks := [] }) (fun _ => True) (fun r => meas l r l.an.length) 0 mo (by kernel_rfl) ?_ trivial ?_
  · refine ent_weaken [] rfl rfl (show 2 ≤ 3 by decide) (H3_low _ _ _) rfl ?_
    simp (maxSteps := 2000000) only [go_sem, reduceIte, List.replicate_succ, lk78]
    all_goals first | exact .refl _ | exact ⟨.refl _, .refl _⟩ | exact ⟨.refl _, .refl _, .refl _⟩ | exact ⟨.refl _, _, rfl⟩ | exact ⟨_, rfl⟩ | exact ⟨.refl _, [], by simp⟩ | exact ⟨[], by simp⟩
  rintro r -
  have hmore := draw_more (l := l) (r := r) ok
  have hdone := draw_done (l := l) (r := r) ok
  obtain ⟨SL, hL0, hLs, hLe⟩ : ∃ SL : Nat → Nat → Int, rL l r = SL 0 ∧ (∀ i, SL (i + 1) = stepL (da l) (SL i) (i + 1)) ∧ rL l (r + 1) = SL l.fa.length :=
    ⟨fun i => sweepL (da l) (rL l r) i, rfl, fun _ => rfl, by rw [show l.fa.length = l.an.length - 1 by omega]; rfl⟩
  obtain ⟨SH, hH0, hHs, hHe⟩ : ∃ SH : Nat → Nat → Int, rH l r = SH 0 ∧ (∀ i, SH (i + 1) = stepH (da l) (SH i) (i + 1)) ∧ rH l (r + 1) = SH l.fa.length :=
    ⟨fun i => sweepH (da l) (rH l r) i, rfl, fun _ => rfl, by rw [show l.fa.length = l.an.length - 1 by omega]; rfl⟩
  rw [hL0, hH0]
  rw [hL0, hH0, hLe, hHe] at hmore hdone
  have hz : ∀ g, setMany (List.replicate 22 (C.d (D.int .i64 0))) 0 (numsC 22 g) = numsC 22 g := fun g => by rw [zero_nums, set_full]
  simp (maxSteps := 2000000) only [go_sem, List.replicate_succ, lk78] at hz
  have hg := gaps81 [.cells (laC l), .cells (tabC l (ilv (SL 0) (SH 0)) (fun _ => 0)), .cells [.ptr 1 0], .cells (numsC 22 (ilv (SL 0) (SH 0)))] 1 (show 1 < 4 by decide)
  unfold laC at hg
  simp (maxSteps := 2000000) only [go_sem, Nat.reduceAdd, List.replicate_succ, lk78, List.cons_append, List.nil_append] at hg
  simp (maxSteps := 2000000) only [go_sem, reduceIte, Nat.reduceEqDiff, Nat.reduceAdd, Nat.reduceLeDiff, Nat.reduceBEq, List.replicate_succ, lk78, H3, laC, tab_len, tab_ang, numsC_len, hz]
  refine aops_at (hg) rfl rfl (by first | exact wk_refls _ | (repeat constructor)) ?_
  simp (maxSteps := 2000000) only [go_sem, reduceIte, Nat.reduceEqDiff, List.replicate_succ, lk78]
  refine code_gen (fun A Bd hA hB => ?_)
  refine awp_rangeFuncH (gf := 83) (caps := [.ptr 4 0]) rfl rfl (show 2 ≤ 5 by decide) rfl ?_
  refine ACall.mono (gaps83 6 4 1 l ok (fun i => ilv (SL i) (SH i)) (fun _ _ => 0) (fun i => HD l (ilv (SL 0) (SH 0)) (fun _ => 0) A Bd .ready (SL i) (SH i)) (fun k hk => ⟨HD_low _ _ _ _ _ _ _ _, rfl⟩) (show 6 < 7 by decide) (fun _ _ => rfl) (fun _ _ => rfl) (fun i hi => ?_)) ?_
  · show YCs Try.prog 6 (HD l (ilv (SL 0) (SH 0)) (fun _ => 0) A Bd .ready (SL i) (SH i) ++ [.cells (gapC l i)]) [.agg (gapC l i), .agg (gdC l i)] (one (B true) (HD l (ilv (SL 0) (SH 0)) (fun _ => 0) A Bd .ready (SL (i + 1)) (SH (i + 1)) ++ [.cells (gapC l i)]))
    rw [hLs i, hHs i]
    generalize SL i = F at *
    generalize SH i = G at *
    generalize ilv (SL 0) (SH 0) = b0 at *
    obtain ⟨h, w, hh, hw, eg, eL2, eH2, _, _⟩ := gap_hw l i F G
    rw [eL2, eH2, eg]
    have h11 : h < 11 := by omega
    have w11 : w < 11 := by omega
    have h11' : (h : Int) < 11 := by omega
    have w11' : (w : Int) < 11 := by omega
    have c1 : decide (4 + h * 2 + 2 ≤ 208) = true := by simp; omega
    have c1' : decide (4 + h * 2 ≤ 206) = true := by simp; omega
    have c2 : decide (4 + w * 2 + 2 ≤ 208) = true := by simp; omega
    have c2' : decide (4 + w * 2 ≤ 206) = true := by simp; omega
    have c3 : decide (4 + h * 2 + 1 ≤ 208) = true := by simp; omega
    have c3' : decide (4 + h * 2 ≤ 207) = true := by simp; omega
    have c4 : decide (4 + w * 2 + 1 + 1 ≤ 208) = true := by simp; omega
    have c4' : decide (4 + w * 2 + 1 ≤ 207) = true := by simp; omega
    have c4'' : decide (4 + w * 2 ≤ 206) = true := by simp; omega
    have r1 := tabA_row (l := l) (F := F) (G := G) (d := fun _ => 0) h11
    have r2 := tabA_row (l := l) (F := F) (G := G) (d := fun _ => 0) w11
    have s1 := fun v => tabA_lo (l := l) (F := F) (G := G) (d := fun _ => 0) (v := v) h11
    have s2 := fun F v => tabA_hi (l := l) (F := F) (G := G) (d := fun _ => 0) (v := v) w11
    have lowg := HD_lowh l b0 (fun _ => 0) A Bd .busy (upd F h (max (F h) (F w))) (upd G w (min (G w) (G h))) h w
    refine ycs_ofC (bad := [4, 5, 6, 15, 19, 10008]) (kp := kp78) (X := tx) mo rfl hA hB rfl rfl (by kernel_rfl) (by kernel_rfl) (fun lp => ?_)
    simp (maxSteps := 2000000) only [go_sem, reduceIte, Nat.reduceEqDiff, Nat.reduceAdd, Nat.reduceLeDiff, Nat.reduceBEq, List.replicate_succ, lk78, putPs, HD, slD, gdC, List.cons_append, List.nil_append]
    refine ⟨_, rfl, ?_⟩
    simp (maxSteps := 2000000) only [go_sem, reduceIte, Nat.reduceEqDiff, Nat.reduceAdd, Nat.reduceLT, Nat.reduceLeDiff, Nat.reduceBEq, List.replicate_succ, lk78, putPs, HD, slD, gdC, List.cons_append, List.nil_append, nn, h11', w11', Int.toNat_natCast, tab_len, r1, r2, s1, s2, c1, c1', c2, c2', c3, c3', c4, c4', c4'', maxL1, minL1]
    refine ⟨pairsOk_ord (by kernel_rfl), pairsOk_ord (by kernel_rfl), pairsOk_ord (by kernel_rfl), ?_⟩
    exact ⟨{ slots := [], heap := HD l b0 (fun _ => 0) A Bd .busy (upd F h (max (F h) (F w))) (upd G w (min (G w) (G h))) ++ [AB.cells [.d (.int .i64 h), .d (.int .i64 w)]], marks := [] }, ent_weaken [AB.cells [.d (.int .i64 h), .d (.int .i64 w)], AB.cells [.d (.int .i64 (F h)), .d (.int .i64 (G h))], AB.cells [.d (.int .i64 (F w)), .d (.int .i64 (G w))]] rfl rfl (Nat.le_refl _) lowg rfl trivial, _, rfl, rfl, rfl⟩
  · rintro _ H2 rfl
    refine ⟨fun h => (by cases h), rfl, rfl, ?_⟩
    have hp := fun (h : eqN 22 (ilv (SL l.fa.length) (SH l.fa.length)) (ilv (SL 0) (SH 0)) = true) => hdone h
    have hn := fun (h : eqN 22 (ilv (SL l.fa.length) (SH l.fa.length)) (ilv (SL 0) (SH 0)) = false) => hmore h
    cases he : eqN 22 (ilv (SL l.fa.length) (SH l.fa.length)) (ilv (SL 0) (SH 0)) with
    | false =>
      simp (maxSteps := 2000000) only [go_sem, reduceIte, Nat.reduceEqDiff, Nat.reduceAdd, Nat.reduceLeDiff, Nat.reduceBEq, List.replicate_succ, lk78, HD, slD, laC, tab_len, tab_ang, numsC_len, take_full, eqCs_nums, he]
      refine ⟨r + 1, hn he, ?_⟩
      refine ent_weaken [.cells (numsC 22 (ilv (SL 0) (SH 0))), .cells [.ptr 1 0], .gone, .lp { state := .exhausted, pend := none, slots := slD, nt := 133, ps := #[17, 18], assign := A, body := Bd, D := 5 }] (by rw [hLe, hHe]; rfl) rfl (show 2 ≤ 3 by decide) (H3_low _ _ _) rfl ?_
      simp (maxSteps := 2000000) only [go_sem, reduceIte, Nat.reduceEqDiff, Nat.reduceAdd, Nat.reduceLT, List.replicate_succ, lk78]
      all_goals first | exact .refl _ | exact ⟨.refl _, .refl _⟩ | exact ⟨.refl _, .refl _, .refl _⟩ | exact ⟨.refl _, _, rfl⟩ | exact ⟨_, rfl⟩ | exact ⟨.refl _, [], by simp⟩ | exact ⟨[], by simp⟩
    | true =>
      obtain ⟨eL, eH⟩ := hp he
      have hcl := tab_clear l (ilv (SL l.fa.length) (SH l.fa.length)) (fun _ => 0)
      simp (maxSteps := 2000000) only [go_sem, Nat.reduceAdd, List.replicate_succ, lk78] at hcl
      simp (maxSteps := 2000000) only [go_sem, reduceIte, Nat.reduceEqDiff, Nat.reduceAdd, Nat.reduceLeDiff, Nat.reduceBEq, Nat.reduceMul, List.replicate_succ, lk78, HD, slD, laC, tab_len, tab_ang, numsC_len, take_full, eqCs_nums, he, hcl]
      rw [eL, eH]
      clear hmore hdone hp hn he hz hg hcl
      refine ⟨by decide, ?_⟩
      have e0 : (fun _ => 0 : Nat → Int) = ilv (dkF l (spL l (alo l)) (P l 0)) (dkF l (spH l (ahi l)) (P l 0)) := by
        rw [(lay ok).p0, dkF_zero, dkF_zero]
        funext j; unfold ilv; split <;> rfl
      refine stop_mk { slots := [(1, .c (.ptr 2 0))], heap := H3 l (ilv (aL l) (aH l)) (ilv (dkF l (spL l (alo l)) (P l 0)) (dkF l (spH l (ahi l)) (P l 0))), marks := [] } ?_ ?_
      · refine ent_weaken [.cells (numsC 22 (ilv (SL 0) (SH 0))), .cells [.ptr 1 0], .gone, .lp { state := .exhausted, pend := none, slots := slD, nt := 133, ps := #[17, 18], assign := A, body := Bd, D := 5 }] (by rw [← e0]; rfl) rfl (show 2 ≤ 3 by decide) (H3_low _ _ _) rfl ?_
        simp (maxSteps := 2000000) only [go_sem, reduceIte, List.replicate_succ, lk78]
        all_goals first | exact .refl _ | exact ⟨.refl _, .refl _⟩ | exact ⟨.refl _, .refl _, .refl _⟩ | exact ⟨.refl _, _, rfl⟩ | exact ⟨_, rfl⟩ | exact ⟨.refl _, [], by simp⟩ | exact ⟨[], by simp⟩
      clear e0 hLs hHs hLe hHe hL0 hH0 eL eH
      obtain ⟨DL, d0, dS, dE⟩ : ∃ DL : Nat → Nat → Int, dkF l (spL l (alo l)) (P l 0) = DL 0 ∧ (∀ i, DL i = dkF l (spL l (alo l)) (P l i)) ∧ DL l.fa.length = dkF l (spL l (alo l)) l.we.length := ⟨fun i => dkF l (spL l (alo l)) (P l i), rfl, fun _ => rfl, by
        have hpn := (lay ok).pn
        have ha := ang_eq ok (i := l.an.length - 1) (by omega)
        rw [show l.fa.length = l.an.length - 1 by omega]
        show dkF l (spL l (alo l)) (P l (l.an.length - 1)) = _
        rw [dkF_skip (k := P l (l.an.length - 1)) (by rw [ha]; omega), hpn]⟩
      obtain ⟨DH, g0, gS, gE⟩ : ∃ DH : Nat → Nat → Int, dkF l (spH l (ahi l)) (P l 0) = DH 0 ∧ (∀ i, DH i = dkF l (spH l (ahi l)) (P l i)) ∧ DH l.fa.length = dkF l (spH l (ahi l)) l.we.length := ⟨fun i => dkF l (spH l (ahi l)) (P l i), rfl, fun _ => rfl, by
        have hpn := (lay ok).pn
        have ha := ang_eq ok (i := l.an.length - 1) (by omega)
        rw [show l.fa.length = l.an.length - 1 by omega]
        show dkF l (spH l (ahi l)) (P l (l.an.length - 1)) = _
        rw [dkF_skip (k := P l (l.an.length - 1)) (by rw [ha]; omega), hpn]⟩
      rw [d0, g0]
      have hg2 := gaps81 [.cells (laC l), .cells (tabC l (ilv (aL l) (aH l)) (ilv (DL 0) (DH 0))), .cells [.ptr 1 0]] 1 (show 1 < 3 by decide)
      unfold laC at hg2
      simp (maxSteps := 2000000) only [go_sem, Nat.reduceAdd, List.replicate_succ, lk78, List.cons_append, List.nil_append] at hg2
      simp (maxSteps := 2000000) only [go_sem, reduceIte, Nat.reduceEqDiff, Nat.reduceAdd, Nat.reduceBEq, List.replicate_succ, lk78, H3, laC]
      refine aops_at (hg2) rfl rfl (by first | exact wk_refls _ | (repeat constructor)) ?_
      simp (maxSteps := 2000000) only [go_sem, reduceIte, Nat.reduceEqDiff, List.replicate_succ, lk78]
      refine code_gen (fun A2 B2 hA2 hB2 => ?_)
      refine awp_rangeFuncH (gf := 83) (caps := [.ptr 3 0]) rfl rfl (show 2 ≤ 4 by decide) rfl ?_
      refine ACall.mono (gaps83 5 3 1 l ok (fun _ => ilv (aL l) (aH l)) (fun i => ilv (DL i) (DH i)) (fun i => HG l (ilv (aL l) (aH l)) A2 B2 .ready (DL i) (DH i)) (fun k hk => ⟨HG_low _ _ _ _ _ _ _, rfl⟩) (show 5 < 6 by decide) (fun _ _ => rfl) (fun _ _ => rfl) (fun i hi => ?_)) ?_
      · show YCs Try.prog 5 (HG l (ilv (aL l) (aH l)) A2 B2 .ready (DL i) (DH i) ++ [.cells (gapC l i)]) [.agg (gapC l i), .agg (gdC l i)] (one (B true) (HG l (ilv (aL l) (aH l)) A2 B2 .ready (DL (i + 1)) (DH (i + 1)) ++ [.cells (gapC l i)]))
        obtain ⟨h, w, hh, hw, eg, _, _, eLo, eHi⟩ := gap_hw l i (fun _ => 0) (fun _ => 0)
        have hPn := (lay ok).lt (i := i + 1) (by omega)
        have hup := (lay ok).up i (by omega)
        have n91 := ok.n91.2
        have hai := ang_eq ok (i := i) (by omega)
        rw [eg, dS i, gS i, dS (i + 1), gS (i + 1), dkF_skip (q := spL l (alo l)) (k := P l i) (by rw [hai]; omega), dkF_skip (q := spH l (ahi l)) (k := P l i) (by rw [hai]; omega)]
        have vL : ∀ k, P l i < k → k < P l (i + 1) → upd (dkF l (spL l (alo l)) k) k (aL l w) = dkF l (spL l (alo l)) (k + 1) := fun k q1 q2 => by
          obtain ⟨e1, e2⟩ := between ok (by omega) q1 q2
          rw [← dkF_upd (q := spL l (alo l)) (k := k) (by rw [e1]; omega)]
          congr 1
          unfold spL
          rw [if_neg (by rw [e1]; omega), e2, eLo]
          unfold aL; rw [if_pos (by omega)]
        have vH : ∀ k, P l i < k → k < P l (i + 1) → upd (dkF l (spH l (ahi l)) k) k (aH l h) = dkF l (spH l (ahi l)) (k + 1) := fun k q1 q2 => by
          obtain ⟨e1, e2⟩ := between ok (by omega) q1 q2
          rw [← dkF_upd (q := spH l (ahi l)) (k := k) (by rw [e1]; omega)]
          congr 1
          unfold spH
          rw [if_neg (by rw [e1]; omega), e2, eHi]
          unfold aH; rw [if_pos (by omega)]
        have h11 : h < 11 := by omega
        have w11 : w < 11 := by omega
        have h11' : (h : Int) < 11 := by omega
        have w11' : (w : Int) < 11 := by omega
        have hle : decide (4 + w * 2 + 1 ≤ 208) = true := by simp; omega
        have hle2 : decide (4 + w * 2 ≤ 207) = true := by simp; omega
        have hle3 : decide (4 + h * 2 + 1 + 1 ≤ 208) = true := by simp; omega
        have hle4 : decide (4 + h * 2 + 1 ≤ 207) = true := by simp; omega
        have hle5 : decide (4 + h * 2 ≤ 206) = true := by simp; omega
        generalize dkF l (spL l (alo l)) = EL at *
        generalize dkF l (spH l (ahi l)) = EH at *
        generalize aL l = al at *
        generalize aH l = ah at *
        unfold gdC
        generalize hp1 : P l i = a at *
        generalize hp2 : P l (i + 1) = b at *
        have wa := wr_succ (i := a) (n := 1000) (by omega) (by decide)
        refine ycs_ofC (bad := [4, 5, 6, 15, 19, 10008]) (kp := kp78) (X := tx) mo rfl hA2 hB2 rfl rfl (by kernel_rfl) (by kernel_rfl) (fun lp => ?_)
        simp (maxSteps := 2000000) only [go_sem, reduceIte, Nat.reduceEqDiff, Nat.reduceAdd, Nat.reduceBEq, Int.reduceLT, Int.reduceLE, Int.reduceToNat, List.replicate_succ, lk78, putPs, HG, slG, List.cons_append, List.nil_append]
        refine ⟨_, rfl, ?_⟩
        simp (maxSteps := 2000000) only [go_sem, reduceIte, Nat.reduceEqDiff, Nat.reduceAdd, Nat.reduceLeDiff, Nat.reduceMul, List.replicate_succ, lk78, putPs, HG, slG, List.cons_append, List.nil_append, wa]
        clear wa
        refine goE_loop (bad := [4, 5, 6, 15, 19, 10008]) (kp := kp78) (fun k : Nat => { slots := [(1, .c (.ptr 2 0)), (6, .c (.ptr 7 0)), (7, .c (.ptr 8 0)), (8, I k)], heap := HG l (ilv al ah) A2 B2 .busy (EL k) (EH k) ++ [AB.cells [.d (.int .i64 h), .d (.int .i64 w)], AB.cells [.d (.int .i64 h), .d (.int .i64 w)], AB.cells [.d (.int .i64 a), .d (.int .i64 b)]], marks := [] }) (fun k => a < k ∧ k ≤ b) (fun k => b - k) (a + 1) mo (by kernel_rfl) ?_ ⟨Nat.lt_succ_self a, hup⟩ ?_
        · refine ent_weaken [] rfl rfl (show 7 ≤ 9 by decide) (HG_low3 _ _ _ _ _ _ _ _ _ _ _) rfl ?_
          simp (maxSteps := 2000000) only [go_sem, reduceIte, Nat.reduceEqDiff, Nat.reduceAdd, Nat.reduceLT, List.replicate_succ, lk78, HG, slG, List.cons_append, List.nil_append]
          all_goals first | exact .refl _ | exact ⟨.refl _, .refl _⟩ | exact ⟨.refl _, .refl _, .refl _⟩ | exact ⟨.refl _, _, rfl⟩ | exact ⟨_, rfl⟩ | exact ⟨.refl _, [], by simp⟩ | exact ⟨[], by simp⟩
        rintro k ⟨hk1, hk2⟩
        simp (maxSteps := 2000000) only [go_sem, reduceIte, Nat.reduceEqDiff, Nat.reduceAdd, Nat.reduceBEq, Nat.reduceMul, Int.reduceLT, Int.reduceLE, Int.reduceToNat, List.replicate_succ, lk78, HG, slG, List.cons_append, List.nil_append]
        by_cases hlt : k < b
        · have hlt' : (k : Int) < b := by omega
          have k91 : k < 91 := by omega
          have k91' : (k : Int) < 91 := by omega
          have m1 : b - (k + 1) < b - k := by omega
          have q1 : a < k + 1 := by omega
          have d1 : decide (26 + k * 2 + 2 ≤ 208) = true := by simp; omega
          have d2 : decide (26 + k * 2 ≤ 206) = true := by simp; omega
          have gw := tabA_glo (l := l) (F := al) (G := ah) (d := ilv (EL k) (EH k)) w11
          have gh := tabA_ghi (l := l) (F := al) (G := ah) (d := ilv (EL k) (EH k)) h11
          have s1 := fun v => tabD_lo (l := l) (a := ilv al ah) (F := EL k) (G := EH k) (v := v) k91
          have s2 := fun F v => tabD_hi (l := l) (a := ilv al ah) (F := F) (G := EH k) (v := v) k91
          have u1 := vL k hk1 hlt
          have u2 := vH k hk1 hlt
          have w7 := wr_succ (i := k) (n := 1000) (by omega) (by decide)
          simp (maxSteps := 2000000) only [go_sem, reduceIte, Nat.reduceEqDiff, Nat.reduceAdd, Nat.reduceLT, Nat.reduceLeDiff, Nat.reduceBEq, List.replicate_succ, lk78, hlt', nn, w11', h11', k91', Int.toNat_natCast, tab_len, hle, hle2, hle3, hle4, hle5, gw, gh, s1, s2, u1, u2, d1, d2, w7]
          refine ⟨pairsOk_ord (by kernel_rfl), k + 1, ⟨q1, hlt⟩, m1, ?_⟩
          refine ent_weaken [] rfl rfl (show 7 ≤ 9 by decide) (HG_low3 _ _ _ _ _ _ _ _ _ _ _) rfl ?_
          simp (maxSteps := 2000000) only [go_sem, reduceIte, Nat.reduceEqDiff, Nat.reduceAdd, Nat.reduceLT, List.replicate_succ, lk78, HG, slG, List.cons_append, List.nil_append]
          all_goals first | exact .refl _ | exact ⟨.refl _, .refl _⟩ | exact ⟨.refl _, .refl _, .refl _⟩ | exact ⟨.refl _, _, rfl⟩ | exact ⟨_, rfl⟩ | exact ⟨.refl _, [], by simp⟩ | exact ⟨[], by simp⟩
        · have hlt' : ¬ (k : Int) < b := by omega
          have ek : k = b := by omega
          subst ek
          have lowg := HG_lowg l (ilv al ah) A2 B2 .busy (EL k) (EH k) h w
          simp (maxSteps := 2000000) only [go_sem, reduceIte, Nat.reduceEqDiff, List.replicate_succ, lk78, hlt']
          exact ⟨{ slots := [], heap := HG l (ilv al ah) A2 B2 .busy (EL k) (EH k) ++ [AB.cells [.d (.int .i64 h), .d (.int .i64 w)]], marks := [] }, ent_weaken [AB.cells [.d (.int .i64 h), .d (.int .i64 w)], AB.cells [.d (.int .i64 a), .d (.int .i64 k)]] rfl rfl (Nat.le_refl _) lowg rfl trivial, _, rfl, rfl, rfl⟩
      · rintro _ H2 rfl
        refine ⟨fun h => (by cases h), rfl, rfl, ?_⟩
        have f1 := eF_lo ok
        have f2 := eF_hi ok
        rw [dE, gE, eF_zero l (spL l (alo l)) (aL l), eF_zero l (spH l (ahi l)) (aH l)]
        have u1 := fun i (hi : i < l.an.length) => eF_upd ok (q := spL l (alo l)) (a := aL l) hi
        have u2 := fun i (hi : i < l.an.length) => eF_upd ok (q := spH l (ahi l)) (a := aH l) hi
        generalize eF l (spL l (alo l)) (aL l) = EL at *
        generalize eF l (spH l (ahi l)) (aH l) = EH at *
        generalize aL l = al at *
        generalize aH l = ah at *
        simp (maxSteps := 2000000) only [go_sem, reduceIte, Nat.reduceEqDiff, Nat.reduceAdd, Nat.reduceLeDiff, Nat.reduceBEq, List.replicate_succ, lk78, HG, slG, tab_len, tab_an]
        refine goE_loop (bad := [4, 5, 6, 15, 19, 10008]) (kp := kp78) (fun i : Nat => { slots := [(1, .c (.ptr 2 0)), (106, ints l.an), (107, I l.an.length), (108, I i)], heap := H3 l (ilv al ah) (ilv (EL i) (EH i)), marks := [] }) (fun i => i ≤ l.an.length) (fun i => l.an.length - i) 0 mo (by kernel_rfl) ?_ (Nat.zero_le _) ?_
        · refine ent_weaken [.cells [.ptr 1 0], .gone, .lp { state := .exhausted, pend := none, slots := slG, nt := 133, ps := #[69, 70], assign := A2, body := B2, D := 4 }] rfl rfl (show 2 ≤ 3 by decide) (H3_low _ _ _) rfl ?_
          simp (maxSteps := 2000000) only [go_sem, reduceIte, Nat.reduceEqDiff, List.replicate_succ, lk78, ints]
          all_goals first | exact .refl _ | exact ⟨.refl _, .refl _⟩ | exact ⟨.refl _, .refl _, .refl _⟩ | exact ⟨.refl _, _, rfl⟩ | exact ⟨_, rfl⟩ | exact ⟨.refl _, [], by simp⟩ | exact ⟨[], by simp⟩
        rintro i hi
        simp (maxSteps := 2000000) only [go_sem, reduceIte, Nat.reduceEqDiff, Nat.reduceAdd, Nat.reduceBEq, List.replicate_succ, lk78, H3, ints]
        by_cases hlt : i < l.an.length
        · have hlt' : (i : Int) < l.an.length := by omega
          have p0 : (0 : Int) < l.an.length := by omega
          have i11 : i < 11 := by omega
          have i11' : (i : Int) < 11 := by omega
          have n91 := ok.n91.2
          have hPn := (lay ok).lt hlt
          have P91 : P l i < 91 := by omega
          have P91' : (P l i : Int) < 91 := by omega
          have a0 := gI_lt (l := l.an) (i := 0) (by omega)
          have a1 := gI_lt hlt
          have b0 := ok.a0 0 (by omega)
          have b1 := ok.a0 i hlt
          have d1 := ok.p hlt
          have m1 : l.an.length - (i + 1) < l.an.length - i := by omega
          have c1 : decide (4 + i * 2 + 2 ≤ 208) = true := by simp; omega
          have c1' : decide (4 + i * 2 ≤ 206) = true := by simp; omega
          have c2 : decide (26 + P l i * 2 + 2 ≤ 208) = true := by simp; omega
          have c2' : decide (26 + P l i * 2 ≤ 206) = true := by simp; omega
          have r1 := tabA_row (l := l) (F := al) (G := ah) (d := ilv (EL i) (EH i)) i11
          have s1 := fun v => tabD_lo (l := l) (a := ilv al ah) (F := EL i) (G := EH i) (v := v) P91
          have s2 := fun F v => tabD_hi (l := l) (a := ilv al ah) (F := F) (G := EH i) (v := v) P91
          have v1 := u1 i hlt
          have v2 := u2 i hlt
          have w1 : wr .i64 (gI l.an i - gI l.an 0) = (P l i : Int) := by rw [wr_in (by omega), d1]
          have w7 := wr_succ hlt (Nat.le_trans m11 (by decide))
          simp (maxSteps := 2000000) only [go_sem, reduceIte, Nat.reduceEqDiff, Nat.reduceAdd, Nat.reduceLeDiff, Nat.reduceBEq, Int.reduceLE, Int.reduceToNat, List.replicate_succ, lk78, hlt', nn, p0, a0, a1, iD, w1, P91', i11', Int.toNat_natCast, tab_len, tab_an, c1, c1', c2, c2', r1, s1, s2, v1, v2, w7]
          refine ⟨pairsOk_ord (by kernel_rfl), i + 1, hlt, m1, ?_⟩
          refine ent_weaken [] rfl rfl (show 2 ≤ 3 by decide) (H3_low _ _ _) rfl ?_
          simp (maxSteps := 2000000) only [go_sem, reduceIte, Nat.reduceEqDiff, Nat.reduceAdd, Nat.reduceLT, List.replicate_succ, lk78, ints]
          all_goals first | exact .refl _ | exact ⟨.refl _, .refl _⟩ | exact ⟨.refl _, .refl _, .refl _⟩ | exact ⟨.refl _, _, rfl⟩ | exact ⟨_, rfl⟩ | exact ⟨.refl _, [], by simp⟩ | exact ⟨[], by simp⟩
        · have hlt' : ¬ (i : Int) < l.an.length := by omega
          have ei : i = l.an.length := by omega
          subst ei
          simp (maxSteps := 2000000) only [go_sem, reduceIte, List.replicate_succ, lk78, hlt', f1, f2]
          exact ⟨[.cells [.ptr 1 0]], rfl⟩
end Go.Proofs.Ytliamojogmlgjaa
