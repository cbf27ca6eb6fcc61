/- Metamers: Clash, walked. -/
import Derived.Test.YtjkpfojkkfopmaaMS
set_option linter.unusedSimpArgs false
set_option linter.unusedVariables false
set_option maxRecDepth 100000
namespace Go.Proofs.Ytjkpfojkkfopmaa
open Go Go.Abs Go.Proofs
def kp40 : List (Nat × List Nat) := [(0, [1]), (1, [1, 5]), (2, [1, 5, 24]), (3, [2, 3, 4]), (4, [1, 6]), (5, [1, 6, 7]), (6, [1, 6, 7, 8]), (7, [1, 6, 7, 8, 33, 34, 35]), (8, [1, 6, 7, 8, 33, 34, 35, 36]), (9, [1, 6, 7, 8, 9, 10, 33, 34, 35]), (10, [1, 6, 7, 8, 9, 11, 33, 34, 35]), (11, [1, 6, 7, 8, 33, 34, 35]), (12, [1, 6, 7, 8, 33, 34, 35]), (13, [1, 6, 7, 8, 52, 53, 54]), (14, [1, 6, 7, 8, 52, 53, 54, 55]), (15, [1, 6, 7, 8, 12, 13, 52, 53, 54]), (16, [1, 6, 7, 8, 12, 13, 14, 52, 53, 54]), (17, [1, 6, 7, 8, 12, 13, 14, 52, 53, 54]), (18, [1, 6, 7, 8, 12, 13, 14, 52, 53, 54, 72]), (19, [1, 6, 7, 8, 12, 13, 14, 52, 53, 54]), (20, [1, 6, 7, 8, 12, 13, 14, 15, 16, 52, 53, 54]), (21, [1, 6, 7, 8, 12, 13, 14, 15, 16, 17, 52, 53, 54]), (22, [1, 6, 7, 8, 12, 13, 14, 15, 16, 17, 52, 53, 54, 82]), (23, [1, 6, 7, 8, 12, 13, 14, 15, 16, 17, 52, 53, 54]), (24, [1, 6, 7, 8, 12, 13, 14, 15, 16, 17, 18, 52, 53, 54]), (25, [1, 6, 7, 8, 12, 13, 14, 15, 16, 17, 18, 52, 53, 54, 92]), (26, [1, 6, 7, 8, 12, 13, 14, 15, 16, 17, 18, 52, 53, 54]), (27, [1, 6, 7, 8, 12, 13, 14, 15, 16, 17, 18, 52, 53, 54, 99, 100, 101]), (28, [1, 6, 7, 8, 12, 13, 14, 15, 16, 17, 18, 52, 53, 54, 99, 100, 101, 102]), (29, [1, 6, 7, 8, 12, 13, 14, 15, 16, 17, 18, 20, 52, 53, 54, 99, 100, 101]), (30, [1, 6, 7, 8, 12, 13, 14, 15, 16, 17, 18, 20, 52, 53, 54, 99, 100, 101, 113]), (31, [1, 6, 7, 8, 12, 13, 14, 15, 16, 17, 18, 52, 53, 54, 99, 100, 101]), (32, [1, 6, 7, 8, 12, 13, 14, 15, 16, 17, 18, 52, 53, 54, 99, 100, 101]), (33, [1, 6, 7, 8, 12, 15, 52, 53, 54, 119]), (34, [2, 3, 4]), (35, [1, 6, 7, 8, 52, 53, 54]), (36, [2, 3, 4])]
theorem lk40 : lookK kp40 0 = some [1] ∧ lookK kp40 1 = some [1, 5] ∧ lookK kp40 2 = some [1, 5, 24] ∧ lookK kp40 3 = some [2, 3, 4] ∧ lookK kp40 4 = some [1, 6] ∧ lookK kp40 5 = some [1, 6, 7] ∧ lookK kp40 6 = some [1, 6, 7, 8] ∧ lookK kp40 7 = some [1, 6, 7, 8, 33, 34, 35] ∧ lookK kp40 8 = some [1, 6, 7, 8, 33, 34, 35, 36] ∧ lookK kp40 9 = some [1, 6, 7, 8, 9, 10, 33, 34, 35] ∧ lookK kp40 10 = some [1, 6, 7, 8, 9, 11, 33, 34, 35] ∧ lookK kp40 11 = some [1, 6, 7, 8, 33, 34, 35] ∧ lookK kp40 12 = some [1, 6, 7, 8, 33, 34, 35] ∧ lookK kp40 13 = some [1, 6, 7, 8, 52, 53, 54] ∧ lookK kp40 14 = some [1, 6, 7, 8, 52, 53, 54, 55] ∧ lookK kp40 15 = some [1, 6, 7, 8, 12, 13, 52, 53, 54] ∧ lookK kp40 16 = some [1, 6, 7, 8, 12, 13, 14, 52, 53, 54] ∧ lookK kp40 17 = some [1, 6, 7, 8, 12, 13, 14, 52, 53, 54] ∧ lookK kp40 18 = some [1, 6, 7, 8, 12, 13, 14, 52, 53, 54, 72] ∧ lookK kp40 19 = some [1, 6, 7, 8, 12, 13, 14, 52, 53, 54] ∧ lookK kp40 20 = some [1, 6, 7, 8, 12, 13, 14, 15, 16, 52, 53, 54] ∧ lookK kp40 21 = some [1, 6, 7, 8, 12, 13, 14, 15, 16, 17, 52, 53, 54] ∧ lookK kp40 22 = some [1, 6, 7, 8, 12, 13, 14, 15, 16, 17, 52, 53, 54, 82] ∧ lookK kp40 23 = some [1, 6, 7, 8, 12, 13, 14, 15, 16, 17, 52, 53, 54] ∧ lookK kp40 24 = some [1, 6, 7, 8, 12, 13, 14, 15, 16, 17, 18, 52, 53, 54] ∧ lookK kp40 25 = some [1, 6, 7, 8, 12, 13, 14, 15, 16, 17, 18, 52, 53, 54, 92] ∧ lookK kp40 26 = some [1, 6, 7, 8, 12, 13, 14, 15, 16, 17, 18, 52, 53, 54] ∧ lookK kp40 27 = some [1, 6, 7, 8, 12, 13, 14, 15, 16, 17, 18, 52, 53, 54, 99, 100, 101] ∧ lookK kp40 28 = some [1, 6, 7, 8, 12, 13, 14, 15, 16, 17, 18, 52, 53, 54, 99, 100, 101, 102] ∧ lookK kp40 29 = some [1, 6, 7, 8, 12, 13, 14, 15, 16, 17, 18, 20, 52, 53, 54, 99, 100, 101] ∧ lookK kp40 30 = some [1, 6, 7, 8, 12, 13, 14, 15, 16, 17, 18, 20, 52, 53, 54, 99, 100, 101, 113] ∧ lookK kp40 31 = some [1, 6, 7, 8, 12, 13, 14, 15, 16, 17, 18, 52, 53, 54, 99, 100, 101] ∧ lookK kp40 32 = some [1, 6, 7, 8, 12, 13, 14, 15, 16, 17, 18, 52, 53, 54, 99, 100, 101] ∧ lookK kp40 33 = some [1, 6, 7, 8, 12, 15, 52, 53, 54, 119] ∧ lookK kp40 34 = some [2, 3, 4] ∧ lookK kp40 35 = some [1, 6, 7, 8, 52, 53, 54] ∧ lookK kp40 36 = some [2, 3, 4] := ⟨rfl, rfl, rfl, rfl, rfl, rfl, rfl, rfl, rfl, rfl, rfl, rfl, rfl, rfl, rfl, rfl, rfl, rfl, rfl, rfl, rfl, rfl, rfl, rfl, rfl, rfl, rfl, rfl, rfl, rfl, rfl, rfl, rfl, rfl, rfl, rfl, rfl⟩

def intD (l : List (List Int)) : V := intss l
theorem grp_len (key : Nat → List Int) (L : List Nat) (k : List Int) : (grp key L k).length ≤ L.length := by
  unfold grp
  rw [List.length_map]; exact List.length_filter_le _ _
theorem take_ik (l : List Int) : (l.map ik).take l.length = l.map ik := List.take_of_length_le (by simp)
theorem icLow (n : Nat) (l : List Int) : C.lowL n (l.map ic) = true := by
  induction l with
  | nil => rfl
  | cons a l ih => simp only [List.map_cons, C.lowL, ih]; rfl
theorem mpLow (n : Nat) (es : Es) : AB.low n (.mp (es.map mpgV)) = true := by
  simp only [AB.low, List.all_map]
  refine List.all_eq_true.2 fun e _ => ?_
  simp only [Function.comp_def, mpgV, V.low, C.low, icLow, Bool.and_self]
theorem low3 (p : Pal) (es : Es) (cs : List Int) : ([.cells (palC p), .mp (es.map mpgV), .cells (cs.map ic)] : List AB).all (AB.low 3) = true := by
  have h := mpLow 3 es
  rw [List.all_cons, List.all_cons, List.all_cons, List.all_nil, h]
  simp only [AB.low, icLow]; rfl
theorem low2 (p : Pal) (es : Es) : ([.cells (palC p), .mp (es.map mpgV)] : List AB).all (AB.low 2) = true := by
  have h := mpLow 2 es
  rw [List.all_cons, List.all_cons, List.all_nil, h]
  simp only [AB.low]; rfl
theorem joinK {K G : Prop} (h : K → G) (hk : K) : G := h hk
theorem allT (l : List Int) : l.all (fun _ => true) = true := List.all_eq_true.2 fun _ _ => rfl
theorem one_le (n : Nat) : decide ((1 : Int) ≤ ((n + 1 : Nat) : Int)) = true := by simp; omega
theorem dle (n : Nat) : decide ((n : Int) ≤ (n : Int)) = true := by simp
set_option maxHeartbeats 8000000 in
theorem clash40 (p : Pal) : Pure Try.prog 40 [palV p] (clV p) := by
  refine pure_wkE (bad := [40011]) (kp := kp40) (X := tx) (nt := 123) (rs := [.tmp 2, .tmp 3, .tmp 4]) Try.func40 rfl rfl rfl rfl mo (by kernel_rfl) rfl rfl (fun hf => ?_)
  simp (maxSteps := 2000000) only [go_sem, reduceIte, Nat.reduceEqDiff, Nat.reduceAdd, Nat.reduceBEq, lk40, palV, palC]
  refine aops_pure' (checkPal37 p) rfl rfl (by first | exact wk_refls _ | (repeat constructor)) ?_
  by_cases h : okPal p = 0
  case neg =>
    have e := clV_of (clR_bad h)
    simp (maxSteps := 2000000) only [go_sem, reduceIte, Nat.reduceEqDiff, Nat.reduceAdd, Nat.reduceBEq, lk40, h, e]
  have hp := (okPal_iff p).1 h
  have h12 := hp.k12
  have hpw := pow12 h12
  have ea := hp.e0
  have eb := hp.e1
  have hn1 := hp.n1
  have hn8 := hp.n8
  have hN := mixL_len p
  have em0 : 0 ≤ 2 * p.err := by omega
  have em1 : 2 * p.err ≤ 1000000 := by omega
  have w0 : wr .i64 (2 * p.err) = 2 * p.err := by rw [wr_i64] <;> omega
  have w1 : wr .i64 (2 * p.err + 1) = 2 * p.err + 1 := by rw [wr_i64] <;> omega
  simp (maxSteps := 2000000) only [go_sem, reduceIte, Nat.reduceEqDiff, Nat.reduceAdd, Nat.reduceBEq, lk40, h, palC]
  refine aops_pure' (mixes69 p hp) rfl rfl (by first | exact wk_refls _ | (repeat constructor)) ?_
  simp (maxSteps := 2000000) only [go_sem, reduceIte, Nat.reduceEqDiff, Nat.reduceAdd, Nat.reduceBEq, lk40, palC, w0, w1, intss, hN]
  refine goE_loop (bad := [40011]) (kp := kp40) (fun (x : Nat × Es) => { slots := [(1, .c (.ptr 0 0)), (6, intss (mixL p)), (7, I (2 * p.err + 1)), (8, .c (.mp 1)), (33, intss (mixL p)), (34, I ((2 ^ p.pig.length : Nat) : Int)), (35, I x.1)], heap := [.cells (palC p), .mpg x.2], marks := [] }) (fun x => x.1 ≤ 2 ^ p.pig.length ∧ MInv (keyP p) (List.range x.1) x.2) (fun x => 2 ^ p.pig.length - x.1) (0, []) mo (by kernel_rfl) ?_ ⟨Nat.zero_le _, ⟨by simp, by simp, by simp, by simp⟩⟩ ?_
  · refine Ent.trans (ent_mpg 1 rfl) ?_
    refine ent_weaken [] rfl rfl (Nat.zero_le _) rfl rfl ?_
    simp (maxSteps := 2000000) only [go_sem, reduceIte, Nat.reduceEqDiff, Nat.reduceAdd, Nat.reduceLT, lk40, palC, intss]
    all_goals first | exact .refl _ | exact ⟨.refl _, .refl _⟩ | exact ⟨.refl _, .refl _, .refl _⟩ | exact ⟨.refl _, _, rfl⟩ | exact ⟨_, rfl⟩ | exact ⟨.refl _, [], by simp⟩ | exact ⟨[], by simp⟩
  rintro ⟨j, es⟩ ⟨hj, hI⟩
  simp only at hj hI
  simp (maxSteps := 2000000) only [go_sem, reduceIte, Nat.reduceEqDiff, Nat.reduceAdd, Nat.reduceBEq, lk40, palC, intss, hN]
  by_cases hlt : j < 2 ^ p.pig.length
  · have hlt' : (j : Int) < ((2 ^ p.pig.length : Nat) : Int) := by omega
    have g0 := mixL_get (p := p) hlt
    have w3 : wr .i64 ((j : Int) + 1) = ((j + 1 : Nat) : Int) := wr_succ hlt (by omega)
    have hcell := newCell75 (sumL p j) (2 * p.err + 1) (by rw [sumL_len]; omega) (by rw [sumL_len]; omega) (sumL_nonneg hp j) (by omega)
    simp (maxSteps := 2000000) only [go_sem, reduceIte, Nat.reduceEqDiff, Nat.reduceAdd, Nat.reduceBEq, lk40, hlt', g0, hN, nn, rowI]
    refine aops_pure' (hcell) rfl rfl (by first | exact wk_refls _ | (repeat constructor)) ?_
    simp (maxSteps := 2000000) only [go_sem, reduceIte, Nat.reduceEqDiff, Nat.reduceAdd, lk40, celC]
    refine awp_regionL ?_
    refine lops_op (x := .c (.mp 1)) (H' := [.cells (palC p), .mpg es, .cells (celC (sumL p j) (2 * p.err + 1))]) rfl rfl rfl ?_
    refine lops_op (x := .agg (celC (sumL p j) (2 * p.err + 1))) (H' := [.cells (palC p), .mpg es, .cells (celC (sumL p j) (2 * p.err + 1))]) ?_ rfl rfl ?_
    · simp (maxSteps := 2000000) only [go_sem, reduceIte, Nat.reduceEqDiff, Nat.reduceAdd, lk40, celC, palC]
    refine lops_op (x := I j) (H' := [.cells (palC p), .mpg es, .cells (celC (sumL p j) (2 * p.err + 1))]) rfl rfl rfl ?_
    refine lops_op (x := .c (.full [ik j])) (H' := [.cells (palC p), .mpg es, .cells (celC (sumL p j) (2 * p.err + 1))]) ?_ rfl rfl ?_
    · simp (maxSteps := 2000000) only [go_sem, reduceIte, Nat.reduceEqDiff, Nat.reduceLeDiff, Nat.reduceBEq, Nat.reduceMul, lk40, celC, palC, ik]
    refine lops_mapApp (m := j) (kk := celL (sumL p j) (2 * p.err + 1)) (es := es) (id := 1) ⟨rfl, rfl, rfl, rfl, rfl⟩ ⟨rfl, rfl, rfl, rfl, rfl⟩ rfl rfl rfl rfl rfl (by decide) (by decide) tt108 rfl tt53 rfl tt53 rfl tt53 ⟨_, rfl⟩ tt3 rfl rfl rfl rfl ?_ ?_ rfl rfl ?_ (by decide) ?_
    · simp (maxSteps := 2000000) only [go_sem, Nat.reduceAdd, Nat.reduceBEq, lk40, celL, ic, keyOk]
    · intro e he; rw [hI.two e he]; rfl
    · intro e he
      have h1 : e.2.length ≤ j := by
        rw [(hI.val e he).1]
        exact Nat.le_trans (grp_len _ _ _) (by simp)
      refine ⟨?_, ?_⟩
      · show (e.2.length + 1 + (e.2.length + 1) / 4 + 256) * 8 ≤ 281474976710656
        omega
      · show e.2.length + 1 ≤ 140737488355328
        omega
    refine lops_nil ?_
    have hI2 := hI.app (j := j) rfl
    have er : List.range j ++ [j] = List.range (j + 1) := by rw [List.range_succ]
    rw [er] at hI2
    have m0 : 2 ^ p.pig.length - (j + 1) < 2 ^ p.pig.length - j := by omega
    simp (maxSteps := 2000000) only [go_sem, reduceIte, Nat.reduceEqDiff, lk40, celC, w3]
    refine ⟨(j + 1, mpgApp (keyP p j) j es), ⟨hlt, hI2⟩, m0, ?_⟩
    refine ent_weaken [.cells (celC (sumL p j) (2 * p.err + 1))] rfl rfl (Nat.zero_le _) rfl rfl ?_
    simp (maxSteps := 2000000) only [go_sem, reduceIte, Nat.reduceEqDiff, Nat.reduceAdd, Nat.reduceLT, lk40, palC, intss, keyP]
    all_goals first | exact .refl _ | exact ⟨.refl _, .refl _⟩ | exact ⟨.refl _, .refl _, .refl _⟩ | exact ⟨.refl _, _, rfl⟩ | exact ⟨_, rfl⟩ | exact ⟨.refl _, [], by simp⟩ | exact ⟨[], by simp⟩
  have hlt' : ¬ (j : Int) < ((2 ^ p.pig.length : Nat) : Int) := by omega
  have e : j = 2 ^ p.pig.length := by omega
  simp (maxSteps := 2000000) only [go_sem, reduceIte, Nat.reduceEqDiff, Nat.reduceAdd, Nat.reduceBEq, lk40, hlt', hN]
  rw [e] at hI
  clear hj hlt hlt' e j
  refine goE_loop (bad := [40011]) (kp := kp40) (fun (x : Nat × Es) => { slots := [(1, .c (.ptr 0 0)), (6, intss (mixL p)), (7, I (2 * p.err + 1)), (8, .c (.mp 1)), (52, intss (mixL p)), (53, I ((2 ^ p.pig.length : Nat) : Int)), (54, I x.1)], heap := [.cells (palC p), .mp (x.2.map mpgV)], marks := [] }) (fun x => x.1 ≤ 2 ^ p.pig.length ∧ MInv (keyP p) (List.range' x.1 (2 ^ p.pig.length - x.1)) x.2 ∧ ∀ q, q < x.1 → cT p q = none) (fun x => 2 ^ p.pig.length - x.1) (0, es) mo (by kernel_rfl) ?_ ⟨Nat.zero_le _, by rw [Nat.sub_zero, ← List.range_eq_range']; exact hI, by intro q hq; omega⟩ ?_
  · refine Ent.trans (ent_mp 1 rfl) ?_
    refine ent_weaken [] rfl rfl (Nat.zero_le _) (low2 p es) rfl ?_
    simp (maxSteps := 2000000) only [go_sem, reduceIte, Nat.reduceEqDiff, Nat.reduceAdd, Nat.reduceLT, lk40, palC, intss]
    all_goals first | exact .refl _ | exact ⟨.refl _, .refl _⟩ | exact ⟨.refl _, .refl _, .refl _⟩ | exact ⟨.refl _, _, rfl⟩ | exact ⟨_, rfl⟩ | exact ⟨.refl _, [], by simp⟩ | exact ⟨[], by simp⟩
  rintro ⟨s, es⟩ ⟨hs, hI, hall⟩
  simp only at hs hI hall
  simp (maxSteps := 2000000) only [go_sem, reduceIte, Nat.reduceEqDiff, Nat.reduceAdd, Nat.reduceBEq, lk40, palC, intss, hN]
  by_cases hlt : s < 2 ^ p.pig.length
  · have hlt' : (s : Int) < ((2 ^ p.pig.length : Nat) : Int) := by omega
    have g0 := mixL_get (p := p) hlt
    have w3 : wr .i64 ((s : Int) + 1) = ((s + 1 : Nat) : Int) := wr_succ hlt (by omega)
    have hcell := newCell75 (sumL p s) (2 * p.err + 1) (by rw [sumL_len]; omega) (by rw [sumL_len]; omega) (sumL_nonneg hp s) (by omega)
    have er : List.range' s (2 ^ p.pig.length - s) = s :: List.range' (s + 1) (2 ^ p.pig.length - (s + 1)) := by
      rw [show 2 ^ p.pig.length - s = (2 ^ p.pig.length - (s + 1)) + 1 by omega, List.range'_succ]
    rw [er] at hI
    simp (maxSteps := 2000000) only [go_sem, reduceIte, Nat.reduceEqDiff, Nat.reduceAdd, Nat.reduceBEq, Int.reduceLE, Int.reduceEq, Int.reduceToNat, lk40, hlt', g0, hN, nn, rowI]
    refine aops_pure' (hcell) rfl rfl (by first | exact wk_refls _ | (repeat constructor)) ?_
    generalize hL : List.range' (s + 1) (2 ^ p.pig.length - (s + 1)) = L at *
    have hgs : grp (keyP p) (s :: L) (keyP p s) = (s : Int) :: grp (keyP p) L (keyP p s) := by rw [grp_cons, if_pos rfl]
    rcases hI.find (k := keyP p s) rfl with ⟨_, h0, _⟩ | ⟨i, hi, _, hf⟩
    · rw [hgs] at h0; cases h0
    have hi' := hi
    rw [hgs] at hf hi'
    have hil := (List.getElem?_eq_some_iff.1 hi).1
    have hset : (es.map mpgV).set i (mpgV (keyP p s, grp (keyP p) L (keyP p s))) = (es.set i (keyP p s, grp (keyP p) L (keyP p s))).map mpgV := by rw [List.map_set]
    have hf2 : findE (.agg ((keyP p s).map ic)) ((es.set i (keyP p s, grp (keyP p) L (keyP p s))).map mpgV) 0 = some (some (i, .c (.d (.sl ((grp (keyP p) L (keyP p s)).map ik))))) := by
      have := find_at (k := keyP p s) (l := grp (keyP p) L (keyP p s)) (es := es.set i (keyP p s, grp (keyP p) L (keyP p s))) 0 i ?_ ?_ (by rw [List.getElem?_set_self hil])
      · rw [Nat.zero_add] at this; exact this
      · intro e he
        rcases List.mem_or_eq_of_mem_set he with he | rfl
        · rw [hI.two e he]; rfl
        · rfl
      · have e : (es.set i (keyP p s, grp (keyP p) L (keyP p s))).map Prod.fst = es.map Prod.fst := by
          rw [List.map_set]
          refine List.ext_getElem? fun q => ?_
          by_cases e' : i = q
          · subst e'
            rw [List.getElem?_set_self (by simpa using hil), List.getElem?_map, hi]; rfl
          · rw [List.getElem?_set_ne e']
        rw [e]; exact hI.nd
    have hdel : ((es.set i (keyP p s, grp (keyP p) L (keyP p s))).map mpgV).eraseIdx i = ((es.set i (keyP p s, grp (keyP p) L (keyP p s))).eraseIdx i).map mpgV := by
      refine List.ext_getElem? fun q => ?_
      rw [List.getElem?_map, List.getElem?_eraseIdx, List.getElem?_eraseIdx]
      split <;> rw [List.getElem?_map]
    have hall1 : ∀ l : List Int, (l.map ik).all (fun r => r.length == 1) = true := fun l => by rw [List.all_map]; exact List.all_eq_true.2 fun _ _ => rfl
    generalize hgt : grp (keyP p) L (keyP p s) = gt at *
    generalize hM2 : (es.set i (keyP p s, gt)).map mpgV = M2 at *
    generalize hM3 : ((es.set i (keyP p s, gt)).eraseIdx i).map mpgV = M3 at *
    simp only [keyP, celL, List.map_cons, List.map_nil, ic, mpgV] at hf hf2 hset hdel
    simp (maxSteps := 2000000) only [go_sem, reduceIte, Nat.reduceEqDiff, Nat.reduceAdd, Nat.reduceBEq, lk40, celC, hf, hf2, hset, keyOk, lookV, updE, delE, ik, allT, one_le, dle, take_ik]
    obtain ⟨es2, hI2, h3, h2⟩ : ∃ es2, MInv (keyP p) L es2 ∧ (gt.length = 0 → M3 = es2.map mpgV) ∧ (¬ gt.length = 0 → M2 = es2.map mpgV) := by
      by_cases hg0 : gt.length = 0
      · have e0 : gt = [] := List.eq_nil_of_length_eq_zero hg0
        refine ⟨_, hI.erase (i := i) (l := gt) hi (by rw [hgt, e0]), fun _ => hM3.symm, fun h => absurd hg0 h⟩
      · refine ⟨_, hI.tail (i := i) hi (by rw [hgt]; intro e0; rw [e0] at hg0; exact hg0 rfl), fun h => absurd h hg0, fun _ => ?_⟩
        rw [hgt]; exact hM2.symm
    have hcb := sumL_nonneg hp s
    have hA0 : 0 ≤ (gI (sumL p s) 0).tdiv (2 * p.err + 1) ∧ (gI (sumL p s) 0).tdiv (2 * p.err + 1) ≤ 1000000 := by
      have hb := hcb _ (List.mem_of_getElem? (gI_lt (l := sumL p s) (b := 0) (by rw [sumL_len]; exact hn1)))
      rw [Int.tdiv_eq_ediv_of_nonneg hb.1]
      have h1 := Int.ediv_nonneg hb.1 (show 0 ≤ 2 * p.err + 1 by omega)
      have h2 := Int.ediv_le_self (2 * p.err + 1) hb.1
      omega
    have hB0 : 0 ≤ (gI (sumL p s) ((sumL p s).length - 1)).tdiv (2 * p.err + 1) ∧ (gI (sumL p s) ((sumL p s).length - 1)).tdiv (2 * p.err + 1) ≤ 1000000 := by
      have hb := hcb _ (List.mem_of_getElem? (gI_lt (l := sumL p s) (b := (sumL p s).length - 1) (by rw [sumL_len]; omega)))
      rw [Int.tdiv_eq_ediv_of_nonneg hb.1]
      have h1 := Int.ediv_nonneg hb.1 (show 0 ≤ 2 * p.err + 1 by omega)
      have h2 := Int.ediv_le_self (2 * p.err + 1) hb.1
      omega
    have hfn := fnd_spec hp (s := s) (n := 2 ^ p.pig.length - (s + 1)) (by omega)
    rw [hL] at hfn
    have hcol : ∀ n, fndP p s L n = colA (nrP p s) (fun i k => grp (keyP p) L [i, k]) ((gI (sumL p s) 0).tdiv (2 * p.err + 1) - 1) ((gI (sumL p s) ((sumL p s).length - 1)).tdiv (2 * p.err + 1) - 1) n (false, 0) := fun n => rfl
    generalize hA : (gI (sumL p s) 0).tdiv (2 * p.err + 1) = A at *
    generalize hB : (gI (sumL p s) ((sumL p s).length - 1)).tdiv (2 * p.err + 1) = Bq at *
    have wa : wr .i64 (A - 1) = A - 1 := by rw [wr_i64] <;> omega
    have wa2 : wr .i64 (A + 1) = A + 1 := by rw [wr_i64] <;> omega
    have wb : wr .i64 (Bq - 1) = Bq - 1 := by rw [wr_i64] <;> omega
    have wb2 : wr .i64 (Bq + 1) = Bq + 1 := by rw [wr_i64] <;> omega
    have hz1 : gt.length = 0 → decide ((gt.length : Int) = 0) = true := fun h => decide_eq_true (by omega)
    have hz2 : ¬ gt.length = 0 → decide ((gt.length : Int) = 0) = false := fun h => decide_eq_false (by omega)
    apply joinK
    · intro hK
      by_cases hg0 : gt.length = 0
      · have hz := hz1 hg0
        have e3 := h3 hg0
        simp (maxSteps := 2000000) only [go_sem, reduceIte, Nat.reduceEqDiff, Nat.reduceAdd, Nat.reduceLeDiff, Nat.reduceBEq, lk40, hz, hf2, hdel, keyOk, delE, e3, wa]
        refine AWP.ent (s' := { slots := [(1, .c (.ptr 0 0)), (6, intss (mixL p)), (7, I (2 * p.err + 1)), (8, .c (.mp 1)), (12, I s), (13, ints (sumL p s)), (14, .c (.ptr 2 0)), (15, I 0), (16, B false), (17, I (A - 1)), (52, intss (mixL p)), (53, I ((2 ^ p.pig.length : Nat) : Int)), (54, I s)], heap := [.cells (palC p), .mp (es2.map mpgV), .cells [ic A, ic Bq]], marks := [] }) ?_ hK
        refine ent_weaken [] rfl rfl (Nat.zero_le _) (low3 p es2 [A, Bq]) rfl ?_
        simp (maxSteps := 2000000) only [go_sem, reduceIte, Nat.reduceEqDiff, Nat.reduceAdd, Nat.reduceLT, lk40, palC, intss, ints]
        all_goals first | exact .refl _ | exact ⟨.refl _, .refl _⟩ | exact ⟨.refl _, .refl _, .refl _⟩ | exact ⟨.refl _, _, rfl⟩ | exact ⟨_, rfl⟩ | exact ⟨.refl _, [], by simp⟩ | exact ⟨[], by simp⟩
      · have hz := hz2 hg0
        have e2 := h2 hg0
        simp (maxSteps := 2000000) only [go_sem, reduceIte, Nat.reduceEqDiff, Nat.reduceAdd, Nat.reduceLeDiff, Nat.reduceBEq, lk40, hz, e2, wa]
        refine AWP.ent (s' := { slots := [(1, .c (.ptr 0 0)), (6, intss (mixL p)), (7, I (2 * p.err + 1)), (8, .c (.mp 1)), (12, I s), (13, ints (sumL p s)), (14, .c (.ptr 2 0)), (15, I 0), (16, B false), (17, I (A - 1)), (52, intss (mixL p)), (53, I ((2 ^ p.pig.length : Nat) : Int)), (54, I s)], heap := [.cells (palC p), .mp (es2.map mpgV), .cells [ic A, ic Bq]], marks := [] }) ?_ hK
        refine ent_weaken [] rfl rfl (Nat.zero_le _) (low3 p es2 [A, Bq]) rfl ?_
        simp (maxSteps := 2000000) only [go_sem, reduceIte, Nat.reduceEqDiff, Nat.reduceAdd, Nat.reduceLT, lk40, palC, intss, ints]
        all_goals first | exact .refl _ | exact ⟨.refl _, .refl _⟩ | exact ⟨.refl _, .refl _, .refl _⟩ | exact ⟨.refl _, _, rfl⟩ | exact ⟨_, rfl⟩ | exact ⟨.refl _, [], by simp⟩ | exact ⟨[], by simp⟩
    refine goE_loop (bad := [40011]) (kp := kp40) (fun di : Nat => { slots := [(1, .c (.ptr 0 0)), (6, intss (mixL p)), (7, I (2 * p.err + 1)), (8, .c (.mp 1)), (12, I s), (13, ints (sumL p s)), (14, .c (.ptr 2 0)), (15, I (fndP p s L di).2), (16, B (fndP p s L di).1), (17, I (A - 1 + di)), (52, intss (mixL p)), (53, I ((2 ^ p.pig.length : Nat) : Int)), (54, I s)], heap := [.cells (palC p), .mp (es2.map mpgV), .cells [ic A, ic Bq]], marks := [] }) (fun di => di ≤ 3) (fun di => 3 - di) 0 mo (by kernel_rfl) ?_ (Nat.zero_le _) ?_
    · refine ent_weaken [] rfl rfl (Nat.zero_le _) (low3 p es2 [A, Bq]) rfl ?_
      simp (maxSteps := 2000000) only [go_sem, reduceIte, Nat.reduceEqDiff, Nat.reduceAdd, Nat.reduceLT, lk40, palC, intss, ints, hcol, colA, Int.add_zero, Int.natCast_zero]
      all_goals first | exact .refl _ | exact ⟨.refl _, .refl _⟩ | exact ⟨.refl _, .refl _, .refl _⟩ | exact ⟨.refl _, _, rfl⟩ | exact ⟨_, rfl⟩ | exact ⟨.refl _, [], by simp⟩ | exact ⟨[], by simp⟩
    rintro di hdi
    simp (maxSteps := 2000000) only [go_sem, reduceIte, Nat.reduceEqDiff, Nat.reduceAdd, Nat.reduceLeDiff, Nat.reduceBEq, lk40, palC, intss, ints, ic, wa2]
    by_cases hdi3 : di < 3
    · have c1 : decide (A - 1 + (di : Int) ≤ A + 1) = true := decide_eq_true (by omega)
      have wd : wr .i64 (A - 1 + (di : Int) + 1) = A - 1 + ((di + 1 : Nat) : Int) := by rw [wr_i64] <;> omega
      have md : 3 - (di + 1) < 3 - di := by omega
      simp (maxSteps := 2000000) only [go_sem, reduceIte, Nat.reduceEqDiff, Nat.reduceAdd, Nat.reduceBEq, lk40, c1, wb]
      refine goE_loop (bad := [40011]) (kp := kp40) (fun dk : Nat => { slots := [(1, .c (.ptr 0 0)), (6, intss (mixL p)), (7, I (2 * p.err + 1)), (8, .c (.mp 1)), (12, I s), (13, ints (sumL p s)), (14, .c (.ptr 2 0)), (15, I (rowA (nrP p s) (fun k => grp (keyP p) L [A - 1 + di, k]) (Bq - 1) dk (fndP p s L di)).2), (16, B (rowA (nrP p s) (fun k => grp (keyP p) L [A - 1 + di, k]) (Bq - 1) dk (fndP p s L di)).1), (17, I (A - 1 + di)), (18, I (Bq - 1 + dk)), (52, intss (mixL p)), (53, I ((2 ^ p.pig.length : Nat) : Int)), (54, I s)], heap := [.cells (palC p), .mp (es2.map mpgV), .cells [ic A, ic Bq]], marks := [] }) (fun dk => dk ≤ 3) (fun dk => 3 - dk) 0 mo (by kernel_rfl) ?_ (Nat.zero_le _) ?_
      · refine ent_weaken [] rfl rfl (Nat.zero_le _) (low3 p es2 [A, Bq]) rfl ?_
        simp (maxSteps := 2000000) only [go_sem, reduceIte, Nat.reduceEqDiff, Nat.reduceAdd, Nat.reduceLT, lk40, palC, intss, ints, rowA, Int.add_zero, Int.natCast_zero]
        all_goals first | exact .refl _ | exact ⟨.refl _, .refl _⟩ | exact ⟨.refl _, .refl _, .refl _⟩ | exact ⟨.refl _, _, rfl⟩ | exact ⟨_, rfl⟩ | exact ⟨.refl _, [], by simp⟩ | exact ⟨[], by simp⟩
      rintro dk hdk
      simp (maxSteps := 2000000) only [go_sem, reduceIte, Nat.reduceEqDiff, Nat.reduceAdd, Nat.reduceBEq, lk40, palC, intss, ints, ic, wb2]
      by_cases hdk3 : dk < 3
      · have c2 : decide (Bq - 1 + (dk : Int) ≤ Bq + 1) = true := decide_eq_true (by omega)
        have wk : wr .i64 (Bq - 1 + (dk : Int) + 1) = Bq - 1 + ((dk + 1 : Nat) : Int) := by rw [wr_i64] <;> omega
        have mk : 3 - (dk + 1) < 3 - dk := by omega
        have hrow : rowA (nrP p s) (fun k => grp (keyP p) L [A - 1 + di, k]) (Bq - 1) (dk + 1) (fndP p s L di) = accL (nrP p s) (grp (keyP p) L [A - 1 + di, Bq - 1 + dk]) (rowA (nrP p s) (fun k => grp (keyP p) L [A - 1 + di, k]) (Bq - 1) dk (fndP p s L di)) := rfl
        generalize rowA (nrP p s) (fun k => grp (keyP p) L [A - 1 + di, k]) (Bq - 1) dk (fndP p s L di) = st at *
        have hg := hI2.find (k := [A - 1 + di, Bq - 1 + dk]) rfl
        have hel : ∀ x ∈ grp (keyP p) L [A - 1 + di, Bq - 1 + dk], ∃ t : Nat, x = t ∧ t < 2 ^ p.pig.length := fun x hx => by
          obtain ⟨t, ht, rfl⟩ := List.mem_map.1 hx
          have := (List.mem_filter.1 ht).1
          rw [← hL] at this
          have := List.mem_range'_1.1 this
          exact ⟨t, rfl, by omega⟩
        have hll : (grp (keyP p) L [A - 1 + di, Bq - 1 + dk]).length ≤ 4096 := by
          refine Nat.le_trans (grp_len _ _ _) ?_
          rw [← hL, List.length_range']; omega
        generalize hlst : grp (keyP p) L [A - 1 + di, Bq - 1 + dk] = lst at *
        simp only [List.map_cons, List.map_nil, ic] at hg
        apply joinK
        · intro hK
          rcases hg with ⟨hf, h0, _⟩ | ⟨i2, _, _, hf⟩
          · simp (maxSteps := 2000000) only [go_sem, reduceIte, Nat.reduceEqDiff, Nat.reduceAdd, Nat.reduceLeDiff, Nat.reduceBEq, lk40, c2, hf, keyOk, lookV]
            refine AWP.ent (s' := { slots := [(1, .c (.ptr 0 0)), (6, intss (mixL p)), (7, I (2 * p.err + 1)), (8, .c (.mp 1)), (12, I s), (13, ints (sumL p s)), (14, .c (.ptr 2 0)), (15, I st.2), (16, B st.1), (17, I (A - 1 + di)), (18, I (Bq - 1 + dk)), (52, intss (mixL p)), (53, I ((2 ^ p.pig.length : Nat) : Int)), (54, I s), (99, .c (.d (.sl (lst.map ik)))), (100, I lst.length), (101, I 0)], heap := [.cells (palC p), .mp (es2.map mpgV), .cells [ic A, ic Bq]], marks := [] }) ?_ hK
            refine ent_weaken [] rfl rfl (Nat.zero_le _) (low3 p es2 [A, Bq]) rfl ?_
            simp (maxSteps := 2000000) only [go_sem, reduceIte, Nat.reduceEqDiff, Nat.reduceAdd, Nat.reduceLT, lk40, palC, intss, ints, h0]
            all_goals first | exact .refl _ | exact ⟨.refl _, .refl _⟩ | exact ⟨.refl _, .refl _, .refl _⟩ | exact ⟨.refl _, _, rfl⟩ | exact ⟨_, rfl⟩ | exact ⟨.refl _, [], by simp⟩ | exact ⟨[], by simp⟩
          · simp (maxSteps := 2000000) only [go_sem, reduceIte, Nat.reduceEqDiff, Nat.reduceAdd, Nat.reduceLeDiff, Nat.reduceBEq, lk40, c2, hf, keyOk, lookV]
            refine AWP.ent (s' := { slots := [(1, .c (.ptr 0 0)), (6, intss (mixL p)), (7, I (2 * p.err + 1)), (8, .c (.mp 1)), (12, I s), (13, ints (sumL p s)), (14, .c (.ptr 2 0)), (15, I st.2), (16, B st.1), (17, I (A - 1 + di)), (18, I (Bq - 1 + dk)), (52, intss (mixL p)), (53, I ((2 ^ p.pig.length : Nat) : Int)), (54, I s), (99, .c (.d (.sl (lst.map ik)))), (100, I lst.length), (101, I 0)], heap := [.cells (palC p), .mp (es2.map mpgV), .cells [ic A, ic Bq]], marks := [] }) ?_ hK
            refine ent_weaken [] rfl rfl (Nat.zero_le _) (low3 p es2 [A, Bq]) rfl ?_
            simp (maxSteps := 2000000) only [go_sem, reduceIte, Nat.reduceEqDiff, Nat.reduceAdd, Nat.reduceLT, lk40, palC, intss, ints]
            all_goals first | exact .refl _ | exact ⟨.refl _, .refl _⟩ | exact ⟨.refl _, .refl _, .refl _⟩ | exact ⟨.refl _, _, rfl⟩ | exact ⟨_, rfl⟩ | exact ⟨.refl _, [], by simp⟩ | exact ⟨[], by simp⟩
        refine goE_loop (bad := [40011]) (kp := kp40) (fun q : Nat => { slots := [(1, .c (.ptr 0 0)), (6, intss (mixL p)), (7, I (2 * p.err + 1)), (8, .c (.mp 1)), (12, I s), (13, ints (sumL p s)), (14, .c (.ptr 2 0)), (15, I (accL (nrP p s) (lst.take q) st).2), (16, B (accL (nrP p s) (lst.take q) st).1), (17, I (A - 1 + di)), (18, I (Bq - 1 + dk)), (52, intss (mixL p)), (53, I ((2 ^ p.pig.length : Nat) : Int)), (54, I s), (99, .c (.d (.sl (lst.map ik)))), (100, I lst.length), (101, I q)], heap := [.cells (palC p), .mp (es2.map mpgV), .cells [ic A, ic Bq]], marks := [] }) (fun q => q ≤ lst.length) (fun q => lst.length - q) 0 mo (by kernel_rfl) ?_ (Nat.zero_le _) ?_
        · refine ent_weaken [] rfl rfl (Nat.zero_le _) (low3 p es2 [A, Bq]) rfl ?_
          simp (maxSteps := 2000000) only [go_sem, reduceIte, Nat.reduceEqDiff, Nat.reduceAdd, Nat.reduceLT, lk40, palC, intss, ints, List.take_zero, accL, List.foldl_nil]
          all_goals first | exact .refl _ | exact ⟨.refl _, .refl _⟩ | exact ⟨.refl _, .refl _, .refl _⟩ | exact ⟨.refl _, _, rfl⟩ | exact ⟨_, rfl⟩ | exact ⟨.refl _, [], by simp⟩ | exact ⟨[], by simp⟩
        rintro q hq
        simp (maxSteps := 2000000) only [go_sem, reduceIte, Nat.reduceEqDiff, Nat.reduceAdd, Nat.reduceBEq, lk40, palC, intss, ints, ic]
        by_cases hq2 : q < lst.length
        · have hqi : (q : Int) < (lst.length : Int) := Int.ofNat_lt.2 hq2
          have c3 : decide ((q : Int) < (lst.length : Int)) = true := decide_eq_true hqi
          have wq : wr .i64 ((q : Int) + 1) = ((q + 1 : Nat) : Int) := wr_succ hq2 (Nat.le_trans hll (by decide))
          have mq : lst.length - (q + 1) < lst.length - q := Nat.sub_lt_sub_left hq2 (Nat.lt_succ_self q)
          have hx : lst[q]? = some lst[q] := List.getElem?_eq_getElem hq2
          obtain ⟨t, ht, htN⟩ := hel _ (List.getElem_mem hq2)
          rw [ht] at hx
          have hsucc := accL_succ (nrP p s) hx st
          have gt0 := mixL_get (p := p) htN
          have htNi : (t : Int) < ((2 ^ p.pig.length : Nat) : Int) := Int.ofNat_lt.2 htN
          have hnr := near70 (sumL p s) (sumL p t) (2 * p.err) (by rw [sumL_len, sumL_len]; exact Nat.le_refl _) (sumL_small hp t) em0 em1
          have enr : nearB (sumL p s) (sumL p t) (2 * p.err) = nrP p s t := by rw [nrP, Int.toNat_natCast, nearP]
          rw [enr] at hnr
          generalize accL (nrP p s) (lst.take q) st = sq at *
          simp (maxSteps := 2000000) only [go_sem, reduceIte, Nat.reduceEqDiff, Nat.reduceAdd, Nat.reduceBEq, lk40, c3, hx, ik, gt0, hN, nn, hqi, htNi, w0, rowI]
          refine dops_pure' (hnr) rfl rfl (by first | exact wk_refls _ | (repeat constructor)) (by kernel_rfl) ?_
          simp (maxSteps := 2000000) only [go_sem, reduceIte, Nat.reduceEqDiff, Nat.reduceAdd, lk40]
          cases hnt : nrP p s t with
          | true =>
            have hs2 : accL (nrP p s) (lst.take (q + 1)) st = (true, if sq.1 then min sq.2 t else t) := by rw [hsucc, stepN, if_pos hnt]
            simp (maxSteps := 2000000) only [go_sem, reduceIte, Nat.reduceEqDiff, Nat.reduceAdd, Nat.reduceBEq, lk40]
            refine aops_pure' (least76 sq.2 t sq.1) rfl rfl (by first | exact wk_refls _ | (repeat constructor)) ?_
            simp (maxSteps := 2000000) only [go_sem, reduceIte, Nat.reduceEqDiff, lk40, wq]
            refine ⟨q + 1, hq2, mq, ?_⟩
            refine ent_weaken [] rfl rfl (Nat.zero_le _) (low3 p es2 [A, Bq]) rfl ?_
            simp (maxSteps := 2000000) only [go_sem, reduceIte, Nat.reduceEqDiff, Nat.reduceAdd, Nat.reduceLT, lk40, palC, intss, ints, hs2]
            all_goals first | exact .refl _ | exact ⟨.refl _, .refl _⟩ | exact ⟨.refl _, .refl _, .refl _⟩ | exact ⟨.refl _, _, rfl⟩ | exact ⟨_, rfl⟩ | exact ⟨.refl _, [], by simp⟩ | exact ⟨[], by simp⟩
          | false =>
            have hs2 : accL (nrP p s) (lst.take (q + 1)) st = sq := by rw [hsucc, stepN, if_neg (by rw [hnt]; decide)]
            simp (maxSteps := 2000000) only [go_sem, reduceIte, Nat.reduceEqDiff, Nat.reduceAdd, Nat.reduceBEq, lk40, wq]
            refine ⟨q + 1, hq2, mq, ?_⟩
            refine ent_weaken [] rfl rfl (Nat.zero_le _) (low3 p es2 [A, Bq]) rfl ?_
            simp (maxSteps := 2000000) only [go_sem, reduceIte, Nat.reduceEqDiff, Nat.reduceAdd, Nat.reduceLT, lk40, palC, intss, ints, hs2]
            all_goals first | exact .refl _ | exact ⟨.refl _, .refl _⟩ | exact ⟨.refl _, .refl _, .refl _⟩ | exact ⟨.refl _, _, rfl⟩ | exact ⟨_, rfl⟩ | exact ⟨.refl _, [], by simp⟩ | exact ⟨[], by simp⟩
        · have c3 : decide ((q : Int) < (lst.length : Int)) = false := decide_eq_false (fun h => hq2 (Int.ofNat_lt.1 h))
          have eq : q = lst.length := Nat.le_antisymm hq (Nat.le_of_not_lt hq2)
          subst eq
          simp (maxSteps := 2000000) only [go_sem, reduceIte, Nat.reduceEqDiff, Nat.reduceAdd, Nat.reduceBEq, lk40, c3, wk]
          refine ⟨dk + 1, hdk3, mk, ?_⟩
          refine ent_weaken [] rfl rfl (Nat.zero_le _) (low3 p es2 [A, Bq]) rfl ?_
          simp (maxSteps := 2000000) only [go_sem, reduceIte, Nat.reduceEqDiff, Nat.reduceAdd, Nat.reduceLT, lk40, palC, intss, ints, hrow, List.take_length]
          all_goals first | exact .refl _ | exact ⟨.refl _, .refl _⟩ | exact ⟨.refl _, .refl _, .refl _⟩ | exact ⟨.refl _, _, rfl⟩ | exact ⟨_, rfl⟩ | exact ⟨.refl _, [], by simp⟩ | exact ⟨[], by simp⟩
      · have c2 : decide (Bq - 1 + (dk : Int) ≤ Bq + 1) = false := decide_eq_false (by omega)
        have e3 : dk = 3 := by omega
        subst e3
        simp (maxSteps := 2000000) only [go_sem, reduceIte, Nat.reduceEqDiff, Nat.reduceAdd, Nat.reduceBEq, Nat.reduceSub, lk40, c2, wd]
        refine ⟨di + 1, hdi3, md, ?_⟩
        refine ent_weaken [] rfl rfl (Nat.zero_le _) (low3 p es2 [A, Bq]) rfl ?_
        simp (maxSteps := 2000000) only [go_sem, reduceIte, Nat.reduceEqDiff, Nat.reduceAdd, Nat.reduceLT, lk40, palC, intss, ints, hcol, colA]
        all_goals first | exact .refl _ | exact ⟨.refl _, .refl _⟩ | exact ⟨.refl _, .refl _, .refl _⟩ | exact ⟨.refl _, _, rfl⟩ | exact ⟨_, rfl⟩ | exact ⟨.refl _, [], by simp⟩ | exact ⟨[], by simp⟩
    · have c1 : decide (A - 1 + (di : Int) ≤ A + 1) = false := decide_eq_false (by omega)
      have e3 : di = 3 := by omega
      subst e3
      simp (maxSteps := 2000000) only [go_sem, reduceIte, Nat.reduceEqDiff, Nat.reduceAdd, Nat.reduceBEq, Nat.reduceSub, lk40, c1]
      cases hst : (fndP p s L 3).1 with
      | true =>
        obtain ⟨t, ht, hct⟩ := hfn.2 hst
        have hcs : cS p = some s := firstB_some (fun j hj => by rw [hall j hj]; rfl) (by rw [hct]; rfl) hlt
        have e := clV_of (clR_some h hcs hct)
        simp (maxSteps := 2000000) only [go_sem, reduceIte, Nat.reduceEqDiff, Nat.reduceAdd, Nat.reduceBEq, lk40, e, ht]
      | false =>
        have hct := hfn.1 hst
        simp (maxSteps := 2000000) only [go_sem, reduceIte, Nat.reduceEqDiff, Nat.reduceAdd, Nat.reduceBEq, lk40, w3]
        have ms : 2 ^ p.pig.length - (s + 1) < 2 ^ p.pig.length - s := by omega
        refine ⟨(s + 1, es2), ⟨hlt, by rw [hL]; exact hI2, fun q hq => ?_⟩, ms, ?_⟩
        · by_cases e : q = s
          · subst e; exact hct
          · exact hall q (by omega)
        · refine ent_weaken [.cells [ic A, ic Bq]] rfl rfl (Nat.zero_le _) (low2 p es2) rfl ?_
          simp (maxSteps := 2000000) only [go_sem, reduceIte, Nat.reduceEqDiff, Nat.reduceAdd, Nat.reduceLT, lk40, palC, intss, ints]
          all_goals first | exact .refl _ | exact ⟨.refl _, .refl _⟩ | exact ⟨.refl _, .refl _, .refl _⟩ | exact ⟨.refl _, _, rfl⟩ | exact ⟨_, rfl⟩ | exact ⟨.refl _, [], by simp⟩ | exact ⟨[], by simp⟩
  · have hlt' : ¬ (s : Int) < ((2 ^ p.pig.length : Nat) : Int) := by omega
    have e := clV_of (clR_none h (cS_none (fun j hj => hall j (by omega))))
    simp (maxSteps := 2000000) only [go_sem, reduceIte, Nat.reduceEqDiff, Nat.reduceAdd, Nat.reduceBEq, lk40, hlt', e]
end Go.Proofs.Ytjkpfojkkfopmaa
