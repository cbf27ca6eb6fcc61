/- Zones: the statement Sums. -/
import Derived.Test.YtliamojogmlgjaaZ26
import Derived.Test.YtliamojogmlgjaaAbsS
set_option linter.unusedSimpArgs false
set_option linter.unusedVariables false
set_option maxRecDepth 100000
namespace Go.Proofs.Ytliamojogmlgjaa
open Go Go.Abs Go.Proofs
def kp11 : List (Nat × List Nat) := [(0, [1, 2, 3]), (1, [1, 2, 3, 27]), (2, [6]), (3, [1, 3, 7]), (4, [1, 3, 7, 8]), (5, [1, 3, 7, 8]), (6, [1, 3, 7, 8]), (7, [1, 3, 7, 9, 10]), (8, [1, 3, 9, 10, 11, 12]), (9, [1, 3, 9, 10, 11, 12, 13, 14]), (10, [1, 3, 13, 80]), (11, [6]), (12, [1, 3, 13, 15, 16]), (13, [1, 3, 13, 15, 16]), (14, [1, 3, 13, 15, 16, 17]), (15, [1, 3, 13, 15, 16, 17, 96]), (16, [1, 3, 13, 15, 16, 17]), (17, [1, 3, 13, 15, 16, 17, 110]), (18, [6]), (19, [1, 3, 13, 15, 16, 17]), (20, [13, 15, 16, 134]), (21, [6]), (22, [10, 13, 16, 18]), (23, [10, 12, 13, 18, 19]), (24, [6])]
theorem lk11 : lookK kp11 0 = some [1, 2, 3] ∧ lookK kp11 1 = some [1, 2, 3, 27] ∧ lookK kp11 2 = some [6] ∧ lookK kp11 3 = some [1, 3, 7] ∧ lookK kp11 4 = some [1, 3, 7, 8] ∧ lookK kp11 5 = some [1, 3, 7, 8] ∧ lookK kp11 6 = some [1, 3, 7, 8] ∧ lookK kp11 7 = some [1, 3, 7, 9, 10] ∧ lookK kp11 8 = some [1, 3, 9, 10, 11, 12] ∧ lookK kp11 9 = some [1, 3, 9, 10, 11, 12, 13, 14] ∧ lookK kp11 10 = some [1, 3, 13, 80] ∧ lookK kp11 11 = some [6] ∧ lookK kp11 12 = some [1, 3, 13, 15, 16] ∧ lookK kp11 13 = some [1, 3, 13, 15, 16] ∧ lookK kp11 14 = some [1, 3, 13, 15, 16, 17] ∧ lookK kp11 15 = some [1, 3, 13, 15, 16, 17, 96] ∧ lookK kp11 16 = some [1, 3, 13, 15, 16, 17] ∧ lookK kp11 17 = some [1, 3, 13, 15, 16, 17, 110] ∧ lookK kp11 18 = some [6] ∧ lookK kp11 19 = some [1, 3, 13, 15, 16, 17] ∧ lookK kp11 20 = some [13, 15, 16, 134] ∧ lookK kp11 21 = some [6] ∧ lookK kp11 22 = some [10, 13, 16, 18] ∧ lookK kp11 23 = some [10, 12, 13, 18, 19] ∧ lookK kp11 24 = some [6] := ⟨rfl, rfl, rfl, rfl, rfl, rfl, rfl, rfl, rfl, rfl, rfl, rfl, rfl, rfl, rfl, rfl, rfl, rfl, rfl, rfl, rfl, rfl, rfl, rfl, rfl⟩

/-- A lamp with other weights. -/
def wtL (l : La) (w : List Int) : La := ⟨l.an, l.li, l.fa, w⟩
theorem wt_ok {l : La} (h : OkLa l) {w : List Int} (hl : w.length = l.we.length) (hw : ∀ k, k < w.length → 0 ≤ gI w k ∧ gI w k ≤ 1000) : OkLa (wtL l w) :=
  ⟨h.m2, h.m11, h.a0, h.up, h.li, h.fa, by show (w.length : Int) = _; rw [hl]; exact h.we, h.lr, hw⟩
theorem wt_bl {l : La} {w : List Int} (hl : w.length = l.we.length) (k : Nat) : bl (wtL l w) k = bl l k ∧ bh (wtL l w) k = bh l k := by
  have e : (wtL l w).we.length = l.we.length := hl
  unfold bl bh
  rw [e]; exact ⟨rfl, rfl⟩
theorem wt_sp {l : La} {w : List Int} (hl : w.length = l.we.length) : spLo (wtL l w) = sumW (gI w) (bl l) l.we.length ∧ spHi (wtL l w) = sumW (gI w) (bh l) l.we.length := by
  have e : (wtL l w).we = w := rfl
  unfold spLo spHi
  rw [e, hl]
  exact ⟨sumW_congr fun k _ => (wt_bl hl k).1, sumW_congr fun k _ => (wt_bl hl k).2⟩
theorem wt_db {l : La} {w : List Int} (hl : w.length = l.we.length) (hd : dbB l = false) : dbB (wtL l w) = false := by
  rw [← Bool.not_eq_true, dbB_iff]
  rintro ⟨k, hk, hb⟩
  have hk : k < w.length := hk
  rw [(wt_bl hl k).1, (wt_bl hl k).2] at hb
  have := dbB_no hd (k := k) (by omega)
  omega
def unitL (n k : Nat) : List Int := fl n (fun j => if j = k then 1 else 0)
theorem sumW_w {v w f : Nat → Int} : ∀ {n : Nat}, (∀ k, k < n → v k = w k) → sumW v f n = sumW w f n
  | 0, _ => rfl
  | n + 1, h => by rw [sumW, sumW, sumW_w (fun k hk => h k (by omega)), h n (by omega)]
theorem unit_sp {l : La} {k : Nat} (hk : k < l.we.length) : spLo (wtL l (unitL l.we.length k)) = bl l k ∧ spHi (wtL l (unitL l.we.length k)) = bh l k := by
  have hl : (unitL l.we.length k).length = l.we.length := fl_len _ _
  obtain ⟨a, b⟩ := wt_sp (l := l) hl
  have g : ∀ j, j < l.we.length → gI (unitL l.we.length k) j = if j = k then 1 else 0 := fun j hj => fl_get _ hj
  rw [a, b, sumW_w g, sumW_w g, sumW_one, sumW_one, if_pos hk, if_pos hk]; exact ⟨rfl, rfl⟩
theorem unit_w {n k j : Nat} (hj : j < (unitL n k).length) : 0 ≤ gI (unitL n k) j ∧ gI (unitL n k) j ≤ 1000 := by
  have hj : j < n := by rw [unitL, fl_len] at hj; exact hj
  rw [unitL, fl_get _ hj]
  split <;> omega
theorem upd_unit (n k : Nat) : numsC n (upd (fun _ => 0) k 1) = numsC n (fun j => if j = k then 1 else 0) := rfl
set_option maxHeartbeats 8000000 in
theorem sumsLaw (l : La) (w : List Int) (at' : Int) (hat : 0 ≤ at' ∧ at' < 256) : Pure Try.prog 11 [laV l, ints w, .c (.d (.int .u8 at'))] (B true) := by
  refine pure_wkE (bad := [8, 12, 19, 10006]) (kp := kp11) (X := tx) (nt := 170) (rs := [.tmp 6]) Try.func11 rfl rfl rfl rfl mo (by kernel_rfl) rfl rfl (fun hf => ?_)
  have hfn := fine37 l
  unfold laV laC at hfn
  simp (config := { maxSteps := 2000000 }) only [go_sem, reduceIte, Nat.reduceEqDiff, Nat.reduceAdd, Nat.reduceLT, Nat.reduceLeDiff, Nat.reduceBEq, Nat.reduceMul, Nat.reduceSub, Nat.reduceDiv, Int.reduceNeg, Int.reduceLT, Int.reduceLE, Int.reduceEq, Int.reduceToNat, List.replicate_succ, lk11, laV, laC, ints]
  refine aops_pure' (hfn) rfl rfl (by first | exact wk_refls _ | (repeat constructor)) ?_
  cases hfb : fineB l with
  | false =>
    simp (config := { maxSteps := 2000000 }) only [go_sem, reduceIte, Nat.reduceEqDiff, Nat.reduceAdd, Nat.reduceLT, Nat.reduceLeDiff, Nat.reduceBEq, Nat.reduceMul, Nat.reduceSub, Nat.reduceDiv, Int.reduceNeg, Int.reduceLT, Int.reduceLE, Int.reduceEq, Int.reduceToNat, List.replicate_succ, lk11]
    refine aops_pure' (works16) rfl rfl (by first | exact wk_refls _ | (repeat constructor)) ?_
    simp (config := { maxSteps := 2000000 }) only [go_sem, reduceIte, Nat.reduceEqDiff, Nat.reduceAdd, Nat.reduceLT, Nat.reduceLeDiff, Nat.reduceBEq, Nat.reduceMul, Nat.reduceSub, Nat.reduceDiv, Int.reduceNeg, Int.reduceLT, Int.reduceLE, Int.reduceEq, Int.reduceToNat, List.replicate_succ, lk11]
  | true =>
  by_cases hw1 : 100 < w.length
  · have hw1' : (100 : Int) < w.length := by omega
    simp (config := { maxSteps := 2000000 }) only [go_sem, reduceIte, Nat.reduceEqDiff, Nat.reduceAdd, Nat.reduceLT, Nat.reduceLeDiff, Nat.reduceBEq, Nat.reduceMul, Nat.reduceSub, Nat.reduceDiv, Int.reduceNeg, Int.reduceLT, Int.reduceLE, Int.reduceEq, Int.reduceToNat, List.replicate_succ, lk11, hw1']
    refine aops_pure' (works16) rfl rfl (by first | exact wk_refls _ | (repeat constructor)) ?_
    simp (config := { maxSteps := 2000000 }) only [go_sem, reduceIte, Nat.reduceEqDiff, Nat.reduceAdd, Nat.reduceLT, Nat.reduceLeDiff, Nat.reduceBEq, Nat.reduceMul, Nat.reduceSub, Nat.reduceDiv, Int.reduceNeg, Int.reduceLT, Int.reduceLE, Int.reduceEq, Int.reduceToNat, List.replicate_succ, lk11]
  have hw1' : ¬ (100 : Int) < w.length := by omega
  obtain ⟨h0, hd⟩ := (fine_iff l).1 hfb
  obtain ⟨ok, h10⟩ := (okLa_iff l).1 h0
  obtain ⟨n2, n91⟩ := ok.n91
  have m2 := ok.m2
  have hwe := ok.we
  have hsp := spE_0 h0 hd
  have p0 : (0 : Int) < l.an.length := by omega
  have a0 := gI_lt (l := l.an) (i := 0) (by omega)
  have b0 := ok.a0 0 (by omega)
  obtain ⟨K, hK, eK⟩ : ∃ K : Nat, K < l.we.length ∧ at'.tmod l.we.length = (K : Int) := by
    have q0 : 0 ≤ at'.tmod l.we.length := Int.tmod_nonneg _ hat.1
    have q1 : at'.tmod l.we.length < l.we.length := by rw [Int.tmod_eq_emod_of_nonneg hat.1]; exact Int.emod_lt_of_pos _ (by omega)
    exact ⟨(at'.tmod l.we.length).toNat, by omega, by omega⟩
  have hne : ¬ (l.we.length : Int) = 0 := by omega
  have hK' : (K : Int) < l.we.length := by omega
  have d0 : (0 : Int) ≤ l.we.length := by omega
  have d1 : (decide ((l.we.length : Int) ≤ (l.we.length : Int)) && decide (8 * (l.we.length : Int) ≤ 140737488355328) && decide ((l.we.length : Int) ≤ 140737488355328)) = true := by simp; omega
  have hz := rep_nums2 l.we.length
  have c1 : decide (K + 1 ≤ l.we.length) = true := by simp; omega
  have ul : (unitL l.we.length K).length = l.we.length := fl_len _ _
  have uok := wt_ok ok ul (fun j hj => unit_w hj)
  have u0 : okLa (wtL l (unitL l.we.length K)) = 0 := (okLa_iff _).2 ⟨uok, h10⟩
  have us := spE_0 u0 (wt_db ul hd)
  obtain ⟨us1, us2⟩ := unit_sp hK
  have hu := span27 (wtL l (unitL l.we.length K))
  rw [us, spR_0 us, us1, us2] at hu
  obtain ⟨at1, at2⟩ := at_k h0 hd hK
  have ha := at29 l (gI l.an 0 + K)
  rw [at1, at2] at ha
  have hs := span27 l
  rw [hsp, spR_0 hsp] at hs
  unfold laV laC at ha hs hu
  unfold rgV rgC at ha hs hu
  have w1 : wr .i64 at' = at' := wr_in (by omega)
  have w2 : wr .i64 (gI l.an 0 + (K : Int)) = gI l.an 0 + (K : Int) := wr_in (by clear w1; omega)
  simp (config := { maxSteps := 2000000 }) only [go_sem, reduceIte, Nat.reduceEqDiff, Nat.reduceAdd, Nat.reduceLT, Nat.reduceLeDiff, Nat.reduceBEq, Nat.reduceMul, Nat.reduceSub, Nat.reduceDiv, Int.reduceNeg, Int.reduceLT, Int.reduceLE, Int.reduceEq, Int.reduceToNat, List.replicate_succ, lk11, hw1', w1, hne, eK, d0, d1, hz, Int.toNat_natCast, hK', nn, Nat.mul_one, Nat.zero_add, numsC_len, numsC_set, c1]
  refine ⟨d1, ?_⟩
  have hfz : ∀ (i : Nat) (x y : C), ([.d (.sl (l.an.map iD)), .d (.sl (l.li.map rgD)), .d (.sl (l.fa.map bD)), .ms 2 0 l.we.length l.we.length] : List C)[i]? = some x → ([.d (.sl (l.an.map iD)), .d (.sl (l.li.map rgD)), .d (.sl (l.fa.map bD)), .d (.sl ((unitL l.we.length K).map iD))] : List C)[i]? = some y → FzC 2 (numsD l.we.length (upd (fun _ => 0) K 1)) x y := fun i x y hx hy => by
    match i with
    | 0 => simp at hx hy; subst hx; subst hy; exact .same _
    | 1 => simp at hx hy; subst hx; subst hy; exact .same _
    | 2 => simp at hx hy; subst hx; subst hy; exact .same _
    | 3 =>
      simp at hx hy
      subst hx; subst hy
      have h : FzC 2 (numsD l.we.length (upd (fun _ => 0) K 1)) (.ms 2 0 l.we.length l.we.length) (.d (.sl (chunk 1 l.we.length ((numsD l.we.length (upd (fun _ => 0) K 1)).drop 0)))) := .ms 0 1 _ _ (by simp [numsD]) (Nat.le_refl _) (by unfold lim; clear w1 w2; omega)
      rw [List.drop_zero, chunk_nums] at h
      exact h
    | k + 4 => simp at hx
  refine stop_mk { slots := [(1, ints w), (3, .c (.ptr 0 0)), (7, I K), (8, .c (.ptr 1 0))], heap := [.cells (laC l), .cells [.d (.sl (l.an.map iD)), .d (.sl (l.li.map rgD)), .d (.sl (l.fa.map bD)), .d (.sl ((unitL l.we.length K).map iD))], .gone], marks := [] } (ent_fzcell 2 1 rfl (toDs_nums _ _) (by decide) rfl rfl hfz) ?_
  have elu : laC (wtL l (unitL l.we.length K)) = [.d (.sl (l.an.map iD)), .d (.sl (l.li.map rgD)), .d (.sl (l.fa.map bD)), .d (.sl ((unitL l.we.length K).map iD))] := rfl
  have hu : Pure Try.prog 27 [.agg [.d (.sl (l.an.map iD)), .d (.sl (l.li.map rgD)), .d (.sl (l.fa.map bD)), .d (.sl ((unitL l.we.length K).map iD))]] (.tup [.agg [.d (.int .i64 (bl l K)), .d (.int .i64 (bh l K))], I 0]) := hu
  generalize unitL l.we.length K = U at *
  simp (config := { maxSteps := 2000000 }) only [go_sem, reduceIte, Nat.reduceEqDiff, Nat.reduceAdd, Nat.reduceLT, Nat.reduceLeDiff, Nat.reduceBEq, Nat.reduceMul, Nat.reduceSub, Nat.reduceDiv, Int.reduceNeg, Int.reduceLT, Int.reduceLE, Int.reduceEq, Int.reduceToNat, List.replicate_succ, lk11, laC, ints]
  refine aops_pure' (hu) rfl rfl (by first | exact wk_refls _ | (repeat constructor)) ?_
  simp (config := { maxSteps := 2000000 }) only [go_sem, reduceIte, Nat.reduceEqDiff, Nat.reduceAdd, Nat.reduceLT, Nat.reduceLeDiff, Nat.reduceBEq, Nat.reduceMul, Nat.reduceSub, Nat.reduceDiv, Int.reduceNeg, Int.reduceLT, Int.reduceLE, Int.reduceEq, Int.reduceToNat, List.replicate_succ, lk11, p0, a0, nn, iD, w2]
  refine de_pure (ha) rfl rfl (by first | exact wk_refls _ | (repeat constructor)) ?_
  simp (config := { maxSteps := 2000000 }) only [go_sem, reduceIte, Nat.reduceEqDiff, Nat.reduceAdd, Nat.reduceLT, Nat.reduceLeDiff, Nat.reduceBEq, Nat.reduceMul, Nat.reduceSub, Nat.reduceDiv, Int.reduceNeg, Int.reduceLT, Int.reduceLE, Int.reduceEq, Int.reduceToNat, List.replicate_succ, lk11]
  refine ⟨pairsOk_ord (by kernel_rfl), ?_⟩
  refine aops_pure' (hs) rfl rfl (by first | exact wk_refls _ | (repeat constructor)) ?_
  simp (config := { maxSteps := 2000000 }) only [go_sem, reduceIte, Nat.reduceEqDiff, Nat.reduceAdd, Nat.reduceLT, Nat.reduceLeDiff, Nat.reduceBEq, Nat.reduceMul, Nat.reduceSub, Nat.reduceDiv, Int.reduceNeg, Int.reduceLT, Int.reduceLE, Int.reduceEq, Int.reduceToNat, List.replicate_succ, lk11]
  refine ⟨pairsOk_ord (by kernel_rfl), ?_⟩
  clear w1 w2
  -- so far each new weight is in its range
  refine goE_loop (bad := [8, 12, 19, 10006]) (kp := kp11) (fun i : Nat => { slots := [(1, ints w), (3, .c (.ptr 0 0)), (13, .c (.ptr 5 0)), (15, .c (.ptr 6 0)), (16, .c (.ptr 7 0)), (17, I i)], heap := [.cells (laC l), .cells [.d (.sl (l.an.map iD)), .d (.sl (l.li.map rgD)), .d (.sl (l.fa.map bD)), .d (.sl (U.map iD))], .gone, .cells [.d (.int .i64 (bl l K)), .d (.int .i64 (bh l K))], .cells [.d (.int .i64 (bl l K)), .d (.int .i64 (bh l K))], .cells [.d (.int .i64 (spLo l)), .d (.int .i64 (spHi l))], .cells (laC (wtL l w)), .cells [.d (.sl (l.an.map iD)), .d (.sl (l.li.map rgD)), .d (.sl (l.fa.map bD)), .own 8 ((fl i (fun k => gI w k + gI l.we k)).map iD)], .grow i 1], marks := [] }) (fun i => i ≤ w.length ∧ i ≤ l.we.length ∧ ∀ k, k < i → 0 ≤ gI w k ∧ gI w k ≤ 1000) (fun i => l.we.length - i) 0 mo (by kernel_rfl) ?_ ⟨Nat.zero_le _, Nat.zero_le _, fun k hk => by omega⟩ ?_
  · refine Ent.trans (ent_own_cell 7 3 1 rfl rfl) ?_
    refine ent_weaken [] rfl rfl (Nat.zero_le _) rfl rfl ?_
    simp (config := { maxSteps := 2000000 }) only [go_sem, reduceIte, Nat.reduceEqDiff, Nat.reduceAdd, Nat.reduceLT, Nat.reduceLeDiff, Nat.reduceBEq, Nat.reduceMul, Nat.reduceSub, Nat.reduceDiv, Int.reduceNeg, Int.reduceLT, Int.reduceLE, Int.reduceEq, Int.reduceToNat, List.replicate_succ, lk11, laC, wtL, ints, fl, List.range_zero]
    all_goals first | exact .refl _ | exact ⟨.refl _, .refl _⟩ | exact ⟨.refl _, .refl _, .refl _⟩ | exact ⟨.refl _, _, rfl⟩ | exact ⟨_, rfl⟩ | exact ⟨.refl _, [], by simp⟩ | exact ⟨[], by simp⟩
  rintro i ⟨hi1, hi2, hall⟩
  have hex : ¬ (i < w.length ∧ i < l.we.length) → fineB (wtL l w) = true → i = l.we.length ∧ w.length = l.we.length := fun h1 h2 => by
    have hx := okLa_n ((fine_iff _).1 h2).1
    have e : (w.length : Int) = gI l.an (l.an.length - 1) - gI l.an 0 + 1 := hx.we
    omega
  have hfx : Pure Try.prog 37 [.agg [.d (.sl (l.an.map iD)), .d (.sl (l.li.map rgD)), .d (.sl (l.fa.map bD)), .d (.sl (w.map iD))]] (B (fineB (wtL l w))) := fine37 (wtL l w)
  have hfy : Pure Try.prog 37 [.agg [.d (.sl (l.an.map iD)), .d (.sl (l.li.map rgD)), .d (.sl (l.fa.map bD)), .d (.sl ((fl i (fun k => gI w k + gI l.we k)).map iD))]] (B (fineB (wtL l (fl i (fun k => gI w k + gI l.we k))))) := fine37 (wtL l (fl i (fun k => gI w k + gI l.we k)))
  by_cases hc : i < w.length ∧ i < l.we.length
  · obtain ⟨hc1, hc2⟩ := hc
    have hc1' : (i : Int) < w.length := by omega
    have hc2' : (i : Int) < l.we.length := by omega
    have g1 := gI_lt hc1
    have g2 := gI_lt hc2
    by_cases d1 : gI w i < 0
    · simp (config := { maxSteps := 2000000 }) only [go_sem, reduceIte, Nat.reduceEqDiff, Nat.reduceAdd, Nat.reduceLT, Nat.reduceLeDiff, Nat.reduceBEq, Nat.reduceMul, Nat.reduceSub, Nat.reduceDiv, Int.reduceNeg, Int.reduceLT, Int.reduceLE, Int.reduceEq, Int.reduceToNat, List.replicate_succ, lk11, laC, ints, wtL, hc1', hc2', nn, g1, iD, d1]
      refine aops_pure' (works16) rfl rfl (by first | exact wk_refls _ | (repeat constructor)) ?_
      simp (config := { maxSteps := 2000000 }) only [go_sem, reduceIte, Nat.reduceEqDiff, Nat.reduceAdd, Nat.reduceLT, Nat.reduceLeDiff, Nat.reduceBEq, Nat.reduceMul, Nat.reduceSub, Nat.reduceDiv, Int.reduceNeg, Int.reduceLT, Int.reduceLE, Int.reduceEq, Int.reduceToNat, List.replicate_succ, lk11]
    by_cases d2 : 1000 < gI w i
    · simp (config := { maxSteps := 2000000 }) only [go_sem, reduceIte, Nat.reduceEqDiff, Nat.reduceAdd, Nat.reduceLT, Nat.reduceLeDiff, Nat.reduceBEq, Nat.reduceMul, Nat.reduceSub, Nat.reduceDiv, Int.reduceNeg, Int.reduceLT, Int.reduceLE, Int.reduceEq, Int.reduceToNat, List.replicate_succ, lk11, laC, ints, wtL, hc1', hc2', nn, g1, iD, d1, d2]
      refine aops_pure' (works16) rfl rfl (by first | exact wk_refls _ | (repeat constructor)) ?_
      simp (config := { maxSteps := 2000000 }) only [go_sem, reduceIte, Nat.reduceEqDiff, Nat.reduceAdd, Nat.reduceLT, Nat.reduceLeDiff, Nat.reduceBEq, Nat.reduceMul, Nat.reduceSub, Nat.reduceDiv, Int.reduceNeg, Int.reduceLT, Int.reduceLE, Int.reduceEq, Int.reduceToNat, List.replicate_succ, lk11]
    have hwr := ok.wr i hc2
    have es := fl_succ i (fun k => gI w k + gI l.we k)
    have el := fl_len i (fun k => gI w k + gI l.we k)
    have ap : ((((fl i (fun k => gI w k + gI l.we k)).all fun x => (iD x).length == 1) && decide ((i + 1 + (i + 1) / 4 + 256) * 8 ≤ 281474976710656)) && decide (i ≤ 140737488355327)) = true := by
      simp [iD]; omega
    have hall2 : ∀ k, k < i + 1 → 0 ≤ gI w k ∧ gI w k ≤ 1000 := fun k hk => by
      by_cases e : k = i
      · subst e; omega
      · exact hall k (by omega)
    have m1 : l.we.length - (i + 1) < l.we.length - i := by omega
    have w5 : wr .i64 (gI w i + gI l.we i) = gI w i + gI l.we i := wr_in (by omega)
    have w7 := wr_succ hc2 (big91 n91)
    simp (config := { maxSteps := 2000000 }) only [go_sem, reduceIte, Nat.reduceEqDiff, Nat.reduceAdd, Nat.reduceLT, Nat.reduceLeDiff, Nat.reduceBEq, Nat.reduceMul, Nat.reduceSub, Nat.reduceDiv, Int.reduceNeg, Int.reduceLT, Int.reduceLE, Int.reduceEq, Int.reduceToNat, List.replicate_succ, lk11, laC, ints, wtL, hc1', hc2', nn, g1, g2, iD, d1, d2, w5, w7, el]
    refine ⟨by clear w5 w7; first | exact ap | (simp; done) | (simp; omega), pairsOk_ord (by kernel_rfl), i + 1, ⟨hc1, hc2, hall2⟩, m1, ?_⟩
    refine ent_weaken [.gone] (by rw [es]; simp [iD]) rfl (Nat.zero_le _) rfl rfl ?_
    simp (config := { maxSteps := 2000000 }) only [go_sem, reduceIte, Nat.reduceEqDiff, Nat.reduceAdd, Nat.reduceLT, Nat.reduceLeDiff, Nat.reduceBEq, Nat.reduceMul, Nat.reduceSub, Nat.reduceDiv, Int.reduceNeg, Int.reduceLT, Int.reduceLE, Int.reduceEq, Int.reduceToNat, List.replicate_succ, lk11, laC, ints, wtL]
    all_goals first | exact .refl _ | exact ⟨.refl _, .refl _⟩ | exact ⟨.refl _, .refl _, .refl _⟩ | exact ⟨.refl _, _, rfl⟩ | exact ⟨_, rfl⟩ | exact ⟨.refl _, [], by simp⟩ | exact ⟨[], by simp⟩
  have hr1 := spLo_range ok
  have hr2 := spHi_range ok
  have hfin : fineB (wtL l w) = true → fineB (wtL l (fl i (fun k => gI w k + gI l.we k))) = true → Pure Try.prog 27 [.agg [.d (.sl (l.an.map iD)), .d (.sl (l.li.map rgD)), .d (.sl (l.fa.map bD)), .d (.sl (w.map iD))]] (.tup [.agg [.d (.int .i64 (spLo (wtL l w))), .d (.int .i64 (spHi (wtL l w)))], I 0])
      ∧ Pure Try.prog 27 [.agg [.d (.sl (l.an.map iD)), .d (.sl (l.li.map rgD)), .d (.sl (l.fa.map bD)), .d (.sl ((fl i (fun k => gI w k + gI l.we k)).map iD))]] (.tup [.agg [.d (.int .i64 (spLo l + spLo (wtL l w))), .d (.int .i64 (spHi l + spHi (wtL l w)))], I 0])
      ∧ wr .i64 (spLo l + spLo (wtL l w)) = spLo l + spLo (wtL l w) ∧ wr .i64 (spHi l + spHi (wtL l w)) = spHi l + spHi (wtL l w) := fun h1 h2 => by
    obtain ⟨e1, e2⟩ := hex hc h1
    obtain ⟨f1, f2⟩ := (fine_iff _).1 h1
    obtain ⟨f3, f4⟩ := (fine_iff _).1 h2
    have u1 := spE_0 f1 f2
    have u2 := spE_0 f3 f4
    have s1 := span27 (wtL l w)
    have s2 := span27 (wtL l (fl i (fun k => gI w k + gI l.we k)))
    have ly : (fl i (fun k => gI w k + gI l.we k)).length = l.we.length := by rw [fl_len, e1]
    obtain ⟨a1, a2⟩ := wt_sp (l := l) ly
    obtain ⟨b1, b2⟩ := wt_sp (l := l) e2
    have g : ∀ k, k < l.we.length → gI (fl i (fun k => gI w k + gI l.we k)) k = gI l.we k + gI w k := fun k hk => by rw [fl_get _ (by omega)]; exact Int.add_comm _ _
    have c1 : spLo (wtL l (fl i (fun k => gI w k + gI l.we k))) = spLo l + spLo (wtL l w) := by
      rw [a1, b1, sumW_w g, sumW_add]; rfl
    have c2 : spHi (wtL l (fl i (fun k => gI w k + gI l.we k))) = spHi l + spHi (wtL l w) := by
      rw [a2, b2, sumW_w g, sumW_add]; rfl
    rw [u1, spR_0 u1] at s1
    rw [u2, spR_0 u2, c1, c2] at s2
    have q1 := spLo_range (okLa_n f1)
    have q2 := spHi_range (okLa_n f1)
    exact ⟨s1, s2, wr_in (by omega), wr_in (by omega)⟩
  have hg43 := rg43 (spLo l + spLo (wtL l w)) (spHi l + spHi (wtL l w))
  unfold rgV rgC at hg43
  have hc3 : (w.length : Int) ≤ i ∨ (i : Int) < w.length := by omega
  generalize spLo (wtL l w) = A at *
  generalize spHi (wtL l w) = Bq at *
  by_cases c : i < w.length
  · have c' : (i : Int) < w.length := by omega
    have c2' : ¬ (i : Int) < l.we.length := by omega
    simp (config := { maxSteps := 2000000 }) only [go_sem, reduceIte, Nat.reduceEqDiff, Nat.reduceAdd, Nat.reduceLT, Nat.reduceLeDiff, Nat.reduceBEq, Nat.reduceMul, Nat.reduceSub, Nat.reduceDiv, Int.reduceNeg, Int.reduceLT, Int.reduceLE, Int.reduceEq, Int.reduceToNat, List.replicate_succ, lk11, laC, ints, wtL, c', c2']
    refine aops_pure' (hfx) rfl rfl (by first | exact wk_refls _ | (repeat constructor)) ?_
    cases hbx : fineB (wtL l w) with
    | false =>
      simp (config := { maxSteps := 2000000 }) only [go_sem, reduceIte, Nat.reduceEqDiff, Nat.reduceAdd, Nat.reduceLT, Nat.reduceLeDiff, Nat.reduceBEq, Nat.reduceMul, Nat.reduceSub, Nat.reduceDiv, Int.reduceNeg, Int.reduceLT, Int.reduceLE, Int.reduceEq, Int.reduceToNat, List.replicate_succ, lk11]
      refine aops_pure' (works16) rfl rfl (by first | exact wk_refls _ | (repeat constructor)) ?_
      simp (config := { maxSteps := 2000000 }) only [go_sem, reduceIte, Nat.reduceEqDiff, Nat.reduceAdd, Nat.reduceLT, Nat.reduceLeDiff, Nat.reduceBEq, Nat.reduceMul, Nat.reduceSub, Nat.reduceDiv, Int.reduceNeg, Int.reduceLT, Int.reduceLE, Int.reduceEq, Int.reduceToNat, List.replicate_succ, lk11]
    | true =>
    simp (config := { maxSteps := 2000000 }) only [go_sem, reduceIte, Nat.reduceEqDiff, Nat.reduceAdd, Nat.reduceLT, Nat.reduceLeDiff, Nat.reduceBEq, Nat.reduceMul, Nat.reduceSub, Nat.reduceDiv, Int.reduceNeg, Int.reduceLT, Int.reduceLE, Int.reduceEq, Int.reduceToNat, List.replicate_succ, lk11]
    refine aops_pure' (hfy) rfl rfl (by first | exact wk_refls _ | (repeat constructor)) ?_
    cases hby : fineB (wtL l (fl i (fun k => gI w k + gI l.we k))) with
    | false =>
      simp (config := { maxSteps := 2000000 }) only [go_sem, reduceIte, Nat.reduceEqDiff, Nat.reduceAdd, Nat.reduceLT, Nat.reduceLeDiff, Nat.reduceBEq, Nat.reduceMul, Nat.reduceSub, Nat.reduceDiv, Int.reduceNeg, Int.reduceLT, Int.reduceLE, Int.reduceEq, Int.reduceToNat, List.replicate_succ, lk11]
      refine aops_pure' (works16) rfl rfl (by first | exact wk_refls _ | (repeat constructor)) ?_
      simp (config := { maxSteps := 2000000 }) only [go_sem, reduceIte, Nat.reduceEqDiff, Nat.reduceAdd, Nat.reduceLT, Nat.reduceLeDiff, Nat.reduceBEq, Nat.reduceMul, Nat.reduceSub, Nat.reduceDiv, Int.reduceNeg, Int.reduceLT, Int.reduceLE, Int.reduceEq, Int.reduceToNat, List.replicate_succ, lk11]
    | true =>
    obtain ⟨x1, x2, x3, x4⟩ := hfin hbx hby
    simp (config := { maxSteps := 2000000 }) only [go_sem, reduceIte, Nat.reduceEqDiff, Nat.reduceAdd, Nat.reduceLT, Nat.reduceLeDiff, Nat.reduceBEq, Nat.reduceMul, Nat.reduceSub, Nat.reduceDiv, Int.reduceNeg, Int.reduceLT, Int.reduceLE, Int.reduceEq, Int.reduceToNat, List.replicate_succ, lk11]
    refine aops_pure' (x1) rfl rfl (by first | exact wk_refls _ | (repeat constructor)) ?_
    simp (config := { maxSteps := 2000000 }) only [go_sem, reduceIte, Nat.reduceEqDiff, Nat.reduceAdd, Nat.reduceLT, Nat.reduceLeDiff, Nat.reduceBEq, Nat.reduceMul, Nat.reduceSub, Nat.reduceDiv, Int.reduceNeg, Int.reduceLT, Int.reduceLE, Int.reduceEq, Int.reduceToNat, List.replicate_succ, lk11]
    refine aops_pure' (x2) rfl rfl (by first | exact wk_refls _ | (repeat constructor)) ?_
    simp (config := { maxSteps := 2000000 }) only [go_sem, reduceIte, Nat.reduceEqDiff, Nat.reduceAdd, Nat.reduceLT, Nat.reduceLeDiff, Nat.reduceBEq, Nat.reduceMul, Nat.reduceSub, Nat.reduceDiv, Int.reduceNeg, Int.reduceLT, Int.reduceLE, Int.reduceEq, Int.reduceToNat, List.replicate_succ, lk11, x3, x4]
    refine dops_pure' (hg43) rfl rfl (by first | exact wk_refls _ | (repeat constructor)) (by kernel_rfl) ?_
    simp (config := { maxSteps := 2000000 }) only [go_sem, reduceIte, Nat.reduceEqDiff, Nat.reduceAdd, Nat.reduceLT, Nat.reduceLeDiff, Nat.reduceBEq, Nat.reduceMul, Nat.reduceSub, Nat.reduceDiv, Int.reduceNeg, Int.reduceLT, Int.reduceLE, Int.reduceEq, Int.reduceToNat, List.replicate_succ, lk11]
    refine dops_pure' (works16) rfl rfl (by first | exact wk_refls _ | (repeat constructor)) (by kernel_rfl) ?_
    simp (config := { maxSteps := 2000000 }) only [go_sem, reduceIte, Nat.reduceEqDiff, Nat.reduceAdd, Nat.reduceLT, Nat.reduceLeDiff, Nat.reduceBEq, Nat.reduceMul, Nat.reduceSub, Nat.reduceDiv, Int.reduceNeg, Int.reduceLT, Int.reduceLE, Int.reduceEq, Int.reduceToNat, List.replicate_succ, lk11]
  · have c' : ¬ (i : Int) < w.length := by omega
    simp (config := { maxSteps := 2000000 }) only [go_sem, reduceIte, Nat.reduceEqDiff, Nat.reduceAdd, Nat.reduceLT, Nat.reduceLeDiff, Nat.reduceBEq, Nat.reduceMul, Nat.reduceSub, Nat.reduceDiv, Int.reduceNeg, Int.reduceLT, Int.reduceLE, Int.reduceEq, Int.reduceToNat, List.replicate_succ, lk11, laC, ints, wtL, c']
    refine aops_pure' (hfx) rfl rfl (by first | exact wk_refls _ | (repeat constructor)) ?_
    cases hbx : fineB (wtL l w) with
    | false =>
      simp (config := { maxSteps := 2000000 }) only [go_sem, reduceIte, Nat.reduceEqDiff, Nat.reduceAdd, Nat.reduceLT, Nat.reduceLeDiff, Nat.reduceBEq, Nat.reduceMul, Nat.reduceSub, Nat.reduceDiv, Int.reduceNeg, Int.reduceLT, Int.reduceLE, Int.reduceEq, Int.reduceToNat, List.replicate_succ, lk11]
      refine aops_pure' (works16) rfl rfl (by first | exact wk_refls _ | (repeat constructor)) ?_
      simp (config := { maxSteps := 2000000 }) only [go_sem, reduceIte, Nat.reduceEqDiff, Nat.reduceAdd, Nat.reduceLT, Nat.reduceLeDiff, Nat.reduceBEq, Nat.reduceMul, Nat.reduceSub, Nat.reduceDiv, Int.reduceNeg, Int.reduceLT, Int.reduceLE, Int.reduceEq, Int.reduceToNat, List.replicate_succ, lk11]
    | true =>
    simp (config := { maxSteps := 2000000 }) only [go_sem, reduceIte, Nat.reduceEqDiff, Nat.reduceAdd, Nat.reduceLT, Nat.reduceLeDiff, Nat.reduceBEq, Nat.reduceMul, Nat.reduceSub, Nat.reduceDiv, Int.reduceNeg, Int.reduceLT, Int.reduceLE, Int.reduceEq, Int.reduceToNat, List.replicate_succ, lk11]
    refine aops_pure' (hfy) rfl rfl (by first | exact wk_refls _ | (repeat constructor)) ?_
    cases hby : fineB (wtL l (fl i (fun k => gI w k + gI l.we k))) with
    | false =>
      simp (config := { maxSteps := 2000000 }) only [go_sem, reduceIte, Nat.reduceEqDiff, Nat.reduceAdd, Nat.reduceLT, Nat.reduceLeDiff, Nat.reduceBEq, Nat.reduceMul, Nat.reduceSub, Nat.reduceDiv, Int.reduceNeg, Int.reduceLT, Int.reduceLE, Int.reduceEq, Int.reduceToNat, List.replicate_succ, lk11]
      refine aops_pure' (works16) rfl rfl (by first | exact wk_refls _ | (repeat constructor)) ?_
      simp (config := { maxSteps := 2000000 }) only [go_sem, reduceIte, Nat.reduceEqDiff, Nat.reduceAdd, Nat.reduceLT, Nat.reduceLeDiff, Nat.reduceBEq, Nat.reduceMul, Nat.reduceSub, Nat.reduceDiv, Int.reduceNeg, Int.reduceLT, Int.reduceLE, Int.reduceEq, Int.reduceToNat, List.replicate_succ, lk11]
    | true =>
    obtain ⟨x1, x2, x3, x4⟩ := hfin hbx hby
    simp (config := { maxSteps := 2000000 }) only [go_sem, reduceIte, Nat.reduceEqDiff, Nat.reduceAdd, Nat.reduceLT, Nat.reduceLeDiff, Nat.reduceBEq, Nat.reduceMul, Nat.reduceSub, Nat.reduceDiv, Int.reduceNeg, Int.reduceLT, Int.reduceLE, Int.reduceEq, Int.reduceToNat, List.replicate_succ, lk11]
    refine aops_pure' (x1) rfl rfl (by first | exact wk_refls _ | (repeat constructor)) ?_
    simp (config := { maxSteps := 2000000 }) only [go_sem, reduceIte, Nat.reduceEqDiff, Nat.reduceAdd, Nat.reduceLT, Nat.reduceLeDiff, Nat.reduceBEq, Nat.reduceMul, Nat.reduceSub, Nat.reduceDiv, Int.reduceNeg, Int.reduceLT, Int.reduceLE, Int.reduceEq, Int.reduceToNat, List.replicate_succ, lk11]
    refine aops_pure' (x2) rfl rfl (by first | exact wk_refls _ | (repeat constructor)) ?_
    simp (config := { maxSteps := 2000000 }) only [go_sem, reduceIte, Nat.reduceEqDiff, Nat.reduceAdd, Nat.reduceLT, Nat.reduceLeDiff, Nat.reduceBEq, Nat.reduceMul, Nat.reduceSub, Nat.reduceDiv, Int.reduceNeg, Int.reduceLT, Int.reduceLE, Int.reduceEq, Int.reduceToNat, List.replicate_succ, lk11, x3, x4]
    refine dops_pure' (hg43) rfl rfl (by first | exact wk_refls _ | (repeat constructor)) (by kernel_rfl) ?_
    simp (config := { maxSteps := 2000000 }) only [go_sem, reduceIte, Nat.reduceEqDiff, Nat.reduceAdd, Nat.reduceLT, Nat.reduceLeDiff, Nat.reduceBEq, Nat.reduceMul, Nat.reduceSub, Nat.reduceDiv, Int.reduceNeg, Int.reduceLT, Int.reduceLE, Int.reduceEq, Int.reduceToNat, List.replicate_succ, lk11]
    refine dops_pure' (works16) rfl rfl (by first | exact wk_refls _ | (repeat constructor)) (by kernel_rfl) ?_
    simp (config := { maxSteps := 2000000 }) only [go_sem, reduceIte, Nat.reduceEqDiff, Nat.reduceAdd, Nat.reduceLT, Nat.reduceLeDiff, Nat.reduceBEq, Nat.reduceMul, Nat.reduceSub, Nat.reduceDiv, Int.reduceNeg, Int.reduceLT, Int.reduceLE, Int.reduceEq, Int.reduceToNat, List.replicate_succ, lk11]
end Go.Proofs.Ytliamojogmlgjaa
