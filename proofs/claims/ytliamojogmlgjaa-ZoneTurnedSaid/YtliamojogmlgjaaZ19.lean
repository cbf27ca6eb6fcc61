/- Zones: a test at an angle, by the program. -/
import Derived.Test.YtliamojogmlgjaaZ18
import Derived.Test.YtliamojogmlgjaaZ12
import Derived.Test.YtliamojogmlgjaaZS3
set_option linter.unusedSimpArgs false
set_option linter.unusedVariables false
set_option maxRecDepth 100000
namespace Go.Proofs.Ytliamojogmlgjaa
open Go Go.Abs Go.Proofs
def kp75 : List (Nat × List Nat) := [(0, [0]), (1, [0, 4]), (2, [2]), (3, [2])]
theorem lk75 : lookK kp75 0 = some [0] ∧ lookK kp75 1 = some [0, 4] ∧ lookK kp75 2 = some [2] ∧ lookK kp75 3 = some [2] := ⟨rfl, rfl, rfl, rfl⟩
def kp64 : List (Nat × List Nat) := [(0, [0, 1, 5]), (1, [0, 5, 8]), (2, [0, 5, 8, 9, 10]), (3, [0, 5, 8, 9, 10, 11]), (4, [0, 5, 8, 9, 11, 38]), (5, [0, 5, 9, 11]), (6, [5, 9, 11]), (7, [9, 11]), (8, [11, 93]), (9, [6, 7]), (10, [0, 5, 9, 11]), (11, [0, 9, 11]), (12, [11]), (13, [11, 165]), (14, [6, 7]), (15, [12]), (16, [6, 7])]
theorem lk64 : lookK kp64 0 = some [0, 1, 5] ∧ lookK kp64 1 = some [0, 5, 8] ∧ lookK kp64 2 = some [0, 5, 8, 9, 10] ∧ lookK kp64 3 = some [0, 5, 8, 9, 10, 11] ∧ lookK kp64 4 = some [0, 5, 8, 9, 11, 38] ∧ lookK kp64 5 = some [0, 5, 9, 11] ∧ lookK kp64 6 = some [5, 9, 11] ∧ lookK kp64 7 = some [9, 11] ∧ lookK kp64 8 = some [11, 93] ∧ lookK kp64 9 = some [6, 7] ∧ lookK kp64 10 = some [0, 5, 9, 11] ∧ lookK kp64 11 = some [0, 9, 11] ∧ lookK kp64 12 = some [11] ∧ lookK kp64 13 = some [11, 165] ∧ lookK kp64 14 = some [6, 7] ∧ lookK kp64 15 = some [12] ∧ lookK kp64 16 = some [6, 7] := ⟨rfl, rfl, rfl, rfl, rfl, rfl, rfl, rfl, rfl, rfl, rfl, rfl, rfl, rfl, rfl, rfl, rfl⟩

theorem liC_eq (l : List Rg) : ((l.map rgD).flatten).map C.d = liC l := by
  unfold liC
  induction l with
  | nil => rfl
  | cons a l ih => simp only [List.map_cons, List.flatten_cons, List.map_append, ih]; rfl
theorem liC_cons (a : Rg) (l : List Rg) : liC (a :: l) = .d (.int .i64 a.lo) :: .d (.int .i64 a.hi) :: liC l := rfl
theorem liC_len : ∀ l : List Rg, (liC l).length = l.length * 2
  | [] => rfl
  | a :: l => by rw [liC_cons, List.length_cons, List.length_cons, liC_len l, List.length_cons]; omega
theorem liC_at : ∀ {l : List Rg} {i : Nat}, i < l.length → (liC l)[i * 2]? = some (.d (.int .i64 (gR l i).lo)) ∧ (liC l)[i * 2 + 1]? = some (.d (.int .i64 (gR l i).hi))
  | a :: l, 0, _ => ⟨rfl, rfl⟩
  | a :: l, i + 1, h => by
    have ih := liC_at (l := l) (i := i) (by simpa using h)
    rw [liC_cons, show (i + 1) * 2 = i * 2 + 1 + 1 by omega, List.getElem?_cons_succ, List.getElem?_cons_succ, List.getElem?_cons_succ, List.getElem?_cons_succ]
    exact ih
theorem liC_set (x y : Int) : ∀ {l : List Rg} {i : Nat}, i < l.length → ((liC l).set (i * 2) (.d (.int .i64 x))).set (i * 2 + 1) (.d (.int .i64 y)) = liC (l.set i ⟨x, y⟩)
  | a :: l, 0, _ => rfl
  | a :: l, i + 1, h => by
    have ih := liC_set x y (l := l) (i := i) (by simpa using h)
    rw [liC_cons, show (i + 1) * 2 = i * 2 + 1 + 1 by omega, List.set_cons_succ, List.set_cons_succ, List.set_cons_succ, List.set_cons_succ, ih, List.set_cons_succ, liC_cons]
theorem chunk_li : ∀ l : List Rg, chunk 2 l.length (l.map rgD).flatten = l.map rgD
  | [] => rfl
  | a :: l => by
    have ih := chunk_li l
    rw [List.length_cons, List.map_cons, List.flatten_cons, chunk]
    have e1 : (rgD a ++ (l.map rgD).flatten).take 2 = rgD a := rfl
    have e2 : (rgD a ++ (l.map rgD).flatten).drop 2 = (l.map rgD).flatten := rfl
    rw [e1, e2, ih]
set_option maxHeartbeats 1000000 in
theorem clone75 (r : Rg) (l : List Rg) (hn : l.length ≤ 1000) (H : List AB) : ACall Try.prog 75 [rgs (r :: l)] H (one (.c (.vs H.length (l.length + 1))) (H ++ [.vec (l.length + 1) 2 (liC (r :: l))])) := by
  refine acall_fitE (bad := []) (kp := kp75) (X := txv) (nt := 8) (rs := [.tmp 2]) Try.func75 rfl rfl rfl rfl mo (by kernel_rfl) (fun hf => ?_)
  have q1 : ((rgD r).length == 2 && l.all fun x => (rgD x).length == 2) = true := by simp [rgD]
  have q2 : List.map C.d (rgD r ++ (List.map rgD l).flatten) = liC (r :: l) := liC_eq (r :: l)
  have q3 : (decide ((l.length + 1 + (l.length + 1) / 4 + 256) * 16 ≤ 281474976710656) && decide (l.length ≤ 140737488355327)) = true := by simp; omega
  simp (maxSteps := 2000000) only [go_sem, reduceIte, Nat.reduceEqDiff, Nat.reduceAdd, Nat.reduceLT, Nat.reduceLeDiff, Nat.reduceMul, List.replicate_succ, lk75, lk64, txv_vm, txv_tt, rgs, nilS, nilOp, sureC, List.map_cons, q1, q2, vecS]
  refine ⟨q3, ?_⟩
  exact ⟨rfl, rfl⟩
theorem clone75' (l : List Rg) (h : 0 < l.length) (hn : l.length ≤ 1000) (H : List AB) : ACall Try.prog 75 [rgs l] H (one (.c (.vs H.length l.length)) (H ++ [.vec l.length 2 (liC l)])) := by
  cases l with
  | nil => simp at h
  | cons a l => exact clone75 a l (by simp at hn; omega) H
/-- What a test tells. -/
def tdO (l : La) (k : Nat) (r : Rg) : Bool := tsO l k r && !dbB (tsL l k r)
def tdN (l : La) (k : Nat) (r : Rg) : Int := if tdO l k r then spHi (tsL l k r) - spLo (tsL l k r) else 0
theorem sum_range {w f : Nat → Int} {n : Nat} (hw : ∀ k, k < n → 0 ≤ w k ∧ w k ≤ 1000) (hf : ∀ k, k < n → 0 ≤ f k ∧ f k ≤ 200) : 0 ≤ sumW w f n ∧ sumW w f n ≤ n * 200000 := by
  induction n with
  | zero => exact ⟨Int.le_refl _, Int.le_refl _⟩
  | succ n ih =>
    have ih := ih (fun k hk => hw k (by omega)) (fun k hk => hf k (by omega))
    have a := hw n (by omega)
    have b := hf n (by omega)
    have m0 := Int.mul_nonneg a.1 b.1
    have m1 := Int.mul_le_mul a.2 b.2 b.1 (by decide : (0 : Int) ≤ 1000)
    rw [sumW]; omega
theorem spLo_range {l : La} (ok : OkLa l) : 0 ≤ spLo l ∧ spLo l ≤ 20000000 := by
  have := ok.n91
  have := sum_range (f := bl l) ok.wr (fun k hk => bl_range ok hk)
  unfold spLo; omega
theorem spHi_range {l : La} (ok : OkLa l) : 0 ≤ spHi l ∧ spHi l ≤ 20000000 := by
  have := ok.n91
  have := sum_range (f := bh l) ok.wr (fun k hk => bh_range ok hk)
  unfold spHi; omega
set_option maxHeartbeats 4000000 in
theorem tested64a (l : La) (ok : OkLa l) (h10 : l.an.length ≤ 10) (k : Nat) (hk : k < l.we.length) (r : Rg) (hr : 0 ≤ r.lo ∧ r.lo ≤ r.hi ∧ r.hi ≤ 200) (ha : angN l k < l.an.length) :
    Pure Try.prog 64 [tbV l, I k, rgV r] (.tup [I (tdN l k r), B (tdO l k r)]) := by
  refine pure_wkE (bad := [5, 7, 10, 11, 12, 10008]) (kp := kp64) (X := txv) (nt := 174) (rs := [.tmp 6, .tmp 7]) Try.func64 rfl rfl rfl rfl mo (by kernel_rfl) rfl rfl (fun hf => ?_)
  have m2 := ok.m2
  have m11 := ok.m11
  have hli := ok.li
  have p0 : (0 : Int) < l.an.length := by omega
  have g0 := gI_lt (l := l.an) (i := 0) (by omega)
  have b0 := ok.a0 0 (by omega)
  have n91 := ok.n91.2
  have hP := ang_at ok ha
  have hp := ok.p ha
  have w1 : wr .i64 (gI l.an 0 + (k : Int)) = gI l.an 0 + (k : Int) := wr_in (by omega)
  have hb := bs74 l.an (gI l.an 0 + k) (fun i j hij hj => ok.le hij hj) (by clear w1; omega)
  have eb : bsN l.an (gI l.an 0 + k) = angN l k := bsN_eq (Nat.le_of_lt ha) (fun q hq => by have := ok.lt hq ha; clear w1; omega) (fun q h1 h2 => by have := ok.le h1 h2; clear w1; omega)
  have hbt : (decide (angN l k < l.an.length) && decide (gI l.an (angN l k) = gI l.an 0 + k)) = true := by
    rw [decide_eq_true ha, decide_eq_true (by clear w1; omega)]; rfl
  rw [eb, hbt] at hb
  unfold ints at hb
  have hcl := clone75' l.li (by clear w1; omega) (by clear w1; omega)
  unfold rgs at hcl
  obtain ⟨rl, rh⟩ := r
  simp (maxSteps := 2000000) only [go_sem, reduceIte, Nat.reduceEqDiff, Nat.reduceAdd, Nat.reduceLeDiff, Nat.reduceBEq, Int.reduceLE, Int.reduceToNat, List.replicate_succ, lk75, lk64, txv_vm, txv_tt, tbV, tbD_len, tbD_an, nn, p0, g0, iD, w1, rgV, rgC]
  refine aops_pure' (hb) rfl rfl (by first | exact wk_refls _ | (repeat constructor)) ?_
  have t3 : (List.drop 3 (tbD l)) = .sl (l.we.map iD) :: (tbD l).drop 4 := rfl
  have t2 : (List.drop 2 (tbD l)) = .sl (l.fa.map bD) :: (tbD l).drop 3 := rfl
  have t1 : (List.drop 1 (tbD l)) = .sl (l.li.map rgD) :: (tbD l).drop 2 := rfl
  have t1' : (tbD l).tail = .sl (l.li.map rgD) :: (tbD l).drop 2 := rfl
  simp (maxSteps := 2000000) only [go_sem, reduceIte, Nat.reduceEqDiff, Nat.reduceAdd, Nat.reduceLT, Nat.reduceLeDiff, Nat.reduceBEq, List.replicate_succ, lk75, lk64, tbD_len, tbD_an, t1, t1', t2, t3, List.length_cons, List.getElem?_cons_zero]
  refine ⟨pairsOk_ord (by kernel_rfl), ?_⟩
  refine aops_at (hcl _) rfl rfl (by first | exact wk_refls _ | (repeat constructor)) ?_
  have hal : angN l k < l.li.length := by clear w1; omega
  have hal' : (angN l k : Int) < l.li.length := by clear w1; omega
  have ll := liC_len l.li
  obtain ⟨x1, x2⟩ := liC_at hal
  obtain ⟨ns, en⟩ : ∃ ns, ns = (tsA l k ⟨rl, rh⟩).li := ⟨_, rfl⟩
  have en1 : ns = l.li.set (angN l k) ⟨max (gR l.li (angN l k)).lo rl, min (gR l.li (angN l k)).hi rh⟩ := en
  have enl : ns.length = l.li.length := by rw [en1, List.length_set]
  have x3 : ((liC l.li).set (angN l k * 2) (.d (.int .i64 (max rl (gR l.li (angN l k)).lo)))).set (angN l k * 2 + 1) (.d (.int .i64 (min rh (gR l.li (angN l k)).hi))) = liC ns := by
    rw [liC_set _ _ hal, en1, Int.max_comm, Int.min_comm]
  have ll2 : (liC ns).length = l.li.length * 2 := by rw [liC_len, enl]
  obtain ⟨x4, x5⟩ := liC_at (l := ns) (i := angN l k) (by rw [enl]; exact hal)
  have eg : gR ns (angN l k) = inter (gR l.li (angN l k)) ⟨rl, rh⟩ := by rw [en1, gR_set hal, if_pos rfl]; rfl
  rw [eg] at x4 x5
  have c1 : decide (angN l k * 2 + 1 ≤ l.li.length * 2) = true := by rw [decide_eq_true_eq]; omega
  have c2 : decide (angN l k * 2 + 1 + 1 ≤ l.li.length * 2) = true := by rw [decide_eq_true_eq]; omega
  have hto := tsO_a ha ⟨rl, rh⟩
  have ets := tsL_a ha ⟨rl, rh⟩
  generalize inter (gR l.li (angN l k)) ⟨rl, rh⟩ = q at *
  simp (maxSteps := 2000000) only [go_sem, reduceIte, Nat.reduceEqDiff, Nat.reduceAdd, Nat.reduceLT, Nat.reduceLeDiff, Nat.reduceBEq, List.replicate_succ, lk75, lk64, hal', nn, ll, ll2, c1, c2, x1, x2, x3, x4, x5, maxL1, minL1]
  refine ⟨pairsOk_ord (by kernel_rfl), ?_⟩
  have fe : ns.length = l.li.length → ∃ ds, toDs (liC ns) = some ds ∧ chunk 2 l.li.length ds = ns.map rgD := fun h => ⟨_, by rw [← liC_eq]; exact toDs_d _, by rw [← h]; exact chunk_li ns⟩
  obtain ⟨ds, fe1, fe2⟩ := fe enl
  refine stop_mk { slots := [(11, .c (.ptr 1 0)), (93, B (decide (q.hi < q.lo)))], heap := [.cells [.d (.int .i64 rl), .d (.int .i64 rh)], .cells [.d (.sl (l.an.map iD)), .d (.sl (ns.map rgD)), .d (.sl (l.fa.map bD)), .d (.sl (l.we.map iD))], .gone], marks := [] } (ent_fzvec 2 (n := l.li.length) (sz := 2) (cs := liC ns) (ds := ds) rfl fe1 (by decide) (by unfold lim; omega) rfl ?_ ?_) ?_
  · rw [fe2]
    simp [fzNB, fzN]
  · intro i
    by_cases e1 : i = 11
    · subst e1; exact .inl rfl
    by_cases e2 : i = 93
    · subst e2; exact .inl rfl
    exact .inr (by simp only [getS]; rw [if_neg (fun h => e1 h.symm), if_neg (fun h => e2 h.symm)])
  by_cases c : q.hi < q.lo
  · have eo : tdO l k ⟨rl, rh⟩ = false := by unfold tdO; rw [hto, decide_eq_false (by omega)]; rfl
    have en2 : tdN l k ⟨rl, rh⟩ = 0 := by unfold tdN; rw [eo]; rfl
    simp (maxSteps := 2000000) only [go_sem, reduceIte, Nat.reduceEqDiff, Nat.reduceAdd, Nat.reduceBEq, List.replicate_succ, lk75, lk64, c, eo, en2]
    all_goals first | exact .refl _ | exact ⟨.refl _, .refl _⟩ | exact ⟨.refl _, .refl _, .refl _⟩ | exact ⟨.refl _, _, rfl⟩ | exact ⟨_, rfl⟩ | exact ⟨.refl _, [], by simp⟩ | exact ⟨[], by simp⟩
  have hto : tsO l k ⟨rl, rh⟩ = true := by rw [hto, decide_eq_true (by omega)]
  have okT := ts_ok ok h10 hk hr hto
  rw [ets] at okT
  have eoo : tdO l k ⟨rl, rh⟩ = !dbB (tsA l k ⟨rl, rh⟩) := by unfold tdO; rw [hto, ets]; rfl
  have enn : tdN l k ⟨rl, rh⟩ = if tdO l k ⟨rl, rh⟩ then spHi (tsA l k ⟨rl, rh⟩) - spLo (tsA l k ⟨rl, rh⟩) else 0 := by unfold tdN; rw [ets]
  have n91T := okT.n91.2
  have hc := clash55 _ okT
  have hz := clash_zero okT
  have hsome := clash_some (l := tsA l k ⟨rl, rh⟩)
  have hiff := clash_iff okT
  have ht := table73 _ okT
  have hs := span58 _ okT
  have hlo := spLo_range okT
  have hhi := spHi_range okT
  have elv : laC (tsA l k ⟨rl, rh⟩) = [.d (.sl (l.an.map iD)), .d (.sl (ns.map rgD)), .d (.sl (l.fa.map bD)), .d (.sl (l.we.map iD))] := by rw [en]; rfl
  generalize tsA l k ⟨rl, rh⟩ = T at *
  unfold laV at hc ht
  rw [elv] at hc ht
  unfold pairV pairC at hc
  unfold tbV at ht hs
  unfold rgV rgC at hs
  simp (maxSteps := 2000000) only [go_sem, reduceIte, Nat.reduceEqDiff, Nat.reduceAdd, Nat.reduceBEq, List.replicate_succ, lk75, lk64, c]
  refine aops_pure' (hc) rfl rfl (by first | exact wk_refls _ | (repeat constructor)) ?_
  cases hd : dbB T with
  | true =>
    obtain ⟨s1, s2, s3⟩ := hsome (hiff.1 hd)
    have hne : ¬ ((clashF T).2 : Int) = 0 := by clear w1; omega
    rw [hd] at eoo
    rw [eoo] at enn
    have enn : tdN l k ⟨rl, rh⟩ = 0 := enn
    have eoo : tdO l k ⟨rl, rh⟩ = false := eoo
    simp (maxSteps := 2000000) only [go_sem, reduceIte, Nat.reduceEqDiff, Nat.reduceAdd, Nat.reduceBEq, List.replicate_succ, lk75, lk64, hne, decide_false, Bool.and_false, Bool.not_false, eoo, enn]
    all_goals first | exact .refl _ | exact ⟨.refl _, .refl _⟩ | exact ⟨.refl _, .refl _, .refl _⟩ | exact ⟨.refl _, _, rfl⟩ | exact ⟨_, rfl⟩ | exact ⟨.refl _, [], by simp⟩ | exact ⟨[], by simp⟩
  | false =>
    have hp := hz.2 hd
    rw [hd] at eoo
    rw [eoo] at enn
    have enn : tdN l k ⟨rl, rh⟩ = spHi T - spLo T := enn
    have eoo : tdO l k ⟨rl, rh⟩ = true := eoo
    have ws : wr .i64 (spHi T - spLo T) = spHi T - spLo T := wr_in (by clear w1; omega)
    simp (maxSteps := 2000000) only [go_sem, reduceIte, Nat.reduceEqDiff, Nat.reduceAdd, Nat.reduceBEq, List.replicate_succ, lk75, lk64, hp]
    refine aops_pure' (ht) rfl rfl (by first | exact wk_refls _ | (repeat constructor)) ?_
    simp (maxSteps := 2000000) only [go_sem, reduceIte, Nat.reduceEqDiff, List.replicate_succ, lk75, lk64]
    refine aops_pure' (hs) rfl rfl (by first | exact wk_refls _ | (repeat constructor)) ?_
    simp (maxSteps := 2000000) only [go_sem, reduceIte, Nat.reduceEqDiff, Nat.reduceAdd, Nat.reduceLeDiff, Nat.reduceBEq, List.replicate_succ, lk75, lk64, ws, eoo, enn]
    all_goals first | exact .refl _ | exact ⟨.refl _, .refl _⟩ | exact ⟨.refl _, .refl _, .refl _⟩ | exact ⟨.refl _, _, rfl⟩ | exact ⟨_, rfl⟩ | exact ⟨.refl _, [], by simp⟩ | exact ⟨[], by simp⟩
end Go.Proofs.Ytliamojogmlgjaa
