/- Zones: Bounds, of the document's answer. -/
import Derived.Test.YtliamojogmlgjaaZ4
set_option linter.unusedSimpArgs false
set_option linter.unusedVariables false
set_option maxRecDepth 100000
namespace Go.Proofs.Ytliamojogmlgjaa
open Go Go.Abs Go.Proofs
def kp56 : List (Nat × List Nat) := [(0, [1]), (1, [1, 4, 5]), (2, [1, 4, 5, 6]), (3, [1, 4, 5, 6, 17]), (4, [1, 4, 5, 6]), (5, [1, 4, 5, 6]), (6, [1, 4, 5, 7]), (7, [1, 4, 5, 7, 30]), (8, [1, 4, 5, 7]), (9, [1, 4, 5, 7, 8]), (10, [1, 4, 5, 7]), (11, [1, 4, 5, 9]), (12, [1, 4, 5, 9, 64]), (13, [1, 4, 5, 9]), (14, [1, 4, 5, 9, 10]), (15, [1, 4, 5, 9, 10, 70]), (16, [1, 4, 5, 9, 10]), (17, [1, 4, 5, 9, 10, 11, 12]), (18, [1, 4, 5, 9, 10, 11, 12, 87]), (19, [1, 4, 5, 9, 10, 11, 12]), (20, [1, 4, 5, 9, 10, 11, 12]), (21, [1, 4, 5, 9, 10]), (22, [2, 3])]
theorem lk56 : lookK kp56 0 = some [1] ∧ lookK kp56 1 = some [1, 4, 5] ∧ lookK kp56 2 = some [1, 4, 5, 6] ∧ lookK kp56 3 = some [1, 4, 5, 6, 17] ∧ lookK kp56 4 = some [1, 4, 5, 6] ∧ lookK kp56 5 = some [1, 4, 5, 6] ∧ lookK kp56 6 = some [1, 4, 5, 7] ∧ lookK kp56 7 = some [1, 4, 5, 7, 30] ∧ lookK kp56 8 = some [1, 4, 5, 7] ∧ lookK kp56 9 = some [1, 4, 5, 7, 8] ∧ lookK kp56 10 = some [1, 4, 5, 7] ∧ lookK kp56 11 = some [1, 4, 5, 9] ∧ lookK kp56 12 = some [1, 4, 5, 9, 64] ∧ lookK kp56 13 = some [1, 4, 5, 9] ∧ lookK kp56 14 = some [1, 4, 5, 9, 10] ∧ lookK kp56 15 = some [1, 4, 5, 9, 10, 70] ∧ lookK kp56 16 = some [1, 4, 5, 9, 10] ∧ lookK kp56 17 = some [1, 4, 5, 9, 10, 11, 12] ∧ lookK kp56 18 = some [1, 4, 5, 9, 10, 11, 12, 87] ∧ lookK kp56 19 = some [1, 4, 5, 9, 10, 11, 12] ∧ lookK kp56 20 = some [1, 4, 5, 9, 10, 11, 12] ∧ lookK kp56 21 = some [1, 4, 5, 9, 10] ∧ lookK kp56 22 = some [2, 3] := ⟨rfl, rfl, rfl, rfl, rfl, rfl, rfl, rfl, rfl, rfl, rfl, rfl, rfl, rfl, rfl, rfl, rfl, rfl, rfl, rfl, rfl, rfl, rfl⟩

def numsC (n : Nat) (f : Nat → Int) : List C := (List.range n).map fun k => .d (.int .i64 (f k))
def numsD (n : Nat) (f : Nat → Int) : List D := (List.range n).map fun k => .int .i64 (f k)
def fl (n : Nat) (f : Nat → Int) : List Int := (List.range n).map f
theorem numsC_d (n : Nat) (f : Nat → Int) : numsC n f = (numsD n f).map .d := by simp [numsC, numsD]
theorem numsC_len (n : Nat) (f : Nat → Int) : (numsC n f).length = n := by simp [numsC]
theorem numsC_get {n : Nat} {f : Nat → Int} {k : Nat} (h : k < n) : (numsC n f)[k]? = some (.d (.int .i64 (f k))) := by simp [numsC, h]
theorem numsC_ext {n : Nat} {f g : Nat → Int} (h : ∀ k, k < n → f k = g k) : numsC n f = numsC n g := by
  unfold numsC
  exact List.map_congr_left fun k hk => by rw [h k (List.mem_range.1 hk)]
theorem numsC_set {n : Nat} {f : Nat → Int} {k : Nat} {v : Int} : (numsC n f).set k (.d (.int .i64 v)) = numsC n (upd f k v) := by
  refine List.ext_getElem? fun j => ?_
  rw [List.getElem?_set, numsC_len]
  by_cases hj : j < n
  · by_cases e : k = j
    · subst e; simp [numsC, hj, upd]
    · rw [if_neg e, numsC_get hj, numsC_get hj, upd, if_neg (fun h => e h.symm)]
  · have e1 : (numsC n f)[j]? = none := List.getElem?_eq_none (by rw [numsC_len]; omega)
    have e2 : (numsC n (upd f k v))[j]? = none := List.getElem?_eq_none (by rw [numsC_len]; omega)
    rw [e1, e2]
    by_cases e : k = j
    · subst e; simp [hj]
    · simp [e]
theorem numsC_low (m n : Nat) (f : Nat → Int) : C.lowL m (numsC n f) = true := by rw [numsC_d]; exact lowL_d _ _
theorem laC_low (m : Nat) (l : La) : C.lowL m (laC l) = true := rfl
theorem numsC_snoc (n : Nat) (f : Nat → Int) : numsC (n + 1) f = numsC n f ++ [.d (.int .i64 (f n))] := by simp [numsC, List.range_succ]
theorem zero_nums (n : Nat) : List.replicate n (C.d (.int .i64 0)) = numsC n (fun _ => 0) := by
  refine List.ext_getElem? fun j => ?_
  by_cases hj : j < n
  · rw [numsC_get hj]; simp [hj]
  · rw [List.getElem?_eq_none (by simp; omega), List.getElem?_eq_none (by rw [numsC_len]; omega)]
theorem fl_len (n : Nat) (f : Nat → Int) : (fl n f).length = n := by simp [fl]
theorem fl_get {n : Nat} (f : Nat → Int) {k : Nat} (h : k < n) : gI (fl n f) k = f k := by simp [fl, gI, List.getD, h]
theorem maxL1 (a b : Int) : maxL a [b] = max a b := by simp [maxL]
theorem minL1 (a b : Int) : minL a [b] = min a b := by simp [minL]
theorem toDs_nums (n : Nat) (f : Nat → Int) : toDs (numsC n f) = some (numsD n f) := by rw [numsC_d]; exact toDs_d _
theorem chunk_one : ∀ (l : List D), chunk 1 l.length l = l.map fun x => [x]
  | [] => rfl
  | a :: l => by simp only [List.length_cons, chunk, List.map_cons]; simp only [List.take_succ_cons, List.take_zero, List.drop_succ_cons, List.drop_zero]; rw [chunk_one l]
theorem chunk_nums (n : Nat) (f : Nat → Int) : chunk 1 n (numsD n f) = (fl n f).map iD := by
  have := chunk_one (numsD n f)
  rw [show (numsD n f).length = n by simp [numsD]] at this
  rw [this]; simp [numsD, fl, iD]
theorem getS_map (f : V → V) (hf : f (.c .any) = .c .any) : ∀ (sl : List (Nat × V)) (i : Nat), getS (sl.map fun p => (p.1, f p.2)) i = f (getS sl i)
  | [], i => hf.symm
  | (j, v) :: sl, i => by
    simp only [List.map_cons, getS]
    split
    · rfl
    · exact getS_map f hf sl i
theorem fz_nums (id m n : Nat) (d : D) (f : Nat → Int) : (numsC n f).map (fzN id m d) = numsC n f := by simp [numsC, fzN]
def HBo (l : La) (n m : Nat) (f g : Nat → Int) : List AB := [.cells (laC l), .vec n 1 (numsC n f), .vec m 1 (numsC m g)]
theorem HBo_low (l : La) (n m : Nat) (f g : Nat → Int) : (HBo l n m f g).all (AB.low 3) = true := by
  simp only [HBo, List.all_cons, List.all_nil, AB.low, numsC_low, laC_low, Bool.and_self]
theorem L0m_zero (l : La) : L0m l 0 = fun _ => 0 := funext fun k => by unfold L0m; rw [if_neg (by omega)]
theorem H0m_zero (l : La) : H0m l 0 = fun _ => 200 := funext fun k => by unfold H0m; rw [if_neg (by omega)]
theorem vec_ok {n : Nat} (h : n ≤ 1000000) : (decide ((n + 1 + (n + 1) / 4 + 256) * 8 ≤ 281474976710656) && decide (n ≤ 140737488355327)) = true := by simp; omega
theorem wr_pred' (j : Nat) (h : j < 1000) : wr .i64 (((j + 1 : Nat) : Int) - 1) = (j : Int) := by rw [wr_in (by omega)]; omega
def slotsB (n : Nat) (r : List (Nat × V)) : List (Nat × V) := [(1, .c (.ptr 0 0)), (4, .c (.vs 1 n)), (5, .c (.vs 2 n))] ++ r
set_option maxHeartbeats 8000000 in
theorem bounds56 (l : La) (h : OkLa l) : Pure Try.prog 56 [laV l] (.tup [ints (fl l.we.length (bl l)), ints (fl l.we.length (bh l))]) := by
  refine pure_wkE (bad := [10, 20, 21, 10012]) (kp := kp56) (X := txv) (nt := 117) (rs := [.tmp 2, .tmp 3]) Try.func56 rfl rfl rfl rfl mo (by kernel_rfl) rfl rfl (fun hf => ?_)
  obtain ⟨n2, n91⟩ := h.n91
  have m2 := h.m2
  have m11 := h.m11
  have hli := h.li
  have hfa := h.fa
  have hwe := h.we
  simp (maxSteps := 2000000) only [go_sem, reduceIte, Nat.reduceEqDiff, Nat.reduceAdd, Nat.reduceBEq, List.replicate_succ, lk56, laV, laC]
  refine goE_loop (bad := [10, 20, 21, 10012]) (kp := kp56) (fun k : Nat => { slots := slotsB k [(6, I k)], heap := HBo l k k (fun _ => 0) (fun _ => 200), marks := [] }) (fun k => k ≤ l.we.length) (fun k => l.we.length - k) 0 mo (by kernel_rfl) ?_ (Nat.zero_le _) ?_
  · refine Ent.trans (ent_vec 4 1 rfl) ?_
    refine Ent.trans (ent_vec 5 1 rfl) ?_
    refine ent_weaken [] rfl rfl (Nat.zero_le _) (HBo_low _ _ _ _ _) rfl ?_
    simp (maxSteps := 2000000) only [go_sem, reduceIte, Nat.reduceEqDiff, Nat.reduceAdd, List.replicate_succ, lk56, slotsB, List.cons_append, List.nil_append]
    all_goals first | exact .refl _ | exact ⟨.refl _, .refl _⟩ | exact ⟨.refl _, .refl _, .refl _⟩ | exact ⟨.refl _, _, rfl⟩ | exact ⟨_, rfl⟩ | exact ⟨.refl _, [], by simp⟩ | exact ⟨[], by simp⟩
  rintro k hk
  simp (maxSteps := 2000000) only [go_sem, reduceIte, Nat.reduceEqDiff, Nat.reduceAdd, Nat.reduceBEq, List.replicate_succ, lk56, slotsB, HBo, laC, List.cons_append, List.nil_append]
  by_cases hlt : k < l.we.length
  · have hlt' : (k : Int) < l.we.length := by omega
    have e1 := numsC_snoc k (fun _ => 0)
    have e2 := numsC_snoc k (fun _ => 200)
    have m1 : l.we.length - (k + 1) < l.we.length - k := by omega
    have vo := vec_ok (n := k) (by omega)
    have w7 := wr_succ hlt (show l.we.length ≤ 140737488355328 by omega)
    simp (maxSteps := 2000000) only [go_sem, reduceIte, Nat.reduceEqDiff, Nat.reduceAdd, Nat.reduceLT, Nat.reduceLeDiff, Nat.reduceBEq, Nat.reduceMul, List.replicate_succ, lk56, hlt', w7, ← e1, ← e2]
    refine ⟨vo, vo, k + 1, hlt, m1, ?_⟩
    refine ent_weaken [] rfl rfl (Nat.zero_le _) (HBo_low _ _ _ _ _) rfl ?_
    simp (maxSteps := 2000000) only [go_sem, reduceIte, Nat.reduceEqDiff, Nat.reduceAdd, Nat.reduceLT, List.replicate_succ, lk56, slotsB, HBo, List.cons_append, List.nil_append]
    all_goals first | exact .refl _ | exact ⟨.refl _, .refl _⟩ | exact ⟨.refl _, .refl _, .refl _⟩ | exact ⟨.refl _, _, rfl⟩ | exact ⟨_, rfl⟩ | exact ⟨.refl _, [], by simp⟩ | exact ⟨[], by simp⟩
  have hlt' : ¬ (k : Int) < l.we.length := by omega
  have ek : k = l.we.length := by omega
  subst ek
  simp (maxSteps := 2000000) only [go_sem, reduceIte, Nat.reduceEqDiff, Nat.reduceAdd, Nat.reduceBEq, List.replicate_succ, lk56, hlt']
  clear hlt hlt' hk
  refine goE_loop (bad := [10, 20, 21, 10012]) (kp := kp56) (fun i : Nat => { slots := slotsB l.we.length [(7, I i)], heap := HBo l l.we.length l.we.length (L0m l i) (H0m l i), marks := [] }) (fun i => i ≤ l.an.length) (fun i => l.an.length - i) 0 mo (by kernel_rfl) ?_ (Nat.zero_le _) ?_
  · refine ent_weaken [] (by rw [L0m_zero, H0m_zero]; rfl) rfl (Nat.zero_le _) (HBo_low _ _ _ _ _) rfl ?_
    simp (maxSteps := 2000000) only [go_sem, reduceIte, Nat.reduceEqDiff, Nat.reduceAdd, Nat.reduceLT, List.replicate_succ, lk56, slotsB, HBo, List.cons_append, List.nil_append]
    all_goals first | exact .refl _ | exact ⟨.refl _, .refl _⟩ | exact ⟨.refl _, .refl _, .refl _⟩ | exact ⟨.refl _, _, rfl⟩ | exact ⟨_, rfl⟩ | exact ⟨.refl _, [], by simp⟩ | exact ⟨[], by simp⟩
  rintro i hi
  simp (maxSteps := 2000000) only [go_sem, reduceIte, Nat.reduceEqDiff, Nat.reduceAdd, Nat.reduceLeDiff, Nat.reduceBEq, List.replicate_succ, lk56, slotsB, HBo, laC, List.cons_append, List.nil_append]
  by_cases hlt : i < l.an.length
  · have hlt' : (i : Int) < l.an.length := by omega
    have hlr : (i : Int) < l.li.length := by omega
    have p0 : (0 : Int) < l.an.length := by omega
    have g0 := gI_lt (l := l.an) (i := 0) (by omega)
    have g1 := gI_lt hlt
    have g2 := gR_lt (l := l.li) (i := i) (by omega)
    have hP := h.p hlt
    have hPn := (lay h).lt hlt
    have hPn' : (P l i : Int) < l.we.length := by omega
    have m1 : l.an.length - (i + 1) < l.an.length - i := by omega
    have u1 := L0m_upd h hlt
    have u2 := H0m_upd h hlt
    have c1 : decide (P l i + 1 ≤ l.we.length) = true := by simp; omega
    have c2 : decide (P l i ≤ l.we.length - 1) = true := by simp; omega
    have hr := h.a0 i hlt
    have hr0 := h.a0 0 (by omega)
    have w1 : wr .i64 (gI l.an i - gI l.an 0) = (P l i : Int) := by rw [wr_in (by omega)]; omega
    have w7 := wr_succ hlt (show l.an.length ≤ 140737488355328 by clear w1; omega)
    simp (maxSteps := 2000000) only [go_sem, reduceIte, Nat.reduceEqDiff, Nat.reduceAdd, Nat.reduceLT, Nat.reduceLeDiff, Nat.reduceBEq, Int.reduceLE, Int.reduceToNat, List.replicate_succ, lk56, hlt', nn, p0, g0, g1, iD, w1, hlr, g2, rgD, hPn', numsC_len, numsC_set, Nat.mul_one, c1, u1, u2, w7]
    refine ⟨pairsOk_ord (by kernel_rfl), i + 1, hlt, m1, ?_⟩
    refine ent_weaken [] rfl rfl (Nat.zero_le _) (HBo_low _ _ _ _ _) rfl ?_
    simp (maxSteps := 2000000) only [go_sem, reduceIte, Nat.reduceEqDiff, Nat.reduceAdd, Nat.reduceLT, List.replicate_succ, lk56, slotsB, HBo, List.cons_append, List.nil_append]
    all_goals first | exact .refl _ | exact ⟨.refl _, .refl _⟩ | exact ⟨.refl _, .refl _, .refl _⟩ | exact ⟨.refl _, _, rfl⟩ | exact ⟨_, rfl⟩ | exact ⟨.refl _, [], by simp⟩ | exact ⟨[], by simp⟩
  have hlt' : ¬ (i : Int) < l.an.length := by omega
  have ei : i = l.an.length := by omega
  subst ei
  simp (maxSteps := 2000000) only [go_sem, reduceIte, Nat.reduceEqDiff, Nat.reduceAdd, Nat.reduceBEq, List.replicate_succ, lk56, hlt']
  clear hlt hlt' hi
  refine goE_loop (bad := [10, 20, 21, 10012]) (kp := kp56) (fun r : Nat => { slots := slotsB l.we.length [(9, I r)], heap := HBo l l.we.length l.we.length (roundsL l.we.length (dir l) (L0 l) r) (roundsH l.we.length (dir l) (H0 l) r), marks := [] }) (fun r => r ≤ l.we.length) (fun r => l.we.length - r) 0 mo (by kernel_rfl) ?_ (Nat.zero_le _) ?_
  · refine ent_weaken [] rfl rfl (Nat.zero_le _) (HBo_low _ _ _ _ _) rfl ?_
    simp (maxSteps := 2000000) only [go_sem, reduceIte, Nat.reduceEqDiff, Nat.reduceAdd, Nat.reduceLT, List.replicate_succ, lk56, slotsB, HBo, List.cons_append, List.nil_append]
    all_goals first | exact .refl _ | exact ⟨.refl _, .refl _⟩ | exact ⟨.refl _, .refl _, .refl _⟩ | exact ⟨.refl _, _, rfl⟩ | exact ⟨_, rfl⟩ | exact ⟨.refl _, [], by simp⟩ | exact ⟨[], by simp⟩
  rintro r hr
  simp (maxSteps := 2000000) only [go_sem, reduceIte, Nat.reduceEqDiff, Nat.reduceAdd, Nat.reduceBEq, List.replicate_succ, lk56, slotsB, HBo, laC, List.cons_append, List.nil_append]
  by_cases hlt : r < l.we.length
  · have hlt' : (r : Int) < l.we.length := by omega
    have mr : l.we.length - (r + 1) < l.we.length - r := by omega
    simp (maxSteps := 2000000) only [go_sem, List.replicate_succ, lk56, hlt']
    refine stop_mk _ Ent.refl ?_
    simp (maxSteps := 2000000) only [go_sem, reduceIte, Nat.reduceEqDiff, Nat.reduceAdd, Nat.reduceBEq, List.replicate_succ, lk56]
    refine goE_loop (bad := [10, 20, 21, 10012]) (kp := kp56) (fun m : Nat => { slots := slotsB l.we.length [(9, I r), (10, I ((m + 1 : Nat) : Int))], heap := HBo l l.we.length l.we.length (sweepL (dir l) (roundsL l.we.length (dir l) (L0 l) r) m) (sweepH (dir l) (roundsH l.we.length (dir l) (H0 l) r) m), marks := [] }) (fun m => m + 1 ≤ l.we.length) (fun m => l.we.length - m) 0 mo (by kernel_rfl) ?_ (by omega) ?_
    · refine ent_weaken [] rfl rfl (Nat.zero_le _) (HBo_low _ _ _ _ _) rfl ?_
      simp (maxSteps := 2000000) only [go_sem, reduceIte, Nat.reduceEqDiff, Nat.reduceAdd, Nat.reduceLT, List.replicate_succ, lk56, slotsB, HBo, List.cons_append, List.nil_append]
      all_goals first | exact .refl _ | exact ⟨.refl _, .refl _⟩ | exact ⟨.refl _, .refl _, .refl _⟩ | exact ⟨.refl _, _, rfl⟩ | exact ⟨_, rfl⟩ | exact ⟨.refl _, [], by simp⟩ | exact ⟨[], by simp⟩
    rintro m hm
    simp (maxSteps := 2000000) only [go_sem, reduceIte, Nat.reduceEqDiff, Nat.reduceAdd, Nat.reduceBEq, List.replicate_succ, lk56, slotsB, HBo, laC, List.cons_append, List.nil_append]
    by_cases hml : m + 1 < l.we.length
    · have hml' : ((m + 1 : Nat) : Int) < l.we.length := by omega
      have hm0 : (m : Int) < l.we.length := by omega
      have hp0 : (0 : Int) < l.an.length := by omega
      have g0 := gI_lt (l := l.an) (i := 0) (by omega)
      have hr0 := h.a0 0 (by omega)
      have hdg : gI l.an 0 + ((m + 1 : Nat) : Int) ≤ gI l.an (l.an.length - 1) := by omega
      have hgap := gap53 l (gI l.an 0 + ((m + 1 : Nat) : Int)) m2 m11 hdg
      obtain ⟨gi, q1, q2, q3⟩ := (lay h).gap (k := m + 1) (by omega) hml
      have hgl : gapN l (gI l.an 0 + ((m + 1 : Nat) : Int)) < l.fa.length := by
        have a := h.p (i := gi) (by omega)
        have b := h.p (i := gi + 1) q1
        rw [gap_eq h (i := gi) q1 (by omega) (by omega)]; omega
      have hgl' : ((gapN l (gI l.an 0 + ((m + 1 : Nat) : Int)) : Nat) : Int) < l.fa.length := by omega
      have gf := gB_lt hgl
      have hd : gB l.fa (gapN l (gI l.an 0 + ((m + 1 : Nat) : Int))) = dir l (m + 1) := rfl
      rw [hd] at gf
      have mm : l.we.length - (m + 1) < l.we.length - m := by omega
      have c1 : decide (m + 1 ≤ l.we.length) = true := by simp; omega
      have c2 : decide (m + 1 + 1 ≤ l.we.length) = true := by simp; omega
      have hm1 : m < l.we.length := by omega
      have v1 := fun f : Nat → Int => numsC_get (f := f) hm1
      have v2 := fun f : Nat → Int => numsC_get (f := f) hml
      have eL : sweepL (dir l) (roundsL l.we.length (dir l) (L0 l) r) (m + 1) = stepL (dir l) (sweepL (dir l) (roundsL l.we.length (dir l) (L0 l) r) m) (m + 1) := rfl
      have eH : sweepH (dir l) (roundsH l.we.length (dir l) (H0 l) r) (m + 1) = stepH (dir l) (sweepH (dir l) (roundsH l.we.length (dir l) (H0 l) r) m) (m + 1) := rfl
      generalize sweepL (dir l) (roundsL l.we.length (dir l) (L0 l) r) m = F at *
      generalize sweepH (dir l) (roundsH l.we.length (dir l) (H0 l) r) m = G at *
      generalize gapN l (gI l.an 0 + ((m + 1 : Nat) : Int)) = gq at *
      have h1000 : m < 1000 := by omega
      have wg : wr .i64 (gI l.an 0 + ((m + 1 : Nat) : Int)) = gI l.an 0 + ((m + 1 : Nat) : Int) := wr_in (by omega)
      have wp : wr .i64 (((m + 1 : Nat) : Int) - 1) = (m : Int) := wr_pred' m h1000
      have w7 := wr_succ hml (Nat.le_trans n91 (by decide))
      unfold laV laC at hgap
      simp (maxSteps := 2000000) only [go_sem, reduceIte, Nat.reduceEqDiff, Nat.reduceAdd, Nat.reduceLeDiff, Nat.reduceBEq, Int.reduceLE, Int.reduceToNat, List.replicate_succ, lk56, hml', wp, hp0, g0, iD, wg]
      refine dops_pure' (hgap) rfl rfl (by first | exact wk_refls _ | (repeat constructor)) (by kernel_rfl) ?_
      cases hdir : dir l (m + 1) with
      | true =>
        have eL2 : stepL (dir l) F (m + 1) = upd F m (max (F m) (F (m + 1))) := by unfold stepL; rw [hdir]; rfl
        have eH2 : stepH (dir l) G (m + 1) = upd G (m + 1) (min (G (m + 1)) (G m)) := by unfold stepH; rw [hdir]; rfl
        rw [hdir] at gf
        simp (maxSteps := 2000000) only [go_sem, reduceIte, Nat.reduceEqDiff, Nat.reduceAdd, Nat.reduceLT, Nat.reduceLeDiff, Nat.reduceBEq, List.replicate_succ, lk56, nn, hgl', gf, bD, wp, hml', hm0, numsC_len, v1, v2, numsC_set, Nat.mul_one, c1, c2, maxL1, minL1, Int.toNat_natCast, w7]
        refine ⟨pairsOk_ord (by kernel_rfl), pairsOk_ord (by kernel_rfl), m + 1, hml, mm, ?_⟩
        refine ent_weaken [] (by rw [eL, eH, eL2, eH2]; rfl) rfl (Nat.zero_le _) (HBo_low _ _ _ _ _) rfl ?_
        simp (maxSteps := 2000000) only [go_sem, reduceIte, Nat.reduceEqDiff, Nat.reduceAdd, Nat.reduceLT, List.replicate_succ, lk56, slotsB, HBo, List.cons_append, List.nil_append]
        all_goals first | exact .refl _ | exact ⟨.refl _, .refl _⟩ | exact ⟨.refl _, .refl _, .refl _⟩ | exact ⟨.refl _, _, rfl⟩ | exact ⟨_, rfl⟩ | exact ⟨.refl _, [], by simp⟩ | exact ⟨[], by simp⟩
      | false =>
        have eL2 : stepL (dir l) F (m + 1) = upd F (m + 1) (max (F (m + 1)) (F m)) := by unfold stepL; rw [hdir]; rfl
        have eH2 : stepH (dir l) G (m + 1) = upd G m (min (G m) (G (m + 1))) := by unfold stepH; rw [hdir]; rfl
        rw [hdir] at gf
        simp (maxSteps := 2000000) only [go_sem, reduceIte, Nat.reduceEqDiff, Nat.reduceAdd, Nat.reduceLT, Nat.reduceLeDiff, Nat.reduceBEq, List.replicate_succ, lk56, nn, hgl', gf, bD, wp, hml', hm0, numsC_len, v1, v2, numsC_set, Nat.mul_one, c1, c2, maxL1, minL1, Int.toNat_natCast, w7]
        refine ⟨pairsOk_ord (by kernel_rfl), pairsOk_ord (by kernel_rfl), m + 1, hml, mm, ?_⟩
        refine ent_weaken [] (by rw [eL, eH, eL2, eH2]; rfl) rfl (Nat.zero_le _) (HBo_low _ _ _ _ _) rfl ?_
        simp (maxSteps := 2000000) only [go_sem, reduceIte, Nat.reduceEqDiff, Nat.reduceAdd, Nat.reduceLT, List.replicate_succ, lk56, slotsB, HBo, List.cons_append, List.nil_append]
        all_goals first | exact .refl _ | exact ⟨.refl _, .refl _⟩ | exact ⟨.refl _, .refl _, .refl _⟩ | exact ⟨.refl _, _, rfl⟩ | exact ⟨_, rfl⟩ | exact ⟨.refl _, [], by simp⟩ | exact ⟨[], by simp⟩
    · have hml' : ¬ ((m + 1 : Nat) : Int) < l.we.length := by omega
      have em : m = l.we.length - 1 := by omega
      subst em
      have w7 := wr_succ hlt (show l.we.length ≤ 140737488355328 by omega)
      simp (maxSteps := 2000000) only [go_sem, reduceIte, Nat.reduceEqDiff, Nat.reduceAdd, Nat.reduceBEq, List.replicate_succ, lk56, hml', w7]
      refine ⟨r + 1, hlt, mr, ?_⟩
      refine ent_weaken [] rfl rfl (Nat.zero_le _) (HBo_low _ _ _ _ _) rfl ?_
      simp (maxSteps := 2000000) only [go_sem, reduceIte, Nat.reduceEqDiff, Nat.reduceAdd, Nat.reduceLT, List.replicate_succ, lk56, slotsB, HBo, List.cons_append, List.nil_append]
      all_goals first | exact .refl _ | exact ⟨.refl _, .refl _⟩ | exact ⟨.refl _, .refl _, .refl _⟩ | exact ⟨.refl _, _, rfl⟩ | exact ⟨_, rfl⟩ | exact ⟨.refl _, [], by simp⟩ | exact ⟨[], by simp⟩
  have hlt' : ¬ (r : Int) < l.we.length := by omega
  have er : r = l.we.length := by omega
  subst er
  have e1 : numsC l.we.length (roundsL l.we.length (dir l) (L0 l) l.we.length) = numsC l.we.length (bl l) := numsC_ext fun k hk => rounds_lo (by omega) _ _ hk
  have e2 : numsC l.we.length (roundsH l.we.length (dir l) (H0 l) l.we.length) = numsC l.we.length (bh l) := numsC_ext fun k hk => rounds_hi (by omega) _ _ hk
  simp (maxSteps := 2000000) only [go_sem, List.replicate_succ, lk56, hlt', e1, e2]
  have hl1 : l.we.length ≤ lim := by unfold lim; omega
  refine stop_mk { slots := [(1, .c (.ptr 0 0)), (4, ints (fl l.we.length (bl l))), (5, ints (fl l.we.length (bh l))), (9, I l.we.length), (64, B false)], heap := [.cells (laC l), .gone, .gone], marks := [] } ?_ ?_
  · refine Ent.trans (s1 := { slots := [(1, .c (.ptr 0 0)), (4, ints (fl l.we.length (bl l))), (5, .c (.vs 2 l.we.length)), (9, I l.we.length), (64, B false)], heap := [.cells (laC l), .gone, .vec l.we.length 1 (numsC l.we.length (bh l))], marks := [] }) ?_ ?_
    · refine ent_fzvec 1 (n := l.we.length) (sz := 1) (cs := numsC l.we.length (bl l)) (ds := numsD l.we.length (bl l)) rfl (toDs_nums _ _) (by decide) hl1 rfl (by simp only [List.map_cons, List.map_nil, fzNB, fz_nums]; rfl) (fun i => .inl (?_))
      refine Eq.trans (congrArg (getS · i) ?_) (getS_map (fzNV 1 l.we.length (D.sl (chunk 1 l.we.length (numsD l.we.length (bl l))))) rfl _ i)
      simp only [List.map_cons, List.map_nil, fzNV, fzN, and_self, if_true, chunk_nums, ints]
      rfl
    · refine ent_fzvec 2 (n := l.we.length) (sz := 1) (cs := numsC l.we.length (bh l)) (ds := numsD l.we.length (bh l)) rfl (toDs_nums _ _) (by decide) hl1 rfl rfl (fun i => .inl (?_))
      refine Eq.trans (congrArg (getS · i) ?_) (getS_map (fzNV 2 l.we.length (D.sl (chunk 1 l.we.length (numsD l.we.length (bh l))))) rfl _ i)
      simp only [List.map_cons, List.map_nil, fzNV, fzN, and_self, if_true, chunk_nums, ints]
      try rfl
  simp (maxSteps := 2000000) only [go_sem, reduceIte, Nat.reduceEqDiff, Nat.reduceAdd, Nat.reduceBEq, List.replicate_succ, lk56, ints]
  all_goals first | exact .refl _ | exact ⟨.refl _, .refl _⟩ | exact ⟨.refl _, .refl _, .refl _⟩ | exact ⟨.refl _, _, rfl⟩ | exact ⟨_, rfl⟩ | exact ⟨.refl _, [], by simp⟩ | exact ⟨[], by simp⟩
end Go.Proofs.Ytliamojogmlgjaa
