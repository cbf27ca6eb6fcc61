/- Zones: gaps, contradictions, sums. -/
import Derived.Test.YtliamojogmlgjaaZ2
set_option linter.unusedSimpArgs false
set_option linter.unusedVariables false
set_option maxRecDepth 100000
namespace Go.Proofs.Ytliamojogmlgjaa
open Go Go.Abs Go.Proofs
def kp53 : List (Nat × List Nat) := [(0, [1, 2]), (1, [1, 2, 5]), (2, [1, 2, 5, 13]), (3, [1, 2, 5]), (4, [4])]
theorem lk53 : lookK kp53 0 = some [1, 2] ∧ lookK kp53 1 = some [1, 2, 5] ∧ lookK kp53 2 = some [1, 2, 5, 13] ∧ lookK kp53 3 = some [1, 2, 5] ∧ lookK kp53 4 = some [4] := ⟨rfl, rfl, rfl, rfl, rfl⟩
def kp54 : List (Nat × List Nat) := [(0, [1, 2, 3]), (1, [1, 2, 3, 7]), (2, [1, 2, 3, 7, 20]), (3, [6]), (4, [1, 2, 3, 21]), (5, [6]), (6, [6])]
theorem lk54 : lookK kp54 0 = some [1, 2, 3] ∧ lookK kp54 1 = some [1, 2, 3, 7] ∧ lookK kp54 2 = some [1, 2, 3, 7, 20] ∧ lookK kp54 3 = some [6] ∧ lookK kp54 4 = some [1, 2, 3, 21] ∧ lookK kp54 5 = some [6] ∧ lookK kp54 6 = some [6] := ⟨rfl, rfl, rfl, rfl, rfl, rfl, rfl⟩
def kp55 : List (Nat × List Nat) := [(0, [1, 2]), (1, [1, 2, 3]), (2, [1, 2, 4]), (3, [1, 2, 4, 11, 12]), (4, [1, 2, 4, 11, 12, 13]), (5, [1, 2, 4, 5, 11, 12]), (6, [1, 2, 4, 5, 6, 11, 12]), (7, [1, 2, 4, 5, 6, 11, 12, 21]), (8, [1, 2, 4, 5, 6, 11, 12]), (9, [1, 2, 4, 5, 6, 11, 12, 27]), (10, [2, 4]), (11, [1, 2, 4, 11, 12]), (12, [2])]
theorem lk55 : lookK kp55 0 = some [1, 2] ∧ lookK kp55 1 = some [1, 2, 3] ∧ lookK kp55 2 = some [1, 2, 4] ∧ lookK kp55 3 = some [1, 2, 4, 11, 12] ∧ lookK kp55 4 = some [1, 2, 4, 11, 12, 13] ∧ lookK kp55 5 = some [1, 2, 4, 5, 11, 12] ∧ lookK kp55 6 = some [1, 2, 4, 5, 6, 11, 12] ∧ lookK kp55 7 = some [1, 2, 4, 5, 6, 11, 12, 21] ∧ lookK kp55 8 = some [1, 2, 4, 5, 6, 11, 12] ∧ lookK kp55 9 = some [1, 2, 4, 5, 6, 11, 12, 27] ∧ lookK kp55 10 = some [2, 4] ∧ lookK kp55 11 = some [1, 2, 4, 11, 12] ∧ lookK kp55 12 = some [2] := ⟨rfl, rfl, rfl, rfl, rfl, rfl, rfl, rfl, rfl, rfl, rfl, rfl, rfl⟩
def kp38 : List (Nat × List Nat) := [(0, [0, 1]), (1, [0, 1, 5]), (2, [0, 1, 5, 6]), (3, [0, 1, 5, 6, 10]), (4, [0, 1, 5, 6]), (5, [0, 1, 5, 6]), (6, [4])]
theorem lk38 : lookK kp38 0 = some [0, 1] ∧ lookK kp38 1 = some [0, 1, 5] ∧ lookK kp38 2 = some [0, 1, 5, 6] ∧ lookK kp38 3 = some [0, 1, 5, 6, 10] ∧ lookK kp38 4 = some [0, 1, 5, 6] ∧ lookK kp38 5 = some [0, 1, 5, 6] ∧ lookK kp38 6 = some [4] := ⟨rfl, rfl, rfl, rfl, rfl, rfl, rfl⟩

set_option maxHeartbeats 1000000 in
theorem gap53 (l : La) (d : Int) (hm : 2 ≤ l.an.length) (h11 : l.an.length ≤ 11) (hd : d ≤ gI l.an (l.an.length - 1)) : Pure Try.prog 53 [laV l, I d] (I (gapN l d)) := by
  refine pure_wkE (bad := []) (kp := kp53) (X := tx) (nt := 17) (rs := [.tmp 4]) Try.func53 rfl rfl rfl rfl mo (by kernel_rfl) rfl rfl (fun hf => ?_)
  simp (maxSteps := 2000000) only [go_sem, reduceIte, Nat.reduceEqDiff, Nat.reduceAdd, List.replicate_succ, lk53, lk54, lk55, lk38, laV, laC]
  refine goE_loop (bad := []) (kp := kp53) (fun i : Nat => { slots := [(1, I d), (2, .c (.ptr 0 0)), (5, I i)], heap := [.cells (laC l)], marks := [] }) (fun i => i + 1 < l.an.length ∧ ∀ j, j < i → gI l.an (j + 1) < d) (fun i => l.an.length - i) 0 mo (by kernel_rfl) ?_ ⟨by omega, by intro j h; omega⟩ ?_
  · refine ent_weaken [] rfl rfl (Nat.zero_le _) rfl rfl ?_
    simp (maxSteps := 2000000) only [go_sem, reduceIte, Nat.reduceEqDiff, Nat.reduceLT, List.replicate_succ, lk53, lk54, lk55, lk38, laC]
    all_goals first | exact .refl _ | exact ⟨.refl _, .refl _⟩ | exact ⟨.refl _, .refl _, .refl _⟩ | exact ⟨.refl _, _, rfl⟩ | exact ⟨_, rfl⟩ | exact ⟨.refl _, [], by simp⟩ | exact ⟨[], by simp⟩
  rintro i ⟨hi, hall⟩
  have hlt' : ((i + 1 : Nat) : Int) < l.an.length := by omega
  have g1 := gI_lt hi
  have hbig : l.an.length ≤ 140737488355328 := by omega
  have m1 : l.an.length - (i + 1) < l.an.length - i := by omega
  by_cases hc : gI l.an (i + 1) < d
  · have hi2 : i + 1 + 1 < l.an.length := by
      by_cases e : i + 1 + 1 < l.an.length
      · exact e
      · have e2 : i + 1 = l.an.length - 1 := by omega
        rw [e2] at hc; omega
    have w7 := wr_succ (show i < l.an.length by omega) hbig
    simp (maxSteps := 2000000) only [go_sem, reduceIte, Nat.reduceEqDiff, Nat.reduceAdd, Nat.reduceLeDiff, Nat.reduceBEq, List.replicate_succ, lk53, lk54, lk55, lk38, laC, w7, nn, hlt', g1, iD, hc]
    refine ⟨i + 1, ⟨hi2, fun j hj => ?_⟩, m1, ?_⟩
    · by_cases e : j = i
      · subst e; exact hc
      · exact hall j (by omega)
    refine ent_weaken [] rfl rfl (Nat.zero_le _) rfl rfl ?_
    simp (maxSteps := 2000000) only [go_sem, reduceIte, Nat.reduceEqDiff, Nat.reduceLT, List.replicate_succ, lk53, lk54, lk55, lk38, laC]
    all_goals first | exact .refl _ | exact ⟨.refl _, .refl _⟩ | exact ⟨.refl _, .refl _, .refl _⟩ | exact ⟨.refl _, _, rfl⟩ | exact ⟨_, rfl⟩ | exact ⟨.refl _, [], by simp⟩ | exact ⟨[], by simp⟩
  · have e : gapN l d = i := fstN_eq (by simp; omega) (fun j hj => by have := hall j hj; simp; omega) (by omega)
    have w7 := wr_succ (show i < l.an.length by omega) hbig
    simp (maxSteps := 2000000) only [go_sem, reduceIte, Nat.reduceEqDiff, Nat.reduceAdd, Nat.reduceLeDiff, Nat.reduceBEq, List.replicate_succ, lk53, lk54, lk55, lk38, laC, w7, nn, hlt', g1, iD, hc, e]
set_option maxHeartbeats 1000000 in
theorem contra54 (l : La) (h : OkLa l) (i k : Nat) (hik : i < k) (hk : k < l.an.length) : Pure Try.prog 54 [laV l, I i, I k] (B (conB l i k)) := by
  refine pure_wkE (bad := []) (kp := kp54) (X := tx) (nt := 48) (rs := [.tmp 6]) Try.func54 rfl rfl rfl rfl mo (by kernel_rfl) rfl rfl (fun hf => ?_)
  have hfa := h.fa
  have hli := h.li
  have i1 : (i : Int) < l.fa.length := by omega
  have k1 : (k : Int) ≤ l.fa.length := by omega
  have ik1 : (i : Int) ≤ k := by omega
  have i2 : (i : Int) < l.li.length := by omega
  have k2 : (k : Int) < l.li.length := by omega
  have g1 := gB_lt (l := l.fa) (i := i) (by omega)
  have g2 := gR_lt (l := l.li) (i := i) (by omega)
  have g3 := gR_lt (l := l.li) (i := k) (by omega)
  have hc := has72 ((l.fa.take k).drop i) (!gB l.fa i)
  simp only [bools, List.map_drop, List.map_take] at hc
  simp (maxSteps := 2000000) only [go_sem, reduceIte, Nat.reduceEqDiff, Nat.reduceAdd, Nat.reduceLeDiff, Nat.reduceBEq, List.replicate_succ, lk53, lk54, lk55, lk38, laV, laC, nn, i1, k1, ik1, g1, bD]
  refine ⟨by simp, ?_⟩
  refine aops_pure' (hc) rfl rfl (by first | exact wk_refls _ | (repeat constructor)) ?_
  have e : conB l i k = (!((l.fa.take k).drop i).any (fun x => x == !gB l.fa i) && (if gB l.fa i then decide (his l i < lis l k) else decide (his l k < lis l i))) := rfl
  cases hq : ((l.fa.take k).drop i).any (fun x => x == !gB l.fa i) with
  | true =>
    rw [hq] at e
    simp (maxSteps := 2000000) only [go_sem, reduceIte, Nat.reduceEqDiff, Nat.reduceAdd, List.replicate_succ, lk53, lk54, lk55, lk38, e]
  | false =>
    rw [hq] at e
    cases hf : gB l.fa i with
    | true =>
      rw [hf, if_pos rfl] at e
      simp (maxSteps := 2000000) only [go_sem, reduceIte, Nat.reduceEqDiff, Nat.reduceAdd, Nat.reduceLeDiff, Nat.reduceBEq, List.replicate_succ, lk53, lk54, lk55, lk38, nn, i2, k2, g2, g3, rgD, e, his, lis]
      all_goals first | exact .refl _ | exact ⟨.refl _, .refl _⟩ | exact ⟨.refl _, .refl _, .refl _⟩ | exact ⟨.refl _, _, rfl⟩ | exact ⟨_, rfl⟩ | exact ⟨.refl _, [], by simp⟩ | exact ⟨[], by simp⟩
    | false =>
      rw [hf, if_neg (by decide)] at e
      simp (maxSteps := 2000000) only [go_sem, reduceIte, Nat.reduceEqDiff, Nat.reduceAdd, Nat.reduceLeDiff, Nat.reduceBEq, List.replicate_succ, lk53, lk54, lk55, lk38, nn, i2, k2, g2, g3, rgD, e, his, lis]
      all_goals first | exact .refl _ | exact ⟨.refl _, .refl _⟩ | exact ⟨.refl _, .refl _, .refl _⟩ | exact ⟨.refl _, _, rfl⟩ | exact ⟨_, rfl⟩ | exact ⟨.refl _, [], by simp⟩ | exact ⟨[], by simp⟩
def pairC (p : Nat × Nat) : List C := [.d (.int .i64 p.1), .d (.int .i64 p.2)]
def pairV (p : Nat × Nat) : V := .agg (pairC p)
set_option maxHeartbeats 2000000 in
theorem clash55 (l : La) (h : OkLa l) : Pure Try.prog 55 [laV l] (pairV (clashF l)) := by
  refine pure_wkE (bad := []) (kp := kp55) (X := tx) (nt := 33) (rs := [.cell 2 79]) Try.func55 rfl rfl rfl rfl mo (by kernel_rfl) rfl rfl (fun hf => ?_)
  have hli := h.li
  have h11 := h.m11
  have elen : (l.li.length : Int) = l.an.length := by omega
  simp (maxSteps := 2000000) only [go_sem, reduceIte, Nat.reduceEqDiff, Nat.reduceAdd, Nat.reduceLeDiff, Nat.reduceBEq, List.replicate_succ, lk53, lk54, lk55, lk38, laV, laC, elen]
  refine goE_loop (bad := []) (kp := kp55) (fun i : Nat => { slots := [(1, .c (.ptr 0 0)), (2, .c (.ptr 1 0)), (4, .c (.ptr 3 0)), (11, I l.an.length), (12, I i)], heap := [.cells (laC l), .cells (pairC (0, 0)), .cells (pairC (0, 0)), .cells (pairC (0, 0))], marks := [] }) (fun i => i ≤ l.an.length ∧ ∀ j, j < i → ¬ rowK l j < l.an.length) (fun i => l.an.length - i) 0 mo (by kernel_rfl) ?_ ⟨Nat.zero_le _, by intro j h; omega⟩ ?_
  · refine ent_weaken [] rfl rfl (Nat.zero_le _) rfl rfl ?_
    simp (maxSteps := 2000000) only [go_sem, reduceIte, Nat.reduceEqDiff, Nat.reduceAdd, Nat.reduceLT, List.replicate_succ, lk53, lk54, lk55, lk38, laC, pairC]
    all_goals first | exact .refl _ | exact ⟨.refl _, .refl _⟩ | exact ⟨.refl _, .refl _, .refl _⟩ | exact ⟨.refl _, _, rfl⟩ | exact ⟨_, rfl⟩ | exact ⟨.refl _, [], by simp⟩ | exact ⟨[], by simp⟩
  rintro i ⟨hi, hall⟩
  have hbig : l.an.length ≤ 140737488355328 := by omega
  simp (maxSteps := 2000000) only [go_sem, reduceIte, Nat.reduceEqDiff, Nat.reduceAdd, List.replicate_succ, lk53, lk54, lk55, lk38, laC, pairC]
  by_cases hlt : i < l.an.length
  case neg =>
    have hlt' : ¬ (i : Int) < l.an.length := by omega
    have ei : i = l.an.length := by omega
    subst ei
    have e : clashF l = (0, 0) := by
      unfold clashF cI
      rw [fstN_none (fun j hj => by simpa using hall j hj), if_neg (Nat.lt_irrefl _)]
    simp (maxSteps := 2000000) only [go_sem, reduceIte, Nat.reduceEqDiff, Nat.reduceAdd, List.replicate_succ, lk53, lk54, lk55, lk38, hlt', e, pairV, pairC]
    all_goals first | exact .refl _ | exact ⟨.refl _, .refl _⟩ | exact ⟨.refl _, .refl _, .refl _⟩ | exact ⟨.refl _, _, rfl⟩ | exact ⟨_, rfl⟩ | exact ⟨.refl _, [], by simp⟩ | exact ⟨[], by simp⟩
  have hlt' : (i : Int) < l.an.length := by omega
  have m1 : l.an.length - (i + 1) < l.an.length - i := by omega
  have w7 := wr_succ hlt hbig
  simp (maxSteps := 2000000) only [go_sem, reduceIte, Nat.reduceEqDiff, Nat.reduceAdd, List.replicate_succ, lk53, lk54, lk55, lk38, hlt', w7]
  clear w7
  refine goE_loop (bad := []) (kp := kp55) (fun k : Nat => { slots := [(1, .c (.ptr 0 0)), (2, .c (.ptr 1 0)), (4, .c (.ptr 3 0)), (5, I i), (6, I k), (11, I l.an.length), (12, I i)], heap := [.cells (laC l), .cells (pairC (0, 0)), .cells (pairC (0, 0)), .cells (pairC (0, 0))], marks := [] }) (fun k => i + 1 ≤ k ∧ k ≤ l.an.length ∧ ∀ j, j < k → (decide (i < j) && conB l i j) = false) (fun k => l.an.length - k) (i + 1) mo (by kernel_rfl) ?_ ⟨Nat.le_refl _, hlt, (by intro j hj; have h0 : ¬ i < j := (by omega); simp [h0])⟩ ?_
  · refine ent_weaken [] rfl rfl (Nat.zero_le _) rfl rfl ?_
    simp (maxSteps := 2000000) only [go_sem, reduceIte, Nat.reduceEqDiff, Nat.reduceAdd, Nat.reduceLT, List.replicate_succ, lk53, lk54, lk55, lk38, laC, pairC]
    all_goals first | exact .refl _ | exact ⟨.refl _, .refl _⟩ | exact ⟨.refl _, .refl _, .refl _⟩ | exact ⟨.refl _, _, rfl⟩ | exact ⟨_, rfl⟩ | exact ⟨.refl _, [], by simp⟩ | exact ⟨[], by simp⟩
  rintro k ⟨hk0, hk, hal⟩
  simp (maxSteps := 2000000) only [go_sem, reduceIte, Nat.reduceEqDiff, Nat.reduceAdd, Nat.reduceLeDiff, Nat.reduceBEq, List.replicate_succ, lk53, lk54, lk55, lk38, laC, pairC, elen]
  by_cases hkl : k < l.an.length
  case neg =>
    have hkl' : ¬ (k : Int) < l.an.length := by omega
    have ek : k = l.an.length := by omega
    subst ek
    have hr : ¬ rowK l i < l.an.length := by unfold rowK; rw [fstN_none hal]; exact Nat.lt_irrefl _
    have w7 := wr_succ hlt hbig
    simp (maxSteps := 2000000) only [go_sem, reduceIte, Nat.reduceEqDiff, Nat.reduceAdd, List.replicate_succ, lk53, lk54, lk55, lk38, hkl', w7]
    refine ⟨i + 1, ⟨hlt, fun j hj => ?_⟩, m1, ?_⟩
    · by_cases e : j = i
      · subst e; exact hr
      · exact hall j (Nat.lt_of_le_of_ne (Nat.le_of_lt_succ hj) e)
    refine ent_weaken [] rfl rfl (Nat.zero_le _) rfl rfl ?_
    simp (maxSteps := 2000000) only [go_sem, reduceIte, Nat.reduceEqDiff, Nat.reduceAdd, Nat.reduceLT, List.replicate_succ, lk53, lk54, lk55, lk38, laC, pairC]
    all_goals first | exact .refl _ | exact ⟨.refl _, .refl _⟩ | exact ⟨.refl _, .refl _, .refl _⟩ | exact ⟨.refl _, _, rfl⟩ | exact ⟨_, rfl⟩ | exact ⟨.refl _, [], by simp⟩ | exact ⟨[], by simp⟩
  have hkl' : (k : Int) < l.an.length := by omega
  have m2 : l.an.length - (k + 1) < l.an.length - k := by omega
  have hik : i < k := hk0
  have hc := contra54 l h i k hik hkl
  unfold laV laC at hc
  simp (maxSteps := 2000000) only [go_sem, reduceIte, Nat.reduceEqDiff, Nat.reduceAdd, List.replicate_succ, lk53, lk54, lk55, lk38, hkl']
  refine aops_pure' (hc) rfl rfl (by first | exact wk_refls _ | (repeat constructor)) ?_
  cases hb : conB l i k with
  | true =>
    have e1 : rowK l i = k := fstN_eq (by simp [hb, hik]) hal hkl
    have e2 : cI l = i := fstN_eq (by simp [e1, hkl]) (fun j hj => by simpa using hall j hj) hlt
    have e : clashF l = (i, k) := by unfold clashF; rw [e2, if_pos hlt, e1]
    simp (maxSteps := 2000000) only [go_sem, reduceIte, Nat.reduceEqDiff, Nat.reduceAdd, Nat.reduceLeDiff, Nat.reduceBEq, List.replicate_succ, lk53, lk54, lk55, lk38, e, pairV, pairC]
    all_goals first | exact .refl _ | exact ⟨.refl _, .refl _⟩ | exact ⟨.refl _, .refl _, .refl _⟩ | exact ⟨.refl _, _, rfl⟩ | exact ⟨_, rfl⟩ | exact ⟨.refl _, [], by simp⟩ | exact ⟨[], by simp⟩
  | false =>
    have hal2 : ∀ j, j < k + 1 → (decide (i < j) && conB l i j) = false := fun j hj => by
      by_cases e : j = k
      · subst e; simp [hb]
      · exact hal j (by omega)
    have hk2 : i + 1 ≤ k + 1 := by omega
    have w7 := wr_succ hkl hbig
    simp (maxSteps := 2000000) only [go_sem, reduceIte, Nat.reduceEqDiff, Nat.reduceAdd, List.replicate_succ, lk53, lk54, lk55, lk38, w7]
    refine ⟨k + 1, ⟨hk2, hkl, hal2⟩, m2, ?_⟩
    refine ent_weaken [] rfl rfl (Nat.zero_le _) rfl rfl ?_
    simp (maxSteps := 2000000) only [go_sem, reduceIte, Nat.reduceEqDiff, Nat.reduceAdd, Nat.reduceLT, List.replicate_succ, lk53, lk54, lk55, lk38, laC, pairC]
    all_goals first | exact .refl _ | exact ⟨.refl _, .refl _⟩ | exact ⟨.refl _, .refl _, .refl _⟩ | exact ⟨.refl _, _, rfl⟩ | exact ⟨_, rfl⟩ | exact ⟨.refl _, [], by simp⟩ | exact ⟨[], by simp⟩
theorem mul_bd {w x : Int} (h1 : 0 ≤ w) (h2 : w ≤ 1000) (h3 : 0 ≤ x) (h4 : x ≤ 1000) : 0 ≤ w * x ∧ w * x ≤ 1000000 := by
  refine ⟨Int.mul_nonneg h1 h3, ?_⟩
  have := Int.mul_le_mul h2 h4 h3 (by omega : (0:Int) ≤ 1000)
  omega
theorem sumW_bd {w f : Nat → Int} : ∀ {n : Nat}, (∀ k, k < n → 0 ≤ w k ∧ w k ≤ 1000) → (∀ k, k < n → 0 ≤ f k ∧ f k ≤ 1000) → 0 ≤ sumW w f n ∧ sumW w f n ≤ 1000000 * n
  | 0, _, _ => by simp [sumW]
  | n + 1, h1, h2 => by
    have ih := sumW_bd (n := n) (fun k hk => h1 k (by omega)) (fun k hk => h2 k (by omega))
    have a := h1 n (by omega)
    have b := h2 n (by omega)
    have c := mul_bd a.1 a.2 b.1 b.2
    rw [sumW]; omega
theorem wr_sum {w f : Nat → Int} {n : Nat} (hn : n < 1000) (h1 : ∀ k, k < n + 1 → 0 ≤ w k ∧ w k ≤ 1000) (h2 : ∀ k, k < n + 1 → 0 ≤ f k ∧ f k ≤ 1000) : wr .i64 (w n * f n) = w n * f n ∧ wr .i64 (sumW w f n + w n * f n) = sumW w f (n + 1) := by
  have a := h1 n (by omega)
  have b := h2 n (by omega)
  have c := mul_bd a.1 a.2 b.1 b.2
  have d := sumW_bd h1 h2
  have e : sumW w f n + w n * f n = sumW w f (n + 1) := rfl
  rw [e]
  exact ⟨wr_in (by omega), wr_in (by omega)⟩
set_option maxHeartbeats 1000000 in
theorem sum38 (w x : List Int) (hn : w.length ≤ 1000) (hx : w.length ≤ x.length) (h1 : ∀ k, k < w.length → 0 ≤ gI w k ∧ gI w k ≤ 1000) (h2 : ∀ k, k < w.length → 0 ≤ gI x k ∧ gI x k ≤ 1000) : Pure Try.prog 38 [ints w, ints x] (I (sumW (gI w) (gI x) w.length)) := by
  refine pure_wkE (bad := []) (kp := kp38) (X := tx) (nt := 25) (rs := [.tmp 4]) Try.func38 rfl rfl rfl rfl mo (by kernel_rfl) rfl rfl (fun hf => ?_)
  simp (maxSteps := 2000000) only [go_sem, reduceIte, Nat.reduceEqDiff, Nat.reduceAdd, List.replicate_succ, lk53, lk54, lk55, lk38, ints]
  refine goE_loop (bad := []) (kp := kp38) (fun i : Nat => { slots := [(0, ints w), (1, ints x), (5, I (sumW (gI w) (gI x) i)), (6, I i)], heap := [], marks := [] }) (fun i => i ≤ w.length) (fun i => w.length - i) 0 mo (by kernel_rfl) ?_ (Nat.zero_le _) ?_
  · refine ent_weaken [] rfl rfl (Nat.zero_le _) rfl rfl ?_
    simp (maxSteps := 2000000) only [go_sem, reduceIte, Nat.reduceEqDiff, List.replicate_succ, lk53, lk54, lk55, lk38, ints, sumW]
    all_goals first | exact .refl _ | exact ⟨.refl _, .refl _⟩ | exact ⟨.refl _, .refl _, .refl _⟩ | exact ⟨.refl _, _, rfl⟩ | exact ⟨_, rfl⟩ | exact ⟨.refl _, [], by simp⟩ | exact ⟨[], by simp⟩
  rintro i hi
  simp (maxSteps := 2000000) only [go_sem, reduceIte, Nat.reduceEqDiff, Nat.reduceAdd, List.replicate_succ, lk53, lk54, lk55, lk38, ints]
  by_cases hlt : i < w.length
  · have hlt' : (i : Int) < w.length := by omega
    have hlx : (i : Int) < x.length := by omega
    have g1 := gI_lt hlt
    have g2 := gI_lt (l := x) (i := i) (by omega)
    have m1 : w.length - (i + 1) < w.length - i := by omega
    obtain ⟨w1, w2⟩ := wr_sum (w := gI w) (f := gI x) (n := i) (by omega) (fun k hk => h1 k (by omega)) (fun k hk => h2 k (by omega))
    have w7 := wr_succ hlt (Nat.le_trans hn (by decide))
    simp (maxSteps := 2000000) only [go_sem, reduceIte, Nat.reduceEqDiff, Nat.reduceAdd, List.replicate_succ, lk53, lk54, lk55, lk38, hlt', hlx, nn, g1, g2, iD, w1, w2, w7]
    refine ⟨i + 1, hlt, m1, ?_⟩
    refine ent_weaken [] rfl rfl (Nat.zero_le _) rfl rfl ?_
    simp (maxSteps := 2000000) only [go_sem, reduceIte, Nat.reduceEqDiff, List.replicate_succ, lk53, lk54, lk55, lk38, ints]
    all_goals first | exact .refl _ | exact ⟨.refl _, .refl _⟩ | exact ⟨.refl _, .refl _, .refl _⟩ | exact ⟨.refl _, _, rfl⟩ | exact ⟨_, rfl⟩ | exact ⟨.refl _, [], by simp⟩ | exact ⟨[], by simp⟩
  · have hlt' : ¬ (i : Int) < w.length := by omega
    have e : i = w.length := by omega
    subst e
    simp (maxSteps := 2000000) only [go_sem, reduceIte, Nat.reduceEqDiff, Nat.reduceAdd, List.replicate_succ, lk53, lk54, lk55, lk38, hlt']
end Go.Proofs.Ytliamojogmlgjaa
