/- Zones: the statement Coated. -/
import Derived.Test.YtliamojogmlgjaaZ25
set_option linter.unusedSimpArgs false
set_option linter.unusedVariables false
set_option maxRecDepth 100000
namespace Go.Proofs.Ytliamojogmlgjaa
open Go Go.Abs Go.Proofs
def kp12 : List (Nat × List Nat) := [(0, [1, 2, 3]), (1, [1, 2, 3, 25]), (2, [6]), (3, [3, 7, 8]), (4, [3, 9, 10]), (5, [3, 9, 10, 11, 12]), (6, [3, 9, 10, 11, 12, 13, 14]), (7, [3, 9, 10, 11, 12, 13, 14, 15, 16]), (8, [3, 9, 10, 11, 12, 13, 14, 15, 16, 17, 18]), (9, [3, 10, 11, 12, 13, 14, 15, 16, 17, 18, 19, 20]), (10, [11, 12, 13, 14, 15, 16, 17, 18, 19, 20, 21, 22]), (11, [6])]
theorem lk12 : lookK kp12 0 = some [1, 2, 3] ∧ lookK kp12 1 = some [1, 2, 3, 25] ∧ lookK kp12 2 = some [6] ∧ lookK kp12 3 = some [3, 7, 8] ∧ lookK kp12 4 = some [3, 9, 10] ∧ lookK kp12 5 = some [3, 9, 10, 11, 12] ∧ lookK kp12 6 = some [3, 9, 10, 11, 12, 13, 14] ∧ lookK kp12 7 = some [3, 9, 10, 11, 12, 13, 14, 15, 16] ∧ lookK kp12 8 = some [3, 9, 10, 11, 12, 13, 14, 15, 16, 17, 18] ∧ lookK kp12 9 = some [3, 10, 11, 12, 13, 14, 15, 16, 17, 18, 19, 20] ∧ lookK kp12 10 = some [11, 12, 13, 14, 15, 16, 17, 18, 19, 20, 21, 22] ∧ lookK kp12 11 = some [6] := ⟨rfl, rfl, rfl, rfl, rfl, rfl, rfl, rfl, rfl, rfl, rfl, rfl⟩

theorem ct_1000 (f : Nat → Int) (k : Nat) : ctF f 1000 k = f k := by unfold ctF; omega
theorem ct_0 (f : Nat → Int) (k : Nat) : ctF f 0 k = 0 := by unfold ctF; rw [Int.mul_zero]; rfl
theorem ct_mono {f : Nat → Int} {s t : Int} {k : Nat} (hf : 0 ≤ f k) (h : s ≤ t) : ctF f s k ≤ ctF f t k := by
  have := Int.mul_le_mul_of_nonneg_left h hf
  unfold ctF; omega
theorem co_1000 (l : La) : coLo l ⟨1000, 1000⟩ = spLo l ∧ coHi l ⟨1000, 1000⟩ = spHi l := ⟨sumW_congr fun k _ => ct_1000 _ k, sumW_congr fun k _ => ct_1000 _ k⟩
theorem sumW_zero (w : Nat → Int) : ∀ n, sumW w (fun _ => 0) n = 0
  | 0 => rfl
  | n + 1 => by rw [sumW, sumW_zero w n, Int.mul_zero]; rfl
theorem co_0 (l : La) : coLo l ⟨0, 0⟩ = 0 ∧ coHi l ⟨0, 0⟩ = 0 := by
  constructor
  · exact (sumW_congr (g := fun _ => 0) fun k _ => ct_0 _ k).trans (sumW_zero _ _)
  · exact (sumW_congr (g := fun _ => 0) fun k _ => ct_0 _ k).trans (sumW_zero _ _)
theorem co_mono {l : La} (ok : OkLa l) {s t : Int} (h : s ≤ t) : sumW (gI l.we) (ctF (bl l) s) l.we.length ≤ sumW (gI l.we) (ctF (bl l) t) l.we.length ∧ sumW (gI l.we) (ctF (bh l) s) l.we.length ≤ sumW (gI l.we) (ctF (bh l) t) l.we.length :=
  ⟨sumW_le (fun k hk => (ok.wr k hk).1) (fun k hk => ct_mono (bl_range ok hk).1 h), sumW_le (fun k hk => (ok.wr k hk).1) (fun k hk => ct_mono (bh_range ok hk).1 h)⟩
theorem mod1001 {m : Int} (h0 : 0 ≤ m) (h1 : m < 65536) : wr .i64 m = m ∧ m.tmod 1001 = m % 1001 ∧ 0 ≤ m % 1001 ∧ m % 1001 ≤ 1000 := by
  rw [Int.tmod_eq_emod_of_nonneg h0]
  exact ⟨wr_in (by omega), rfl, by omega, by omega⟩
set_option maxHeartbeats 8000000 in
theorem coatedLaw (l : La) (p q : Int) (hp : 0 ≤ p ∧ p < 65536) (hq : 0 ≤ q ∧ q < 65536) : Pure Try.prog 12 [laV l, .c (.d (.int .u16 p)), .c (.d (.int .u16 q))] (B true) := by
  refine pure_wkE (bad := [6, 7, 8, 9, 10]) (kp := kp12) (X := tx) (nt := 145) (rs := [.tmp 6]) Try.func12 rfl rfl rfl rfl mo (by kernel_rfl) rfl rfl (fun hf => ?_)
  have hf := fine37 l
  unfold laV laC at hf
  simp (config := { maxSteps := 2000000 }) only [go_sem, reduceIte, Nat.reduceEqDiff, Nat.reduceAdd, Nat.reduceLT, Nat.reduceLeDiff, Nat.reduceBEq, Nat.reduceMul, Nat.reduceSub, Nat.reduceDiv, Int.reduceNeg, Int.reduceLT, Int.reduceLE, Int.reduceEq, Int.reduceToNat, List.replicate_succ, lk12, laV, laC]
  refine aops_pure' (hf) rfl rfl (by first | exact wk_refls _ | (repeat constructor)) ?_
  cases hfb : fineB l with
  | false =>
    simp (config := { maxSteps := 2000000 }) only [go_sem, reduceIte, Nat.reduceEqDiff, Nat.reduceAdd, Nat.reduceLT, Nat.reduceLeDiff, Nat.reduceBEq, Nat.reduceMul, Nat.reduceSub, Nat.reduceDiv, Int.reduceNeg, Int.reduceLT, Int.reduceLE, Int.reduceEq, Int.reduceToNat, List.replicate_succ, lk12]
    refine aops_pure' (works16) rfl rfl (by first | exact wk_refls _ | (repeat constructor)) ?_
    simp (config := { maxSteps := 2000000 }) only [go_sem, reduceIte, Nat.reduceEqDiff, Nat.reduceAdd, Nat.reduceLT, Nat.reduceLeDiff, Nat.reduceBEq, Nat.reduceMul, Nat.reduceSub, Nat.reduceDiv, Int.reduceNeg, Int.reduceLT, Int.reduceLE, Int.reduceEq, Int.reduceToNat, List.replicate_succ, lk12]
  | true =>
  obtain ⟨h0, hd⟩ := (fine_iff l).1 hfb
  have ok := okLa_n h0
  have hsp := spE_0 h0 hd
  obtain ⟨p1, p2, p3, p4⟩ := mod1001 hp.1 hp.2
  obtain ⟨q1, q2, q3, q4⟩ := mod1001 hq.1 hq.2
  have hs := span27 l
  rw [hsp, spR_0 hsp] at hs
  have hco : ∀ s t : Int, 0 ≤ s → s ≤ t → t ≤ 1000 → Pure Try.prog 31 [laV l, rgV ⟨s, t⟩] (.tup [rgV ⟨sumW (gI l.we) (ctF (bl l) s) l.we.length, sumW (gI l.we) (ctF (bh l) t) l.we.length⟩, I 0]) := fun s t a b c => by
    have e := coE_0 (r := ⟨s, t⟩) h0 ((rgB_iff _ _).2 ⟨a, b, c⟩) hd
    have h := coated31 l ⟨s, t⟩
    rw [coR_0 e, e] at h
    exact h
  have c1 := hco 1000 1000 (by decide) (by decide) (by decide)
  have c2 := hco 0 0 (by decide) (by decide) (by decide)
  have z1 : sumW (gI l.we) (ctF (bl l) 1000) l.we.length = spLo l := (co_1000 l).1
  have z2 : sumW (gI l.we) (ctF (bh l) 1000) l.we.length = spHi l := (co_1000 l).2
  have z3 : sumW (gI l.we) (ctF (bl l) 0) l.we.length = 0 := (co_0 l).1
  have z4 : sumW (gI l.we) (ctF (bh l) 0) l.we.length = 0 := (co_0 l).2
  rw [z1, z2] at c1
  rw [z3, z4] at c2
  generalize p % 1001 = a at *
  generalize q % 1001 = b at *
  obtain ⟨lo, hi, el, eh, d1, d2, d3⟩ : ∃ lo hi, min a b = lo ∧ max a b = hi ∧ 0 ≤ lo ∧ lo ≤ hi ∧ hi ≤ 1000 := ⟨_, _, rfl, rfl, by clear p1 p2 q1 q2; omega, by clear p1 p2 q1 q2; omega, by clear p1 p2 q1 q2; omega⟩
  have c3 := hco lo lo d1 (Int.le_refl _) (Int.le_trans d2 d3)
  have c4 := hco lo hi d1 d2 d3
  have c5 := hco hi hi (Int.le_trans d1 d2) (Int.le_refl _) d3
  obtain ⟨o1, o2⟩ := co_mono ok d2
  have o3 := (co_mono ok d3).2
  rw [z2] at o3
  unfold laV laC rgV rgC at hs c1 c2 c3 c4 c5
  generalize sumW (gI l.we) (ctF (bl l) lo) l.we.length = A1 at *
  generalize sumW (gI l.we) (ctF (bh l) lo) l.we.length = A2 at *
  generalize sumW (gI l.we) (ctF (bl l) hi) l.we.length = A3 at *
  generalize sumW (gI l.we) (ctF (bh l) hi) l.we.length = A4 at *
  have g1 := rg43 1000 1000
  have g2 := rg43 0 0
  have g3 := rg43 lo lo
  have g4 := rg43 lo hi
  have g5 := rg43 hi hi
  have g6 := rg43 A1 A4
  unfold rgV rgC at g1 g2 g3 g4 g5 g6
  simp (config := { maxSteps := 2000000 }) only [go_sem, reduceIte, Nat.reduceEqDiff, Nat.reduceAdd, Nat.reduceLT, Nat.reduceLeDiff, Nat.reduceBEq, Nat.reduceMul, Nat.reduceSub, Nat.reduceDiv, Int.reduceNeg, Int.reduceLT, Int.reduceLE, Int.reduceEq, Int.reduceToNat, List.replicate_succ, lk12, p1, p2, q1, q2, maxL1, minL1, el, eh]
  refine aops_pure' (hs) rfl rfl (by first | exact wk_refls _ | (repeat constructor)) ?_
  simp (config := { maxSteps := 2000000 }) only [go_sem, reduceIte, Nat.reduceEqDiff, Nat.reduceAdd, Nat.reduceLT, Nat.reduceLeDiff, Nat.reduceBEq, Nat.reduceMul, Nat.reduceSub, Nat.reduceDiv, Int.reduceNeg, Int.reduceLT, Int.reduceLE, Int.reduceEq, Int.reduceToNat, List.replicate_succ, lk12]
  refine de_pure (g1) rfl rfl (by first | exact wk_refls _ | (repeat constructor)) ?_
  simp (config := { maxSteps := 2000000 }) only [go_sem, reduceIte, Nat.reduceEqDiff, Nat.reduceAdd, Nat.reduceLT, Nat.reduceLeDiff, Nat.reduceBEq, Nat.reduceMul, Nat.reduceSub, Nat.reduceDiv, Int.reduceNeg, Int.reduceLT, Int.reduceLE, Int.reduceEq, Int.reduceToNat, List.replicate_succ, lk12]
  refine de_pure (c1) rfl rfl (by first | exact wk_refls _ | (repeat constructor)) ?_
  simp (config := { maxSteps := 2000000 }) only [go_sem, reduceIte, Nat.reduceEqDiff, Nat.reduceAdd, Nat.reduceLT, Nat.reduceLeDiff, Nat.reduceBEq, Nat.reduceMul, Nat.reduceSub, Nat.reduceDiv, Int.reduceNeg, Int.reduceLT, Int.reduceLE, Int.reduceEq, Int.reduceToNat, List.replicate_succ, lk12]
  refine ⟨pairsOk_ord (by kernel_rfl), ?_⟩
  refine de_pure (g2) rfl rfl (by first | exact wk_refls _ | (repeat constructor)) ?_
  simp (config := { maxSteps := 2000000 }) only [go_sem, reduceIte, Nat.reduceEqDiff, Nat.reduceAdd, Nat.reduceLT, Nat.reduceLeDiff, Nat.reduceBEq, Nat.reduceMul, Nat.reduceSub, Nat.reduceDiv, Int.reduceNeg, Int.reduceLT, Int.reduceLE, Int.reduceEq, Int.reduceToNat, List.replicate_succ, lk12]
  refine de_pure (c2) rfl rfl (by first | exact wk_refls _ | (repeat constructor)) ?_
  simp (config := { maxSteps := 2000000 }) only [go_sem, reduceIte, Nat.reduceEqDiff, Nat.reduceAdd, Nat.reduceLT, Nat.reduceLeDiff, Nat.reduceBEq, Nat.reduceMul, Nat.reduceSub, Nat.reduceDiv, Int.reduceNeg, Int.reduceLT, Int.reduceLE, Int.reduceEq, Int.reduceToNat, List.replicate_succ, lk12]
  refine ⟨pairsOk_ord (by kernel_rfl), ?_⟩
  refine de_pure (g3) rfl rfl (by first | exact wk_refls _ | (repeat constructor)) ?_
  simp (config := { maxSteps := 2000000 }) only [go_sem, reduceIte, Nat.reduceEqDiff, Nat.reduceAdd, Nat.reduceLT, Nat.reduceLeDiff, Nat.reduceBEq, Nat.reduceMul, Nat.reduceSub, Nat.reduceDiv, Int.reduceNeg, Int.reduceLT, Int.reduceLE, Int.reduceEq, Int.reduceToNat, List.replicate_succ, lk12]
  refine de_pure (c3) rfl rfl (by first | exact wk_refls _ | (repeat constructor)) ?_
  simp (config := { maxSteps := 2000000 }) only [go_sem, reduceIte, Nat.reduceEqDiff, Nat.reduceAdd, Nat.reduceLT, Nat.reduceLeDiff, Nat.reduceBEq, Nat.reduceMul, Nat.reduceSub, Nat.reduceDiv, Int.reduceNeg, Int.reduceLT, Int.reduceLE, Int.reduceEq, Int.reduceToNat, List.replicate_succ, lk12]
  refine ⟨pairsOk_ord (by kernel_rfl), ?_⟩
  refine de_pure (g4) rfl rfl (by first | exact wk_refls _ | (repeat constructor)) ?_
  simp (config := { maxSteps := 2000000 }) only [go_sem, reduceIte, Nat.reduceEqDiff, Nat.reduceAdd, Nat.reduceLT, Nat.reduceLeDiff, Nat.reduceBEq, Nat.reduceMul, Nat.reduceSub, Nat.reduceDiv, Int.reduceNeg, Int.reduceLT, Int.reduceLE, Int.reduceEq, Int.reduceToNat, List.replicate_succ, lk12]
  refine de_pure (c4) rfl rfl (by first | exact wk_refls _ | (repeat constructor)) ?_
  simp (config := { maxSteps := 2000000 }) only [go_sem, reduceIte, Nat.reduceEqDiff, Nat.reduceAdd, Nat.reduceLT, Nat.reduceLeDiff, Nat.reduceBEq, Nat.reduceMul, Nat.reduceSub, Nat.reduceDiv, Int.reduceNeg, Int.reduceLT, Int.reduceLE, Int.reduceEq, Int.reduceToNat, List.replicate_succ, lk12, List.append_eq, List.cons_append, List.nil_append]
  refine ⟨pairsOk_ord (by kernel_rfl), ?_⟩
  refine de_pure (g5) rfl rfl (by first | exact wk_refls _ | (repeat constructor)) ?_
  simp (config := { maxSteps := 2000000 }) only [go_sem, reduceIte, Nat.reduceEqDiff, Nat.reduceAdd, Nat.reduceLT, Nat.reduceLeDiff, Nat.reduceBEq, Nat.reduceMul, Nat.reduceSub, Nat.reduceDiv, Int.reduceNeg, Int.reduceLT, Int.reduceLE, Int.reduceEq, Int.reduceToNat, List.replicate_succ, lk12, List.append_eq, List.cons_append, List.nil_append]
  refine de_pure (c5) rfl rfl (by first | exact wk_refls _ | (repeat constructor)) ?_
  simp (config := { maxSteps := 2000000 }) only [go_sem, reduceIte, Nat.reduceEqDiff, Nat.reduceAdd, Nat.reduceLT, Nat.reduceLeDiff, Nat.reduceBEq, Nat.reduceMul, Nat.reduceSub, Nat.reduceDiv, Int.reduceNeg, Int.reduceLT, Int.reduceLE, Int.reduceEq, Int.reduceToNat, List.replicate_succ, lk12, List.append_eq, List.cons_append, List.nil_append]
  refine ⟨pairsOk_ord (by kernel_rfl), ?_⟩
  refine dops_pure' (g2) rfl rfl (by first | exact wk_refls _ | (repeat constructor)) (by kernel_rfl) ?_
  simp (config := { maxSteps := 2000000 }) only [go_sem, reduceIte, Nat.reduceEqDiff, Nat.reduceAdd, Nat.reduceLT, Nat.reduceLeDiff, Nat.reduceBEq, Nat.reduceMul, Nat.reduceSub, Nat.reduceDiv, Int.reduceNeg, Int.reduceLT, Int.reduceLE, Int.reduceEq, Int.reduceToNat, List.replicate_succ, lk12]
  refine dops_pure' (g6) rfl rfl (by first | exact wk_refls _ | (repeat constructor)) (by kernel_rfl) ?_
  simp (config := { maxSteps := 2000000 }) only [go_sem, reduceIte, Nat.reduceEqDiff, Nat.reduceAdd, Nat.reduceLT, Nat.reduceLeDiff, Nat.reduceBEq, Nat.reduceMul, Nat.reduceSub, Nat.reduceDiv, Int.reduceNeg, Int.reduceLT, Int.reduceLE, Int.reduceEq, Int.reduceToNat, List.replicate_succ, lk12, o1, o2, o3]
  refine dops_pure' (works16) rfl rfl (by first | exact wk_refls _ | (repeat constructor)) (by kernel_rfl) ?_
  simp (config := { maxSteps := 2000000 }) only [go_sem, reduceIte, Nat.reduceEqDiff, Nat.reduceAdd, Nat.reduceLT, Nat.reduceLeDiff, Nat.reduceBEq, Nat.reduceMul, Nat.reduceSub, Nat.reduceDiv, Int.reduceNeg, Int.reduceLT, Int.reduceLE, Int.reduceEq, Int.reduceToNat, List.replicate_succ, lk12]
end Go.Proofs.Ytliamojogmlgjaa
