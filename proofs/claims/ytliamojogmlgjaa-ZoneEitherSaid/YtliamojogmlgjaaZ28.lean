/- Zones: the statement Either. -/
import Derived.Test.YtliamojogmlgjaaZ26
set_option linter.unusedSimpArgs false
set_option linter.unusedVariables false
set_option maxRecDepth 100000
namespace Go.Proofs.Ytliamojogmlgjaa
open Go Go.Abs Go.Proofs
def kp8 : List (Nat × List Nat) := [(0, [1, 3, 5]), (1, [1, 3, 5, 26]), (2, [6]), (3, [1, 3, 5, 7, 8, 9]), (4, [1, 3, 5, 7, 8, 9, 10, 11]), (5, [1, 3, 5, 7, 8, 9, 10, 11, 40]), (6, [6]), (7, [3, 5, 9, 10, 11, 12]), (8, [3, 9, 10, 11, 13, 14]), (9, [6])]
theorem lk8 : lookK kp8 0 = some [1, 3, 5] ∧ lookK kp8 1 = some [1, 3, 5, 26] ∧ lookK kp8 2 = some [6] ∧ lookK kp8 3 = some [1, 3, 5, 7, 8, 9] ∧ lookK kp8 4 = some [1, 3, 5, 7, 8, 9, 10, 11] ∧ lookK kp8 5 = some [1, 3, 5, 7, 8, 9, 10, 11, 40] ∧ lookK kp8 6 = some [6] ∧ lookK kp8 7 = some [3, 5, 9, 10, 11, 12] ∧ lookK kp8 8 = some [3, 9, 10, 11, 13, 14] ∧ lookK kp8 9 = some [6] := ⟨rfl, rfl, rfl, rfl, rfl, rfl, rfl, rfl, rfl, rfl⟩

theorem cd_no {l : La} (h0 : okLa l = 0) (hd : dbB l = false) (i k : Int) : ¬ cdE l i k = 0 := by
  have ok := okLa_n h0
  have hc : ¬ cI l < l.an.length := fun h => by have := (clash_iff ok).2 h; rw [hd] at this; cases this
  unfold cdE
  rw [if_pos h0]
  split
  · decide
  · rename_i h
    rw [clash_none hc (i := i.toNat) (k := k.toNat) (by omega) (by omega)]
    decide
theorem ct_no {l : La} {x : List Int} (hd : dbB l = true) : ¬ ctE l x = 0 := fun h => by
  obtain ⟨k, hk, hb⟩ := (dbB_iff l).1 hd
  have := true_range h hk
  omega
theorem wr_small {m : Int} (h0 : 0 ≤ m) (h1 : m < 65536) : wr .i64 m = m := wr_in (by omega)
set_option maxHeartbeats 8000000 in
theorem eitherLaw (l : La) (x : List Int) (p : Int × Int) (hp : (0 ≤ p.1 ∧ p.1 < 256) ∧ 0 ≤ p.2 ∧ p.2 < 256) : Pure Try.prog 8 [laV l, ints x, .agg [.d (.int .u8 p.1), .d (.int .u8 p.2)]] (B true) := by
  refine pure_wkE (bad := []) (kp := kp8) (X := tx) (nt := 107) (rs := [.tmp 6]) Try.func8 rfl rfl rfl rfl mo (by kernel_rfl) rfl rfl (fun hf => ?_)
  have hg := great15 l
  have hl := lamp20 l
  unfold laV laC at hg hl
  simp (config := { maxSteps := 2000000 }) only [go_sem, reduceIte, Nat.reduceEqDiff, Nat.reduceAdd, Nat.reduceLT, Nat.reduceLeDiff, Nat.reduceBEq, Nat.reduceMul, Nat.reduceSub, Nat.reduceDiv, Int.reduceNeg, Int.reduceLT, Int.reduceLE, Int.reduceEq, Int.reduceToNat, List.replicate_succ, lk8, laV, laC, ints]
  refine aops_pure' (hg) rfl rfl (by first | exact wk_refls _ | (repeat constructor)) ?_
  cases hgb : greatB l with
  | true =>
    simp (config := { maxSteps := 2000000 }) only [go_sem, reduceIte, Nat.reduceEqDiff, Nat.reduceAdd, Nat.reduceLT, Nat.reduceLeDiff, Nat.reduceBEq, Nat.reduceMul, Nat.reduceSub, Nat.reduceDiv, Int.reduceNeg, Int.reduceLT, Int.reduceLE, Int.reduceEq, Int.reduceToNat, List.replicate_succ, lk8]
    refine aops_pure' (works16) rfl rfl (by first | exact wk_refls _ | (repeat constructor)) ?_
    simp (config := { maxSteps := 2000000 }) only [go_sem, reduceIte, Nat.reduceEqDiff, Nat.reduceAdd, Nat.reduceLT, Nat.reduceLeDiff, Nat.reduceBEq, Nat.reduceMul, Nat.reduceSub, Nat.reduceDiv, Int.reduceNeg, Int.reduceLT, Int.reduceLE, Int.reduceEq, Int.reduceToNat, List.replicate_succ, lk8]
  | false =>
  simp (config := { maxSteps := 2000000 }) only [go_sem, reduceIte, Nat.reduceEqDiff, Nat.reduceAdd, Nat.reduceLT, Nat.reduceLeDiff, Nat.reduceBEq, Nat.reduceMul, Nat.reduceSub, Nat.reduceDiv, Int.reduceNeg, Int.reduceLT, Int.reduceLE, Int.reduceEq, Int.reduceToNat, List.replicate_succ, lk8]
  refine aops_pure' (hl) rfl rfl (by first | exact wk_refls _ | (repeat constructor)) ?_
  by_cases h0 : okLa l = 0
  case neg =>
    simp (config := { maxSteps := 2000000 }) only [go_sem, reduceIte, Nat.reduceEqDiff, Nat.reduceAdd, Nat.reduceLT, Nat.reduceLeDiff, Nat.reduceBEq, Nat.reduceMul, Nat.reduceSub, Nat.reduceDiv, Int.reduceNeg, Int.reduceLT, Int.reduceLE, Int.reduceEq, Int.reduceToNat, List.replicate_succ, lk8, h0]
    refine aops_pure' (works16) rfl rfl (by first | exact wk_refls _ | (repeat constructor)) ?_
    simp (config := { maxSteps := 2000000 }) only [go_sem, reduceIte, Nat.reduceEqDiff, Nat.reduceAdd, Nat.reduceLT, Nat.reduceLeDiff, Nat.reduceBEq, Nat.reduceMul, Nat.reduceSub, Nat.reduceDiv, Int.reduceNeg, Int.reduceLT, Int.reduceLE, Int.reduceEq, Int.reduceToNat, List.replicate_succ, lk8]
  by_cases hx : 100 < x.length
  · have hx' : (100 : Int) < x.length := by omega
    simp (config := { maxSteps := 2000000 }) only [go_sem, reduceIte, Nat.reduceEqDiff, Nat.reduceAdd, Nat.reduceLT, Nat.reduceLeDiff, Nat.reduceBEq, Nat.reduceMul, Nat.reduceSub, Nat.reduceDiv, Int.reduceNeg, Int.reduceLT, Int.reduceLE, Int.reduceEq, Int.reduceToNat, List.replicate_succ, lk8, h0, hx']
    refine aops_pure' (works16) rfl rfl (by first | exact wk_refls _ | (repeat constructor)) ?_
    simp (config := { maxSteps := 2000000 }) only [go_sem, reduceIte, Nat.reduceEqDiff, Nat.reduceAdd, Nat.reduceLT, Nat.reduceLeDiff, Nat.reduceBEq, Nat.reduceMul, Nat.reduceSub, Nat.reduceDiv, Int.reduceNeg, Int.reduceLT, Int.reduceLE, Int.reduceEq, Int.reduceToNat, List.replicate_succ, lk8]
  have hx' : ¬ (100 : Int) < x.length := by omega
  have ok := okLa_n h0
  have m2 := ok.m2
  have h1 := doubt25 l
  have h2 := end33 l false
  have e2 : dtA l = (clashF l).1 := by unfold dtA; rw [if_pos h0]
  have e3 : dtB l = (clashF l).2 := by unfold dtB; rw [if_pos h0]
  cases hd : dbB l with
  | true =>
    have e1 : dtE l = 0 := by unfold dtE; rw [if_pos h0, hd]; rfl
    obtain ⟨s1, s2, s3⟩ := clash_some ((clash_iff ok).1 hd)
    have e4 : cdE l (dtA l) (dtB l) = 0 := by rw [e2, e3, cdE_in h0 s1 s2, s3]; rfl
    have h3 := cdoubt23 l (dtA l) (dtB l)
    have h4 := cdoubt24 l (dtA l) (dtB l)
    have h5 := true21 l x
    have hno := ct_no (x := x) hd
    rw [e4] at h3 h4
    rw [e1] at h1
    rw [spE_21 h0 hd] at h2
    unfold laV laC at h1 h3 h4
    unfold laV laC ints at h2 h5
    simp (config := { maxSteps := 2000000 }) only [go_sem, reduceIte, Nat.reduceEqDiff, Nat.reduceAdd, Nat.reduceLT, Nat.reduceLeDiff, Nat.reduceBEq, Nat.reduceMul, Nat.reduceSub, Nat.reduceDiv, Int.reduceNeg, Int.reduceLT, Int.reduceLE, Int.reduceEq, Int.reduceToNat, List.replicate_succ, lk8, h0, hx']
    refine aops_pure' (h1) rfl rfl (by first | exact wk_refls _ | (repeat constructor)) ?_
    simp (config := { maxSteps := 2000000 }) only [go_sem, reduceIte, Nat.reduceEqDiff, Nat.reduceAdd, Nat.reduceLT, Nat.reduceLeDiff, Nat.reduceBEq, Nat.reduceMul, Nat.reduceSub, Nat.reduceDiv, Int.reduceNeg, Int.reduceLT, Int.reduceLE, Int.reduceEq, Int.reduceToNat, List.replicate_succ, lk8]
    refine aops_pure' (h2) rfl rfl (by first | exact wk_refls _ | (repeat constructor)) ?_
    simp (config := { maxSteps := 2000000 }) only [go_sem, reduceIte, Nat.reduceEqDiff, Nat.reduceAdd, Nat.reduceLT, Nat.reduceLeDiff, Nat.reduceBEq, Nat.reduceMul, Nat.reduceSub, Nat.reduceDiv, Int.reduceNeg, Int.reduceLT, Int.reduceLE, Int.reduceEq, Int.reduceToNat, List.replicate_succ, lk8]
    refine aops_pure' (h3) rfl rfl (by first | exact wk_refls _ | (repeat constructor)) ?_
    simp (config := { maxSteps := 2000000 }) only [go_sem, reduceIte, Nat.reduceEqDiff, Nat.reduceAdd, Nat.reduceLT, Nat.reduceLeDiff, Nat.reduceBEq, Nat.reduceMul, Nat.reduceSub, Nat.reduceDiv, Int.reduceNeg, Int.reduceLT, Int.reduceLE, Int.reduceEq, Int.reduceToNat, List.replicate_succ, lk8]
    refine aops_pure' (h4) rfl rfl (by first | exact wk_refls _ | (repeat constructor)) ?_
    simp (config := { maxSteps := 2000000 }) only [go_sem, reduceIte, Nat.reduceEqDiff, Nat.reduceAdd, Nat.reduceLT, Nat.reduceLeDiff, Nat.reduceBEq, Nat.reduceMul, Nat.reduceSub, Nat.reduceDiv, Int.reduceNeg, Int.reduceLT, Int.reduceLE, Int.reduceEq, Int.reduceToNat, List.replicate_succ, lk8]
    refine aops_pure' (h5) rfl rfl (by first | exact wk_refls _ | (repeat constructor)) ?_
    simp (config := { maxSteps := 2000000 }) only [go_sem, reduceIte, Nat.reduceEqDiff, Nat.reduceAdd, Nat.reduceLT, Nat.reduceLeDiff, Nat.reduceBEq, Nat.reduceMul, Nat.reduceSub, Nat.reduceDiv, Int.reduceNeg, Int.reduceLT, Int.reduceLE, Int.reduceEq, Int.reduceToNat, List.replicate_succ, lk8, hno]
    refine aops_pure' (works16) rfl rfl (by first | exact wk_refls _ | (repeat constructor)) ?_
    simp (config := { maxSteps := 2000000 }) only [go_sem, reduceIte, Nat.reduceEqDiff, Nat.reduceAdd, Nat.reduceLT, Nat.reduceLeDiff, Nat.reduceBEq, Nat.reduceMul, Nat.reduceSub, Nat.reduceDiv, Int.reduceNeg, Int.reduceLT, Int.reduceLE, Int.reduceEq, Int.reduceToNat, List.replicate_succ, lk8]
  | false =>
    have e1 : dtE l = 5 := by unfold dtE; rw [if_pos h0, hd]; rfl
    have hsp := spE_0 h0 hd
    obtain ⟨c1, _⟩ := enL_true hsp false
    have h5 := true21 l (enL l false)
    have h6 := true22 l (enL l false)
    rw [c1] at h5 h6
    rw [e1] at h1
    rw [hsp] at h2
    obtain ⟨⟨b1, b2⟩, b3, b4⟩ := hp
    have hn : ¬ (l.an.length : Int) = 0 := by omega
    have hc := fun i k => cd_no h0 hd i k
    have h7 := fun i k => cdoubt23 l i k
    have m11 := ok.m11
    have hm : ∀ m : Int, 0 ≤ m → m < 256 → wr .i64 (m.tmod l.an.length) = m.tmod l.an.length := fun m a b => by
      have q0 : 0 ≤ m.tmod l.an.length := Int.tmod_nonneg _ a
      have q1 : m.tmod l.an.length < l.an.length := by rw [Int.tmod_eq_emod_of_nonneg a]; exact Int.emod_lt_of_pos _ (by omega)
      exact wr_in (by omega)
    have hm1 := hm _ b1 b2
    have hm2 := hm _ b3 b4
    have v1 := wr_small b1 (show p.1 < 65536 by clear hm1 hm2; omega)
    have v2 := wr_small b3 (show p.2 < 65536 by clear hm1 hm2 v1; omega)
    unfold laV laC at h1
    unfold laV laC ints at h2 h5 h6
    unfold laV laC at h7
    simp (config := { maxSteps := 2000000 }) only [go_sem, reduceIte, Nat.reduceEqDiff, Nat.reduceAdd, Nat.reduceLT, Nat.reduceLeDiff, Nat.reduceBEq, Nat.reduceMul, Nat.reduceSub, Nat.reduceDiv, Int.reduceNeg, Int.reduceLT, Int.reduceLE, Int.reduceEq, Int.reduceToNat, List.replicate_succ, lk8, h0, hx']
    refine aops_pure' (h1) rfl rfl (by first | exact wk_refls _ | (repeat constructor)) ?_
    simp (config := { maxSteps := 2000000 }) only [go_sem, reduceIte, Nat.reduceEqDiff, Nat.reduceAdd, Nat.reduceLT, Nat.reduceLeDiff, Nat.reduceBEq, Nat.reduceMul, Nat.reduceSub, Nat.reduceDiv, Int.reduceNeg, Int.reduceLT, Int.reduceLE, Int.reduceEq, Int.reduceToNat, List.replicate_succ, lk8]
    refine aops_pure' (h2) rfl rfl (by first | exact wk_refls _ | (repeat constructor)) ?_
    simp (config := { maxSteps := 2000000 }) only [go_sem, reduceIte, Nat.reduceEqDiff, Nat.reduceAdd, Nat.reduceLT, Nat.reduceLeDiff, Nat.reduceBEq, Nat.reduceMul, Nat.reduceSub, Nat.reduceDiv, Int.reduceNeg, Int.reduceLT, Int.reduceLE, Int.reduceEq, Int.reduceToNat, List.replicate_succ, lk8, v1, v2, hn, hm1, hm2]
    refine aops_pure' (h5) rfl rfl (by first | exact wk_refls _ | (repeat constructor)) ?_
    simp (config := { maxSteps := 2000000 }) only [go_sem, reduceIte, Nat.reduceEqDiff, Nat.reduceAdd, Nat.reduceLT, Nat.reduceLeDiff, Nat.reduceBEq, Nat.reduceMul, Nat.reduceSub, Nat.reduceDiv, Int.reduceNeg, Int.reduceLT, Int.reduceLE, Int.reduceEq, Int.reduceToNat, List.replicate_succ, lk8]
    refine aops_pure' (h6) rfl rfl (by first | exact wk_refls _ | (repeat constructor)) ?_
    simp (config := { maxSteps := 2000000 }) only [go_sem, reduceIte, Nat.reduceEqDiff, Nat.reduceAdd, Nat.reduceLT, Nat.reduceLeDiff, Nat.reduceBEq, Nat.reduceMul, Nat.reduceSub, Nat.reduceDiv, Int.reduceNeg, Int.reduceLT, Int.reduceLE, Int.reduceEq, Int.reduceToNat, List.replicate_succ, lk8]
    refine aops_pure' (h7 _ _) rfl rfl (by first | exact wk_refls _ | (repeat constructor)) ?_
    simp (config := { maxSteps := 2000000 }) only [go_sem, reduceIte, Nat.reduceEqDiff, Nat.reduceAdd, Nat.reduceLT, Nat.reduceLeDiff, Nat.reduceBEq, Nat.reduceMul, Nat.reduceSub, Nat.reduceDiv, Int.reduceNeg, Int.reduceLT, Int.reduceLE, Int.reduceEq, Int.reduceToNat, List.replicate_succ, lk8, hc]
    refine aops_pure' (works16) rfl rfl (by first | exact wk_refls _ | (repeat constructor)) ?_
    simp (config := { maxSteps := 2000000 }) only [go_sem, reduceIte, Nat.reduceEqDiff, Nat.reduceAdd, Nat.reduceLT, Nat.reduceLeDiff, Nat.reduceBEq, Nat.reduceMul, Nat.reduceSub, Nat.reduceDiv, Int.reduceNeg, Int.reduceLT, Int.reduceLE, Int.reduceEq, Int.reduceToNat, List.replicate_succ, lk8]
end Go.Proofs.Ytliamojogmlgjaa
