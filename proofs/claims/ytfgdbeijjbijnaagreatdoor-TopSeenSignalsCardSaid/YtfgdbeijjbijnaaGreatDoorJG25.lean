/- Signals: the document's corners of a box. -/
import Derived.Test.YtfgdbeijjbijnaaGreatDoorJG24
import Derived.Test.YtfgdbeijjbijnaaGreatDoorJG23
import Derived.Test.YtfgdbeijjbijnaaGreatDoorJG21
import Derived.Test.YtfgdbeijjbijnaaGreatDoorJG17
set_option linter.unusedSimpArgs false
set_option linter.unusedVariables false
set_option linter.unusedSimpArgs false
set_option linter.unusedVariables false
set_option maxRecDepth 100000
namespace Go.Proofs.YtfgdbeijjbijnaaGreatDoor
open Go Go.Abs Go.Proofs
theorem Ai (v : Int) : (v < v) = False := by simp
theorem Mo {a b : Int} (ha : 0 < a) (hb : 0 < b) : ¬ a * b < 0 ∧ ¬ a * b = 0 ∧ -(a * b) < 0 := by
 have := Int.mul_pos ha hb
 omega
set_option maxHeartbeats 16000000 in
theorem UB {x0 y0 : Int} (bx0 : B1 x0) (by0 : B1 y0) : AF Tryz.prog 141 [qs (Bf x0 x0 y0 y0)] (qs [(x0, y0)]) := by
 refine pure_wkE (bad := []) (kp := Aq) (X := tx) (nt := 119) (rs := [.tmp 2]) Tryz.func141 rfl rfl rfl rfl mo (by kernel_rfl) rfl rfl (fun hf => ?_)
 have u3 : x0 - x0 = 0 := by omega
 have v3 : y0 - y0 = 0 := by omega
 simp (maxSteps := 2000000) only [go_sem, reduceIte, Nat.reduceEqDiff, Nat.reduceAdd, Int.reduceLT, Int.reduceLE, Int.reduceToNat, qs, qD, Bf, List.map_cons, List.map_nil, Ak, Ai, Int.lt_irrefl]
 refine Ah 4 ?_
 refine Aa (bad := []) (kp := Aq) mo (by kernel_rfl) ?_
 simp (maxSteps := 2000000) only [go_sem, reduceIte, Nat.reduceEqDiff, Nat.reduceAdd, Nat.reduceLeDiff, Nat.reduceBEq, Int.reduceLT, Int.reduceLE, Int.reduceToNat, Ak, Ai, Int.lt_irrefl]
 refine Aa (bad := []) (kp := Aq) mo (by kernel_rfl) ?_
 simp (maxSteps := 2000000) only [go_sem, reduceIte, Nat.reduceEqDiff, Nat.reduceAdd, Nat.reduceLeDiff, Nat.reduceBEq, Int.reduceLT, Int.reduceLE, Int.reduceToNat, Ak, Ai, Int.lt_irrefl]
 refine Aa (bad := []) (kp := Aq) mo (by kernel_rfl) ?_
 simp (maxSteps := 2000000) only [go_sem, reduceIte, Nat.reduceEqDiff, Nat.reduceAdd, Nat.reduceLeDiff, Nat.reduceBEq, Int.reduceLT, Int.reduceLE, Int.reduceToNat, Ak, Ai, Int.lt_irrefl]
 refine Aa (bad := []) (kp := Aq) mo (by kernel_rfl) ?_
 simp (maxSteps := 2000000) only [go_sem, reduceIte, Nat.reduceEqDiff, Nat.reduceAdd, Nat.reduceLeDiff, Nat.reduceBEq, Nat.reduceMul, Ak, Ai, Int.lt_irrefl]
 refine Ah 6 ?_
 refine Aa (bad := []) (kp := Aq) mo (by kernel_rfl) ?_
 simp (maxSteps := 2000000) only [go_sem, reduceIte, Nat.reduceEqDiff, Nat.reduceAdd, Int.reduceLT, Int.reduceLE, Int.reduceToNat, Ak, Ai, Int.lt_irrefl]
 refine Ah 6 ?_
 refine Aa (bad := []) (kp := Aq) mo (by kernel_rfl) ?_
 simp (maxSteps := 2000000) only [go_sem, reduceIte, Nat.reduceEqDiff, Nat.reduceAdd, Int.reduceLT, Int.reduceLE, Int.reduceToNat, Ak, Ai, Int.lt_irrefl]
 refine Aa (bad := []) (kp := Aq) mo (by kernel_rfl) ?_
 simp (maxSteps := 2000000) only [go_sem, reduceIte, Nat.reduceEqDiff, Nat.reduceAdd, Int.reduceLT, Int.reduceLE, Int.reduceToNat, Ak, Ai, Int.lt_irrefl]
 refine Aa (bad := []) (kp := Aq) mo (by kernel_rfl) ?_
 simp (maxSteps := 2000000) only [go_sem, reduceIte, Nat.reduceEqDiff, Nat.reduceAdd, Int.reduceLT, Int.reduceLE, Int.reduceToNat, Ak, Ai, Int.lt_irrefl]
 refine Aa (bad := []) (kp := Aq) mo (by kernel_rfl) ?_
 simp (maxSteps := 2000000) only [go_sem, reduceIte, Nat.reduceEqDiff, Nat.reduceAdd, Int.reduceLT, Int.reduceLE, Int.reduceToNat, Ak, Ai, Int.lt_irrefl]
 refine Aa (bad := []) (kp := Aq) mo (by kernel_rfl) ?_
 simp (maxSteps := 2000000) only [go_sem, reduceIte, Nat.reduceEqDiff, Nat.reduceAdd, Ak, Ai, Int.lt_irrefl]
 all_goals first | exact .refl _ | exact ⟨.refl _, .refl _⟩ | exact ⟨.refl _, .refl _, .refl _⟩ | exact ⟨.refl _, _, rfl⟩ | exact ⟨_, rfl⟩ | exact ⟨.refl _, [], by simp⟩ | exact ⟨[], by simp⟩
set_option maxHeartbeats 16000000 in
theorem UC {x0 x1 y0 : Int} (bx0 : B1 x0) (bx1 : B1 x1) (by0 : B1 y0) (hx : x0 < x1) : AF Tryz.prog 141 [qs (Bf x0 x1 y0 y0)] (qs [(x0, y0), (x1, y0)]) := by
 refine pure_wkE (bad := []) (kp := Aq) (X := tx) (nt := 119) (rs := [.tmp 2]) Tryz.func141 rfl rfl rfl rfl mo (by kernel_rfl) rfl rfl (fun hf => ?_)
 have k0 := Bk (Av bx0 by0) (Av bx0 by0) (Av bx1 by0)
 have k1 := Bk (Av bx0 by0) (Av bx1 by0) (Av bx1 by0)
 have k2 := Bk (Av bx1 by0) (Av bx1 by0) (Av bx0 by0)
 have k3 := Bk (Av bx1 by0) (Av bx0 by0) (Av bx0 by0)
 have f0 := Ow (Av bx0 by0) (Av bx1 by0)
 have f1 := Ow (Av bx1 by0) (Av bx0 by0)
 obtain ⟨dx, rfl⟩ : ∃ dx, x1 = x0 + dx := ⟨x1 - x0, by omega⟩
 have hdx : 0 < dx := by omega
 have u1 : x0 + dx - x0 = dx := by omega
 have u2 : x0 - (x0 + dx) = -dx := by omega
 have u4 : x0 + dx - (x0 + dx) = 0 := by omega
 have n1 : ¬ x0 + dx = x0 := by omega
 have n2 : ¬ x0 = x0 + dx := by omega
 have n3 : ¬ x0 + dx < x0 := by omega
 have u3 : x0 - x0 = 0 := by omega
 have v3 : y0 - y0 = 0 := by omega
 simp only [qV, qC, Cw, Be, BJ, u1, u2, u4, u3, v3, Int.mul_zero, Int.zero_mul, Int.sub_zero, Int.zero_sub, Int.neg_mul, Int.mul_neg, Int.neg_neg, Int.neg_zero, Int.add_zero, Int.zero_add, Int.sub_self] at k0 k1 k2 k3 f0 f1
 simp (maxSteps := 2000000) only [go_sem, reduceIte, Nat.reduceEqDiff, Nat.reduceAdd, Int.reduceLT, Int.reduceLE, Int.reduceToNat, qs, qD, Bf, List.map_cons, List.map_nil, Ak, n1, n2, n3, Ai, Int.lt_irrefl]
 refine Ah 4 ?_
 refine Aa (bad := []) (kp := Aq) mo (by kernel_rfl) ?_
 simp (maxSteps := 2000000) only [go_sem, reduceIte, Nat.reduceEqDiff, Nat.reduceAdd, Nat.reduceLeDiff, Nat.reduceBEq, Int.reduceLT, Int.reduceLE, Int.reduceToNat, Ak, n1, n2, n3, Ai, Int.lt_irrefl]
 refine Aa (bad := []) (kp := Aq) mo (by kernel_rfl) ?_
 simp (maxSteps := 2000000) only [go_sem, reduceIte, Nat.reduceEqDiff, Nat.reduceAdd, Nat.reduceLeDiff, Nat.reduceBEq, Int.reduceLT, Int.reduceLE, Int.reduceToNat, Ak, n1, n2, n3, Ai, Int.lt_irrefl]
 refine Aa (bad := []) (kp := Aq) mo (by kernel_rfl) ?_
 simp (maxSteps := 2000000) only [go_sem, reduceIte, Nat.reduceEqDiff, Nat.reduceAdd, Nat.reduceLeDiff, Nat.reduceBEq, Int.reduceLT, Int.reduceLE, Int.reduceToNat, Ak, n1, n2, n3, Ai, Int.lt_irrefl]
 refine Aa (bad := []) (kp := Aq) mo (by kernel_rfl) ?_
 simp (maxSteps := 2000000) only [go_sem, reduceIte, Nat.reduceEqDiff, Nat.reduceAdd, Nat.reduceLeDiff, Nat.reduceBEq, Nat.reduceMul, Ak, n1, n2, n3, Ai, Int.lt_irrefl]
 refine Ah 6 ?_
 refine Aa (bad := []) (kp := Aq) mo (by kernel_rfl) ?_
 simp (maxSteps := 2000000) only [go_sem, reduceIte, Nat.reduceEqDiff, Nat.reduceAdd, Int.reduceLT, Int.reduceLE, Int.reduceToNat, Ak, n1, n2, n3, Ai, Int.lt_irrefl]
 refine Ah 6 ?_
 refine Aa (bad := []) (kp := Aq) mo (by kernel_rfl) ?_
 simp (maxSteps := 2000000) only [go_sem, reduceIte, Nat.reduceEqDiff, Nat.reduceAdd, Int.reduceLT, Int.reduceLE, Int.reduceToNat, Ak, n1, n2, n3, Ai, Int.lt_irrefl]
 refine Aa (bad := []) (kp := Aq) mo (by kernel_rfl) ?_
 simp (maxSteps := 2000000) only [go_sem, reduceIte, Nat.reduceEqDiff, Nat.reduceAdd, Int.reduceLT, Int.reduceLE, Int.reduceToNat, Ak, n1, n2, n3, Ai, Int.lt_irrefl]
 refine Af (k0) rfl rfl (by first | exact wk_refls _ | (repeat constructor)) (by kernel_rfl) ?_
 simp (maxSteps := 2000000) only [go_sem, reduceIte, Nat.reduceEqDiff, Nat.reduceAdd, Int.reduceLT, Int.reduceLE, Int.reduceToNat, Ak, n1, n2, n3, Ai, Int.lt_irrefl]
 refine Aa (bad := []) (kp := Aq) mo (by kernel_rfl) ?_
 simp (maxSteps := 2000000) only [go_sem, reduceIte, Nat.reduceEqDiff, Nat.reduceAdd, Int.reduceLT, Int.reduceLE, Int.reduceToNat, Ak, n1, n2, n3, Ai, Int.lt_irrefl]
 refine Af (k1) rfl rfl (by first | exact wk_refls _ | (repeat constructor)) (by kernel_rfl) ?_
 simp (maxSteps := 2000000) only [go_sem, reduceIte, Nat.reduceEqDiff, Nat.reduceAdd, Int.reduceLT, Int.reduceLE, Int.reduceToNat, Ak, n1, n2, n3, Ai, Int.lt_irrefl]
 refine Af (f0) rfl rfl (by first | exact wk_refls _ | (repeat constructor)) (by kernel_rfl) ?_
 simp (maxSteps := 2000000) only [go_sem, reduceIte, Nat.reduceEqDiff, Nat.reduceAdd, Ak, n1, n2, n3, Ai, Int.lt_irrefl]
 refine Af (f0) rfl rfl (by first | exact wk_refls _ | (repeat constructor)) (by kernel_rfl) ?_
 simp (maxSteps := 2000000) only [go_sem, reduceIte, Nat.reduceEqDiff, Nat.reduceAdd, Ak, n1, n2, n3, Ai, Int.lt_irrefl]
 refine Aa (bad := []) (kp := Aq) mo (by kernel_rfl) ?_
 simp (maxSteps := 2000000) only [go_sem, reduceIte, Nat.reduceEqDiff, Nat.reduceAdd, Nat.reduceLT, Nat.reduceLeDiff, Nat.reduceBEq, Nat.reduceMul, Nat.reduceDiv, Int.reduceLT, Int.reduceLE, Int.reduceToNat, Ak, n1, n2, n3, Ai, Int.lt_irrefl]
 refine Aa (bad := []) (kp := Aq) mo (by kernel_rfl) ?_
 simp (maxSteps := 2000000) only [go_sem, reduceIte, Nat.reduceEqDiff, Nat.reduceAdd, Nat.reduceLT, Nat.reduceLeDiff, Nat.reduceBEq, Nat.reduceMul, Nat.reduceDiv, Ak, n1, n2, n3, Ai, Int.lt_irrefl]
 refine Aa (bad := []) (kp := Aq) mo (by kernel_rfl) ?_
 simp (maxSteps := 2000000) only [go_sem, reduceIte, Nat.reduceEqDiff, Nat.reduceAdd, Int.reduceLT, Int.reduceLE, Int.reduceToNat, Ak, n1, n2, n3, Ai, Int.lt_irrefl]
 refine Ah 6 ?_
 refine Aa (bad := []) (kp := Aq) mo (by kernel_rfl) ?_
 simp (maxSteps := 2000000) only [go_sem, reduceIte, Nat.reduceEqDiff, Nat.reduceAdd, Int.reduceLT, Int.reduceLE, Int.reduceToNat, Ak, n1, n2, n3, Ai, Int.lt_irrefl]
 refine Af (k2) rfl rfl (by first | exact wk_refls _ | (repeat constructor)) (by kernel_rfl) ?_
 simp (maxSteps := 2000000) only [go_sem, reduceIte, Nat.reduceEqDiff, Nat.reduceAdd, Int.reduceLT, Int.reduceLE, Int.reduceToNat, Ak, n1, n2, n3, Ai, Int.lt_irrefl]
 refine Aa (bad := []) (kp := Aq) mo (by kernel_rfl) ?_
 simp (maxSteps := 2000000) only [go_sem, reduceIte, Nat.reduceEqDiff, Nat.reduceAdd, Int.reduceLT, Int.reduceLE, Int.reduceToNat, Ak, n1, n2, n3, Ai, Int.lt_irrefl]
 refine Aa (bad := []) (kp := Aq) mo (by kernel_rfl) ?_
 simp (maxSteps := 2000000) only [go_sem, reduceIte, Nat.reduceEqDiff, Nat.reduceAdd, Int.reduceLT, Int.reduceLE, Int.reduceToNat, Ak, n1, n2, n3, Ai, Int.lt_irrefl]
 refine Aa (bad := []) (kp := Aq) mo (by kernel_rfl) ?_
 simp (maxSteps := 2000000) only [go_sem, reduceIte, Nat.reduceEqDiff, Nat.reduceAdd, Int.reduceLT, Int.reduceLE, Int.reduceToNat, Ak, n1, n2, n3, Ai, Int.lt_irrefl]
 refine Af (k3) rfl rfl (by first | exact wk_refls _ | (repeat constructor)) (by kernel_rfl) ?_
 simp (maxSteps := 2000000) only [go_sem, reduceIte, Nat.reduceEqDiff, Nat.reduceAdd, Int.reduceLT, Int.reduceLE, Int.reduceToNat, Ak, n1, n2, n3, Ai, Int.lt_irrefl]
 refine Af (f1) rfl rfl (by first | exact wk_refls _ | (repeat constructor)) (by kernel_rfl) ?_
 simp (maxSteps := 2000000) only [go_sem, reduceIte, Nat.reduceEqDiff, Nat.reduceAdd, Ak, n1, n2, n3, Ai, Int.lt_irrefl]
 refine Af (f1) rfl rfl (by first | exact wk_refls _ | (repeat constructor)) (by kernel_rfl) ?_
 simp (maxSteps := 2000000) only [go_sem, reduceIte, Nat.reduceEqDiff, Nat.reduceAdd, Ak, n1, n2, n3, Ai, Int.lt_irrefl]
 refine Aa (bad := []) (kp := Aq) mo (by kernel_rfl) ?_
 simp (maxSteps := 2000000) only [go_sem, reduceIte, Nat.reduceEqDiff, Nat.reduceAdd, Ak, n1, n2, n3, Ai, Int.lt_irrefl]
 all_goals first | exact .refl _ | exact ⟨.refl _, .refl _⟩ | exact ⟨.refl _, .refl _, .refl _⟩ | exact ⟨.refl _, _, rfl⟩ | exact ⟨_, rfl⟩ | exact ⟨.refl _, [], by simp⟩ | exact ⟨[], by simp⟩
set_option maxHeartbeats 16000000 in
theorem UD {x0 y0 y1 : Int} (bx0 : B1 x0) (by0 : B1 y0) (by1 : B1 y1) (hy : y0 < y1) : AF Tryz.prog 141 [qs (Bf x0 x0 y0 y1)] (qs [(x0, y0), (x0, y1)]) := by
 refine pure_wkE (bad := []) (kp := Aq) (X := tx) (nt := 119) (rs := [.tmp 2]) Tryz.func141 rfl rfl rfl rfl mo (by kernel_rfl) rfl rfl (fun hf => ?_)
 have k0 := Bk (Av bx0 by0) (Av bx0 by0) (Av bx0 by1)
 have k1 := Bk (Av bx0 by0) (Av bx0 by1) (Av bx0 by1)
 have k2 := Bk (Av bx0 by1) (Av bx0 by1) (Av bx0 by0)
 have k3 := Bk (Av bx0 by1) (Av bx0 by0) (Av bx0 by0)
 have f0 := Ow (Av bx0 by0) (Av bx0 by1)
 have f1 := Ow (Av bx0 by1) (Av bx0 by0)
 have u3 : x0 - x0 = 0 := by omega
 have v3 : y0 - y0 = 0 := by omega
 obtain ⟨dy, rfl⟩ : ∃ dy, y1 = y0 + dy := ⟨y1 - y0, by omega⟩
 have hdy : 0 < dy := by omega
 have v1 : y0 + dy - y0 = dy := by omega
 have v2 : y0 - (y0 + dy) = -dy := by omega
 have v4 : y0 + dy - (y0 + dy) = 0 := by omega
 have m1 : ¬ y0 + dy = y0 := by omega
 have m2 : ¬ y0 = y0 + dy := by omega
 have m3 : ¬ y0 + dy < y0 := by omega
 simp only [qV, qC, Cw, Be, BJ, u3, v3, v1, v2, v4, Int.mul_zero, Int.zero_mul, Int.sub_zero, Int.zero_sub, Int.neg_mul, Int.mul_neg, Int.neg_neg, Int.neg_zero, Int.add_zero, Int.zero_add, Int.sub_self] at k0 k1 k2 k3 f0 f1
 simp (maxSteps := 2000000) only [go_sem, reduceIte, Nat.reduceEqDiff, Nat.reduceAdd, Int.reduceLT, Int.reduceLE, Int.reduceToNat, qs, qD, Bf, List.map_cons, List.map_nil, Ak, m1, m2, m3, Ai, Int.lt_irrefl]
 refine Ah 4 ?_
 refine Aa (bad := []) (kp := Aq) mo (by kernel_rfl) ?_
 simp (maxSteps := 2000000) only [go_sem, reduceIte, Nat.reduceEqDiff, Nat.reduceAdd, Nat.reduceLeDiff, Nat.reduceBEq, Int.reduceLT, Int.reduceLE, Int.reduceToNat, Ak, m1, m2, m3, Ai, Int.lt_irrefl]
 refine Aa (bad := []) (kp := Aq) mo (by kernel_rfl) ?_
 simp (maxSteps := 2000000) only [go_sem, reduceIte, Nat.reduceEqDiff, Nat.reduceAdd, Nat.reduceLeDiff, Nat.reduceBEq, Int.reduceLT, Int.reduceLE, Int.reduceToNat, Ak, m1, m2, m3, Ai, Int.lt_irrefl]
 refine Aa (bad := []) (kp := Aq) mo (by kernel_rfl) ?_
 simp (maxSteps := 2000000) only [go_sem, reduceIte, Nat.reduceEqDiff, Nat.reduceAdd, Nat.reduceLeDiff, Nat.reduceBEq, Int.reduceLT, Int.reduceLE, Int.reduceToNat, Ak, m1, m2, m3, Ai, Int.lt_irrefl]
 refine Aa (bad := []) (kp := Aq) mo (by kernel_rfl) ?_
 simp (maxSteps := 2000000) only [go_sem, reduceIte, Nat.reduceEqDiff, Nat.reduceAdd, Nat.reduceLeDiff, Nat.reduceBEq, Nat.reduceMul, Ak, m1, m2, m3, Ai, Int.lt_irrefl]
 refine Ah 6 ?_
 refine Aa (bad := []) (kp := Aq) mo (by kernel_rfl) ?_
 simp (maxSteps := 2000000) only [go_sem, reduceIte, Nat.reduceEqDiff, Nat.reduceAdd, Int.reduceLT, Int.reduceLE, Int.reduceToNat, Ak, m1, m2, m3, Ai, Int.lt_irrefl]
 refine Ah 6 ?_
 refine Aa (bad := []) (kp := Aq) mo (by kernel_rfl) ?_
 simp (maxSteps := 2000000) only [go_sem, reduceIte, Nat.reduceEqDiff, Nat.reduceAdd, Int.reduceLT, Int.reduceLE, Int.reduceToNat, Ak, m1, m2, m3, Ai, Int.lt_irrefl]
 refine Aa (bad := []) (kp := Aq) mo (by kernel_rfl) ?_
 simp (maxSteps := 2000000) only [go_sem, reduceIte, Nat.reduceEqDiff, Nat.reduceAdd, Int.reduceLT, Int.reduceLE, Int.reduceToNat, Ak, m1, m2, m3, Ai, Int.lt_irrefl]
 refine Aa (bad := []) (kp := Aq) mo (by kernel_rfl) ?_
 simp (maxSteps := 2000000) only [go_sem, reduceIte, Nat.reduceEqDiff, Nat.reduceAdd, Int.reduceLT, Int.reduceLE, Int.reduceToNat, Ak, m1, m2, m3, Ai, Int.lt_irrefl]
 refine Af (k0) rfl rfl (by first | exact wk_refls _ | (repeat constructor)) (by kernel_rfl) ?_
 simp (maxSteps := 2000000) only [go_sem, reduceIte, Nat.reduceEqDiff, Nat.reduceAdd, Int.reduceLT, Int.reduceLE, Int.reduceToNat, Ak, m1, m2, m3, Ai, Int.lt_irrefl]
 refine Aa (bad := []) (kp := Aq) mo (by kernel_rfl) ?_
 simp (maxSteps := 2000000) only [go_sem, reduceIte, Nat.reduceEqDiff, Nat.reduceAdd, Int.reduceLT, Int.reduceLE, Int.reduceToNat, Ak, m1, m2, m3, Ai, Int.lt_irrefl]
 refine Af (k1) rfl rfl (by first | exact wk_refls _ | (repeat constructor)) (by kernel_rfl) ?_
 simp (maxSteps := 2000000) only [go_sem, reduceIte, Nat.reduceEqDiff, Nat.reduceAdd, Int.reduceLT, Int.reduceLE, Int.reduceToNat, Ak, m1, m2, m3, Ai, Int.lt_irrefl]
 refine Af (f0) rfl rfl (by first | exact wk_refls _ | (repeat constructor)) (by kernel_rfl) ?_
 simp (maxSteps := 2000000) only [go_sem, reduceIte, Nat.reduceEqDiff, Nat.reduceAdd, Ak, m1, m2, m3, Ai, Int.lt_irrefl]
 refine Af (f0) rfl rfl (by first | exact wk_refls _ | (repeat constructor)) (by kernel_rfl) ?_
 simp (maxSteps := 2000000) only [go_sem, reduceIte, Nat.reduceEqDiff, Nat.reduceAdd, Ak, m1, m2, m3, Ai, Int.lt_irrefl]
 refine Aa (bad := []) (kp := Aq) mo (by kernel_rfl) ?_
 simp (maxSteps := 2000000) only [go_sem, reduceIte, Nat.reduceEqDiff, Nat.reduceAdd, Nat.reduceLT, Nat.reduceLeDiff, Nat.reduceBEq, Nat.reduceMul, Nat.reduceDiv, Ak, m1, m2, m3, Ai, Int.lt_irrefl]
 refine Aa (bad := []) (kp := Aq) mo (by kernel_rfl) ?_
 simp (maxSteps := 2000000) only [go_sem, reduceIte, Nat.reduceEqDiff, Nat.reduceAdd, Int.reduceLT, Int.reduceLE, Int.reduceToNat, Ak, m1, m2, m3, Ai, Int.lt_irrefl]
 refine Ah 6 ?_
 refine Aa (bad := []) (kp := Aq) mo (by kernel_rfl) ?_
 simp (maxSteps := 2000000) only [go_sem, reduceIte, Nat.reduceEqDiff, Nat.reduceAdd, Int.reduceLT, Int.reduceLE, Int.reduceToNat, Ak, m1, m2, m3, Ai, Int.lt_irrefl]
 refine Af (k2) rfl rfl (by first | exact wk_refls _ | (repeat constructor)) (by kernel_rfl) ?_
 simp (maxSteps := 2000000) only [go_sem, reduceIte, Nat.reduceEqDiff, Nat.reduceAdd, Int.reduceLT, Int.reduceLE, Int.reduceToNat, Ak, m1, m2, m3, Ai, Int.lt_irrefl]
 refine Aa (bad := []) (kp := Aq) mo (by kernel_rfl) ?_
 simp (maxSteps := 2000000) only [go_sem, reduceIte, Nat.reduceEqDiff, Nat.reduceAdd, Int.reduceLT, Int.reduceLE, Int.reduceToNat, Ak, m1, m2, m3, Ai, Int.lt_irrefl]
 refine Af (k3) rfl rfl (by first | exact wk_refls _ | (repeat constructor)) (by kernel_rfl) ?_
 simp (maxSteps := 2000000) only [go_sem, reduceIte, Nat.reduceEqDiff, Nat.reduceAdd, Int.reduceLT, Int.reduceLE, Int.reduceToNat, Ak, m1, m2, m3, Ai, Int.lt_irrefl]
 refine Af (f1) rfl rfl (by first | exact wk_refls _ | (repeat constructor)) (by kernel_rfl) ?_
 simp (maxSteps := 2000000) only [go_sem, reduceIte, Nat.reduceEqDiff, Nat.reduceAdd, Ak, m1, m2, m3, Ai, Int.lt_irrefl]
 refine Af (f1) rfl rfl (by first | exact wk_refls _ | (repeat constructor)) (by kernel_rfl) ?_
 simp (maxSteps := 2000000) only [go_sem, reduceIte, Nat.reduceEqDiff, Nat.reduceAdd, Ak, m1, m2, m3, Ai, Int.lt_irrefl]
 refine Aa (bad := []) (kp := Aq) mo (by kernel_rfl) ?_
 simp (maxSteps := 2000000) only [go_sem, reduceIte, Nat.reduceEqDiff, Nat.reduceAdd, Int.reduceLT, Int.reduceLE, Int.reduceToNat, Ak, m1, m2, m3, Ai, Int.lt_irrefl]
 refine Aa (bad := []) (kp := Aq) mo (by kernel_rfl) ?_
 simp (maxSteps := 2000000) only [go_sem, reduceIte, Nat.reduceEqDiff, Nat.reduceAdd, Int.reduceLT, Int.reduceLE, Int.reduceToNat, Ak, m1, m2, m3, Ai, Int.lt_irrefl]
 refine Aa (bad := []) (kp := Aq) mo (by kernel_rfl) ?_
 simp (maxSteps := 2000000) only [go_sem, reduceIte, Nat.reduceEqDiff, Nat.reduceAdd, Ak, m1, m2, m3, Ai, Int.lt_irrefl]
 all_goals first | exact .refl _ | exact ⟨.refl _, .refl _⟩ | exact ⟨.refl _, .refl _, .refl _⟩ | exact ⟨.refl _, _, rfl⟩ | exact ⟨_, rfl⟩ | exact ⟨.refl _, [], by simp⟩ | exact ⟨[], by simp⟩
set_option maxHeartbeats 16000000 in
theorem UE {x0 x1 y0 y1 : Int} (bx0 : B1 x0) (bx1 : B1 x1) (by0 : B1 y0) (by1 : B1 y1) (hx : x0 < x1) (hy : y0 < y1) : AF Tryz.prog 141 [qs (Bf x0 x1 y0 y1)] (qs [(x0, y0), (x1, y0), (x1, y1), (x0, y1)]) := by
 refine pure_wkE (bad := []) (kp := Aq) (X := tx) (nt := 119) (rs := [.tmp 2]) Tryz.func141 rfl rfl rfl rfl mo (by kernel_rfl) rfl rfl (fun hf => ?_)
 have k0 := Bk (Av bx0 by0) (Av bx0 by0) (Av bx1 by0)
 have k1 := Bk (Av bx0 by0) (Av bx1 by0) (Av bx1 by1)
 have k2 := Bk (Av bx0 by0) (Av bx1 by0) (Av bx0 by1)
 have k3 := Bk (Av bx1 by0) (Av bx1 by0) (Av bx0 by0)
 have k4 := Bk (Av bx1 by0) (Av bx0 by0) (Av bx1 by1)
 have k5 := Bk (Av bx1 by0) (Av bx1 by1) (Av bx0 by1)
 have k6 := Bk (Av bx1 by1) (Av bx1 by1) (Av bx0 by0)
 have k7 := Bk (Av bx1 by1) (Av bx0 by0) (Av bx1 by0)
 have k8 := Bk (Av bx1 by1) (Av bx0 by0) (Av bx0 by1)
 have k9 := Bk (Av bx0 by1) (Av bx0 by1) (Av bx0 by0)
 have k10 := Bk (Av bx0 by1) (Av bx0 by0) (Av bx1 by0)
 have k11 := Bk (Av bx0 by1) (Av bx0 by0) (Av bx1 by1)
 obtain ⟨dx, rfl⟩ : ∃ dx, x1 = x0 + dx := ⟨x1 - x0, by omega⟩
 have hdx : 0 < dx := by omega
 have u1 : x0 + dx - x0 = dx := by omega
 have u2 : x0 - (x0 + dx) = -dx := by omega
 have u4 : x0 + dx - (x0 + dx) = 0 := by omega
 have n1 : ¬ x0 + dx = x0 := by omega
 have n2 : ¬ x0 = x0 + dx := by omega
 have n3 : ¬ x0 + dx < x0 := by omega
 have u3 : x0 - x0 = 0 := by omega
 have v3 : y0 - y0 = 0 := by omega
 obtain ⟨dy, rfl⟩ : ∃ dy, y1 = y0 + dy := ⟨y1 - y0, by omega⟩
 have hdy : 0 < dy := by omega
 have v1 : y0 + dy - y0 = dy := by omega
 have v2 : y0 - (y0 + dy) = -dy := by omega
 have v4 : y0 + dy - (y0 + dy) = 0 := by omega
 have m1 : ¬ y0 + dy = y0 := by omega
 have m2 : ¬ y0 = y0 + dy := by omega
 have m3 : ¬ y0 + dy < y0 := by omega
 obtain ⟨g1, g2, g3⟩ := Mo hdx hdy
 have gc : dy * dx = dx * dy := Int.mul_comm _ _
 simp only [qV, qC, Cw, Be, BJ, u1, u2, u4, u3, v3, v1, v2, v4, gc, Int.mul_zero, Int.zero_mul, Int.sub_zero, Int.zero_sub, Int.neg_mul, Int.mul_neg, Int.neg_neg, Int.neg_zero, Int.add_zero, Int.zero_add, Int.sub_self] at k0 k1 k2 k3 k4 k5 k6 k7 k8 k9 k10 k11
 simp (maxSteps := 2000000) only [go_sem, reduceIte, Nat.reduceEqDiff, Nat.reduceAdd, Int.reduceLT, Int.reduceLE, Int.reduceToNat, qs, qD, Bf, List.map_cons, List.map_nil, Ak, n1, n2, n3, m1, m2, m3, g1, g2, g3, Ai, Int.lt_irrefl]
 refine Ah 4 ?_
 refine Aa (bad := []) (kp := Aq) mo (by kernel_rfl) ?_
 simp (maxSteps := 2000000) only [go_sem, reduceIte, Nat.reduceEqDiff, Nat.reduceAdd, Nat.reduceLeDiff, Nat.reduceBEq, Int.reduceLT, Int.reduceLE, Int.reduceToNat, Ak, n1, n2, n3, m1, m2, m3, g1, g2, g3, Ai, Int.lt_irrefl]
 refine Aa (bad := []) (kp := Aq) mo (by kernel_rfl) ?_
 simp (maxSteps := 2000000) only [go_sem, reduceIte, Nat.reduceEqDiff, Nat.reduceAdd, Nat.reduceLeDiff, Nat.reduceBEq, Int.reduceLT, Int.reduceLE, Int.reduceToNat, Ak, n1, n2, n3, m1, m2, m3, g1, g2, g3, Ai, Int.lt_irrefl]
 refine Aa (bad := []) (kp := Aq) mo (by kernel_rfl) ?_
 simp (maxSteps := 2000000) only [go_sem, reduceIte, Nat.reduceEqDiff, Nat.reduceAdd, Nat.reduceLeDiff, Nat.reduceBEq, Int.reduceLT, Int.reduceLE, Int.reduceToNat, Ak, n1, n2, n3, m1, m2, m3, g1, g2, g3, Ai, Int.lt_irrefl]
 refine Aa (bad := []) (kp := Aq) mo (by kernel_rfl) ?_
 simp (maxSteps := 2000000) only [go_sem, reduceIte, Nat.reduceEqDiff, Nat.reduceAdd, Nat.reduceLeDiff, Nat.reduceBEq, Nat.reduceMul, Ak, n1, n2, n3, m1, m2, m3, g1, g2, g3, Ai, Int.lt_irrefl]
 refine Ah 6 ?_
 refine Aa (bad := []) (kp := Aq) mo (by kernel_rfl) ?_
 simp (maxSteps := 2000000) only [go_sem, reduceIte, Nat.reduceEqDiff, Nat.reduceAdd, Int.reduceLT, Int.reduceLE, Int.reduceToNat, Ak, n1, n2, n3, m1, m2, m3, g1, g2, g3, Ai, Int.lt_irrefl]
 refine Ah 6 ?_
 refine Aa (bad := []) (kp := Aq) mo (by kernel_rfl) ?_
 simp (maxSteps := 2000000) only [go_sem, reduceIte, Nat.reduceEqDiff, Nat.reduceAdd, Int.reduceLT, Int.reduceLE, Int.reduceToNat, Ak, n1, n2, n3, m1, m2, m3, g1, g2, g3, Ai, Int.lt_irrefl]
 refine Aa (bad := []) (kp := Aq) mo (by kernel_rfl) ?_
 simp (maxSteps := 2000000) only [go_sem, reduceIte, Nat.reduceEqDiff, Nat.reduceAdd, Int.reduceLT, Int.reduceLE, Int.reduceToNat, Ak, n1, n2, n3, m1, m2, m3, g1, g2, g3, Ai, Int.lt_irrefl]
 refine Af (k0) rfl rfl (by first | exact wk_refls _ | (repeat constructor)) (by kernel_rfl) ?_
 simp (maxSteps := 2000000) only [go_sem, reduceIte, Nat.reduceEqDiff, Nat.reduceAdd, Int.reduceLT, Int.reduceLE, Int.reduceToNat, Ak, n1, n2, n3, m1, m2, m3, g1, g2, g3, Ai, Int.lt_irrefl]
 refine Aa (bad := []) (kp := Aq) mo (by kernel_rfl) ?_
 simp (maxSteps := 2000000) only [go_sem, reduceIte, Nat.reduceEqDiff, Nat.reduceAdd, Int.reduceLT, Int.reduceLE, Int.reduceToNat, Ak, n1, n2, n3, m1, m2, m3, g1, g2, g3, Ai, Int.lt_irrefl]
 refine Af (k1) rfl rfl (by first | exact wk_refls _ | (repeat constructor)) (by kernel_rfl) ?_
 simp (maxSteps := 2000000) only [go_sem, reduceIte, Nat.reduceEqDiff, Nat.reduceAdd, Ak, n1, n2, n3, m1, m2, m3, g1, g2, g3, Ai, Int.lt_irrefl]
 refine Aa (bad := []) (kp := Aq) mo (by kernel_rfl) ?_
 simp (maxSteps := 2000000) only [go_sem, reduceIte, Nat.reduceEqDiff, Nat.reduceAdd, Int.reduceLT, Int.reduceLE, Int.reduceToNat, Ak, n1, n2, n3, m1, m2, m3, g1, g2, g3, Ai, Int.lt_irrefl]
 refine Af (k2) rfl rfl (by first | exact wk_refls _ | (repeat constructor)) (by kernel_rfl) ?_
 simp (maxSteps := 2000000) only [go_sem, reduceIte, Nat.reduceEqDiff, Nat.reduceAdd, Ak, n1, n2, n3, m1, m2, m3, g1, g2, g3, Ai, Int.lt_irrefl]
 refine Aa (bad := []) (kp := Aq) mo (by kernel_rfl) ?_
 simp (maxSteps := 2000000) only [go_sem, reduceIte, Nat.reduceEqDiff, Nat.reduceAdd, Nat.reduceLT, Nat.reduceLeDiff, Nat.reduceBEq, Nat.reduceMul, Nat.reduceDiv, Ak, n1, n2, n3, m1, m2, m3, g1, g2, g3, Ai, Int.lt_irrefl]
 refine Aa (bad := []) (kp := Aq) mo (by kernel_rfl) ?_
 simp (maxSteps := 2000000) only [go_sem, reduceIte, Nat.reduceEqDiff, Nat.reduceAdd, Int.reduceLT, Int.reduceLE, Int.reduceToNat, Ak, n1, n2, n3, m1, m2, m3, g1, g2, g3, Ai, Int.lt_irrefl]
 refine Ah 6 ?_
 refine Aa (bad := []) (kp := Aq) mo (by kernel_rfl) ?_
 simp (maxSteps := 2000000) only [go_sem, reduceIte, Nat.reduceEqDiff, Nat.reduceAdd, Int.reduceLT, Int.reduceLE, Int.reduceToNat, Ak, n1, n2, n3, m1, m2, m3, g1, g2, g3, Ai, Int.lt_irrefl]
 refine Af (k3) rfl rfl (by first | exact wk_refls _ | (repeat constructor)) (by kernel_rfl) ?_
 simp (maxSteps := 2000000) only [go_sem, reduceIte, Nat.reduceEqDiff, Nat.reduceAdd, Int.reduceLT, Int.reduceLE, Int.reduceToNat, Ak, n1, n2, n3, m1, m2, m3, g1, g2, g3, Ai, Int.lt_irrefl]
 refine Aa (bad := []) (kp := Aq) mo (by kernel_rfl) ?_
 simp (maxSteps := 2000000) only [go_sem, reduceIte, Nat.reduceEqDiff, Nat.reduceAdd, Int.reduceLT, Int.reduceLE, Int.reduceToNat, Ak, n1, n2, n3, m1, m2, m3, g1, g2, g3, Ai, Int.lt_irrefl]
 refine Aa (bad := []) (kp := Aq) mo (by kernel_rfl) ?_
 simp (maxSteps := 2000000) only [go_sem, reduceIte, Nat.reduceEqDiff, Nat.reduceAdd, Int.reduceLT, Int.reduceLE, Int.reduceToNat, Ak, n1, n2, n3, m1, m2, m3, g1, g2, g3, Ai, Int.lt_irrefl]
 refine Af (k4) rfl rfl (by first | exact wk_refls _ | (repeat constructor)) (by kernel_rfl) ?_
 simp (maxSteps := 2000000) only [go_sem, reduceIte, Nat.reduceEqDiff, Nat.reduceAdd, Int.reduceLT, Int.reduceLE, Int.reduceToNat, Ak, n1, n2, n3, m1, m2, m3, g1, g2, g3, Ai, Int.lt_irrefl]
 refine Aa (bad := []) (kp := Aq) mo (by kernel_rfl) ?_
 simp (maxSteps := 2000000) only [go_sem, reduceIte, Nat.reduceEqDiff, Nat.reduceAdd, Int.reduceLT, Int.reduceLE, Int.reduceToNat, Ak, n1, n2, n3, m1, m2, m3, g1, g2, g3, Ai, Int.lt_irrefl]
 refine Af (k5) rfl rfl (by first | exact wk_refls _ | (repeat constructor)) (by kernel_rfl) ?_
 simp (maxSteps := 2000000) only [go_sem, reduceIte, Nat.reduceEqDiff, Nat.reduceAdd, Ak, n1, n2, n3, m1, m2, m3, g1, g2, g3, Ai, Int.lt_irrefl]
 refine Aa (bad := []) (kp := Aq) mo (by kernel_rfl) ?_
 simp (maxSteps := 2000000) only [go_sem, reduceIte, Nat.reduceEqDiff, Nat.reduceAdd, Nat.reduceLT, Nat.reduceLeDiff, Nat.reduceBEq, Nat.reduceMul, Nat.reduceDiv, Ak, n1, n2, n3, m1, m2, m3, g1, g2, g3, Ai, Int.lt_irrefl]
 refine Aa (bad := []) (kp := Aq) mo (by kernel_rfl) ?_
 simp (maxSteps := 2000000) only [go_sem, reduceIte, Nat.reduceEqDiff, Nat.reduceAdd, Int.reduceLT, Int.reduceLE, Int.reduceToNat, Ak, n1, n2, n3, m1, m2, m3, g1, g2, g3, Ai, Int.lt_irrefl]
 refine Ah 6 ?_
 refine Aa (bad := []) (kp := Aq) mo (by kernel_rfl) ?_
 simp (maxSteps := 2000000) only [go_sem, reduceIte, Nat.reduceEqDiff, Nat.reduceAdd, Int.reduceLT, Int.reduceLE, Int.reduceToNat, Ak, n1, n2, n3, m1, m2, m3, g1, g2, g3, Ai, Int.lt_irrefl]
 refine Af (k6) rfl rfl (by first | exact wk_refls _ | (repeat constructor)) (by kernel_rfl) ?_
 simp (maxSteps := 2000000) only [go_sem, reduceIte, Nat.reduceEqDiff, Nat.reduceAdd, Int.reduceLT, Int.reduceLE, Int.reduceToNat, Ak, n1, n2, n3, m1, m2, m3, g1, g2, g3, Ai, Int.lt_irrefl]
 refine Aa (bad := []) (kp := Aq) mo (by kernel_rfl) ?_
 simp (maxSteps := 2000000) only [go_sem, reduceIte, Nat.reduceEqDiff, Nat.reduceAdd, Int.reduceLT, Int.reduceLE, Int.reduceToNat, Ak, n1, n2, n3, m1, m2, m3, g1, g2, g3, Ai, Int.lt_irrefl]
 refine Af (k7) rfl rfl (by first | exact wk_refls _ | (repeat constructor)) (by kernel_rfl) ?_
 simp (maxSteps := 2000000) only [go_sem, reduceIte, Nat.reduceEqDiff, Nat.reduceAdd, Ak, n1, n2, n3, m1, m2, m3, g1, g2, g3, Ai, Int.lt_irrefl]
 refine Aa (bad := []) (kp := Aq) mo (by kernel_rfl) ?_
 simp (maxSteps := 2000000) only [go_sem, reduceIte, Nat.reduceEqDiff, Nat.reduceAdd, Int.reduceLT, Int.reduceLE, Int.reduceToNat, Ak, n1, n2, n3, m1, m2, m3, g1, g2, g3, Ai, Int.lt_irrefl]
 refine Aa (bad := []) (kp := Aq) mo (by kernel_rfl) ?_
 simp (maxSteps := 2000000) only [go_sem, reduceIte, Nat.reduceEqDiff, Nat.reduceAdd, Int.reduceLT, Int.reduceLE, Int.reduceToNat, Ak, n1, n2, n3, m1, m2, m3, g1, g2, g3, Ai, Int.lt_irrefl]
 refine Af (k8) rfl rfl (by first | exact wk_refls _ | (repeat constructor)) (by kernel_rfl) ?_
 simp (maxSteps := 2000000) only [go_sem, reduceIte, Nat.reduceEqDiff, Nat.reduceAdd, Int.reduceLT, Int.reduceLE, Int.reduceToNat, Ak, n1, n2, n3, m1, m2, m3, g1, g2, g3, Ai, Int.lt_irrefl]
 refine Aa (bad := []) (kp := Aq) mo (by kernel_rfl) ?_
 simp (maxSteps := 2000000) only [go_sem, reduceIte, Nat.reduceEqDiff, Nat.reduceAdd, Nat.reduceLT, Nat.reduceLeDiff, Nat.reduceBEq, Nat.reduceMul, Nat.reduceDiv, Ak, n1, n2, n3, m1, m2, m3, g1, g2, g3, Ai, Int.lt_irrefl]
 refine Aa (bad := []) (kp := Aq) mo (by kernel_rfl) ?_
 simp (maxSteps := 2000000) only [go_sem, reduceIte, Nat.reduceEqDiff, Nat.reduceAdd, Int.reduceLT, Int.reduceLE, Int.reduceToNat, Ak, n1, n2, n3, m1, m2, m3, g1, g2, g3, Ai, Int.lt_irrefl]
 refine Ah 6 ?_
 refine Aa (bad := []) (kp := Aq) mo (by kernel_rfl) ?_
 simp (maxSteps := 2000000) only [go_sem, reduceIte, Nat.reduceEqDiff, Nat.reduceAdd, Int.reduceLT, Int.reduceLE, Int.reduceToNat, Ak, n1, n2, n3, m1, m2, m3, g1, g2, g3, Ai, Int.lt_irrefl]
 refine Af (k9) rfl rfl (by first | exact wk_refls _ | (repeat constructor)) (by kernel_rfl) ?_
 simp (maxSteps := 2000000) only [go_sem, reduceIte, Nat.reduceEqDiff, Nat.reduceAdd, Int.reduceLT, Int.reduceLE, Int.reduceToNat, Ak, n1, n2, n3, m1, m2, m3, g1, g2, g3, Ai, Int.lt_irrefl]
 refine Aa (bad := []) (kp := Aq) mo (by kernel_rfl) ?_
 simp (maxSteps := 2000000) only [go_sem, reduceIte, Nat.reduceEqDiff, Nat.reduceAdd, Int.reduceLT, Int.reduceLE, Int.reduceToNat, Ak, n1, n2, n3, m1, m2, m3, g1, g2, g3, Ai, Int.lt_irrefl]
 refine Af (k10) rfl rfl (by first | exact wk_refls _ | (repeat constructor)) (by kernel_rfl) ?_
 simp (maxSteps := 2000000) only [go_sem, reduceIte, Nat.reduceEqDiff, Nat.reduceAdd, Ak, n1, n2, n3, m1, m2, m3, g1, g2, g3, Ai, Int.lt_irrefl]
 refine Aa (bad := []) (kp := Aq) mo (by kernel_rfl) ?_
 simp (maxSteps := 2000000) only [go_sem, reduceIte, Nat.reduceEqDiff, Nat.reduceAdd, Int.reduceLT, Int.reduceLE, Int.reduceToNat, Ak, n1, n2, n3, m1, m2, m3, g1, g2, g3, Ai, Int.lt_irrefl]
 refine Af (k11) rfl rfl (by first | exact wk_refls _ | (repeat constructor)) (by kernel_rfl) ?_
 simp (maxSteps := 2000000) only [go_sem, reduceIte, Nat.reduceEqDiff, Nat.reduceAdd, Ak, n1, n2, n3, m1, m2, m3, g1, g2, g3, Ai, Int.lt_irrefl]
 refine Aa (bad := []) (kp := Aq) mo (by kernel_rfl) ?_
 simp (maxSteps := 2000000) only [go_sem, reduceIte, Nat.reduceEqDiff, Nat.reduceAdd, Int.reduceLT, Int.reduceLE, Int.reduceToNat, Ak, n1, n2, n3, m1, m2, m3, g1, g2, g3, Ai, Int.lt_irrefl]
 refine Aa (bad := []) (kp := Aq) mo (by kernel_rfl) ?_
 simp (maxSteps := 2000000) only [go_sem, reduceIte, Nat.reduceEqDiff, Nat.reduceAdd, Ak, n1, n2, n3, m1, m2, m3, g1, g2, g3, Ai, Int.lt_irrefl]
 all_goals first | exact .refl _ | exact ⟨.refl _, .refl _⟩ | exact ⟨.refl _, .refl _, .refl _⟩ | exact ⟨.refl _, _, rfl⟩ | exact ⟨_, rfl⟩ | exact ⟨.refl _, [], by simp⟩ | exact ⟨[], by simp⟩
theorem P7 {x0 x1 y0 y1 : Int} (bx0 : B1 x0) (bx1 : B1 x1) (by0 : B1 y0) (by1 : B1 y1) (hx : x0 ≤ x1) (hy : y0 ≤ y1) : AF Tryz.prog 141 [qs (Bf x0 x1 y0 y1)] (qs (Bn x0 x1 y0 y1)) := by
 unfold Bn
 by_cases h1 : x0 < x1
 ·rw [if_pos h1]
  by_cases h2 : y0 < y1
  ·rw [if_pos h2]; exact UE bx0 bx1 by0 by1 h1 h2
  ·rw [if_neg h2]
   obtain rfl : y0 = y1 := by omega
   exact UC bx0 bx1 by0 h1
 ·rw [if_neg h1]
  obtain rfl : x0 = x1 := by omega
  by_cases h2 : y0 < y1
  ·rw [if_pos h2]; exact UD bx0 by0 by1 h2
  ·rw [if_neg h2]
   obtain rfl : y0 = y1 := by omega
   exact UB bx0 by0
end Go.Proofs.YtfgdbeijjbijnaaGreatDoor
set_option linter.unusedSimpArgs false
set_option linter.unusedVariables false
set_option maxRecDepth 100000
namespace Go.Proofs.YtfgdbeijjbijnaaGreatDoor
open Go Go.Abs Go.Proofs
def Mp : List (Nat × List Nat) := [(0, [2, 3, 4]), (1, [4, 6, 7, 8]), (2, [4, 6, 7, 8, 19]), (3, [4, 5]), (4, [4, 9, 10]), (5, [4, 9, 35]), (6, [4, 5]), (7, [4, 5])]
theorem Mq : lookK Mp 0 = some [2, 3, 4] ∧ lookK Mp 1 = some [4, 6, 7, 8] ∧ lookK Mp 2 = some [4, 6, 7, 8, 19] ∧ lookK Mp 3 = some [4, 5] ∧ lookK Mp 4 = some [4, 9, 10] ∧ lookK Mp 5 = some [4, 9, 35] ∧ lookK Mp 6 = some [4, 5] ∧ lookK Mp 7 = some [4, 5] := ⟨rfl, rfl, rfl, rfl, rfl, rfl, rfl, rfl⟩
def Ox : List (Nat × List Nat) := [(0, [1]), (1, [1, 3]), (2, [1, 3, 4]), (3, [1, 3, 4, 12]), (4, [1, 3, 4]), (5, [1, 3, 4]), (6, [2])]
theorem Mr : lookK Ox 0 = some [1] ∧ lookK Ox 1 = some [1, 3] ∧ lookK Ox 2 = some [1, 3, 4] ∧ lookK Ox 3 = some [1, 3, 4, 12] ∧ lookK Ox 4 = some [1, 3, 4] ∧ lookK Ox 5 = some [1, 3, 4] ∧ lookK Ox 6 = some [2] := ⟨rfl, rfl, rfl, rfl, rfl, rfl, rfl⟩
def aHb : List (Nat × List Nat) := [(0, [2, 3, 4]), (1, [4])]
theorem Ms : lookK aHb 0 = some [2, 3, 4] ∧ lookK aHb 1 = some [4] := ⟨rfl, rfl⟩
section
variable {x0 x1 y0 y1 u0 u1 v0 v1 : Int}
theorem P8 (h : OkB x0 x1 y0 y1) (g : OkB u0 u1 v0 v1) : AF Tryz.prog 56 [qs (Bn x0 x1 y0 y1), qs (Bn u0 u1 v0 v1)] (.tup [.agg (lnC (Bn x0 x1 y0 y1) (Bn u0 u1 v0 v1) (Fy (Bn x0 x1 y0 y1) (Bn u0 u1 v0 v1))), B (Fy (Bn x0 x1 y0 y1) (Bn u0 u1 v0 v1)).isSome]) := by
 obtain ⟨a1, a4⟩ := HY h.hx h.hy
 obtain ⟨b1, b4⟩ := HY g.hx g.hy
 exact aG6 (G8 h) (G8 g) a1 a4 b1 b4 (Oo h.hx h.hy) (Oo g.hx g.hy)
set_option maxHeartbeats 4000000 in
theorem P9 (h : OkB x0 x1 y0 y1) (g : OkB u0 u1 v0 v1) {w : Int × Int} (hw : Fy (Bn x0 x1 y0 y1) (Bn u0 u1 v0 v1) = some w) : AF Tryz.prog 16 [glV (Bf x0 x1 y0 y1), glV (Bf u0 u1 v0 v1)] (.tup [.agg (lnC (Bn x0 x1 y0 y1) (Bn u0 u1 v0 v1) (some w)), I 0]) := by
 have hl := P8 h g
 rw [hw] at hl
 refine pure_wkE (bad := [4]) (kp := Mp) (X := tx) (nt := 38) (rs := [.cell 4 53, .tmp 5]) Tryz.func16 rfl rfl rfl rfl mo (by kernel_rfl) rfl rfl (fun hf => ?_)
 have n1 := aCI h g
 obtain ⟨mq, hmq⟩ : ∃ mq, mq = B3 (Bn x0 x1 y0 y1) w := ⟨_, rfl⟩
 simp only [glV, glC, qs, gbD, Bf, qD, lnC, Option.isSome_some, List.map_cons, List.map_nil, ← hmq] at n1 hl ⊢
 simp (maxSteps := 2000000) only [go_sem, reduceIte, Nat.reduceEqDiff, Nat.reduceAdd, Nat.reduceBEq, Mq, Mr, Ms, glV, glC, Bf, qD, List.map_cons, List.map_nil]
 refine Ac (n1) rfl rfl (by first | exact wk_refls _ | (repeat constructor)) ?_
 simp (maxSteps := 2000000) only [go_sem, reduceIte, Nat.reduceEqDiff, Nat.reduceAdd, Nat.reduceBEq, Mq, Mr, Ms]
 refine de_pure (hl) rfl rfl (by first | exact wk_refls _ | (repeat constructor)) ?_
 simp (maxSteps := 2000000) only [go_sem, reduceIte, Nat.reduceEqDiff, Nat.reduceAdd, Nat.reduceBEq, Mq, Mr, Ms]
 exact AE (by kernel_rfl)
set_option maxHeartbeats 4000000 in
theorem Qa (h : OkB x0 x1 y0 y1) (g : OkB u0 u1 v0 v1) (hw : Fy (Bn x0 x1 y0 y1) (Bn u0 u1 v0 v1) = none) : AF Tryz.prog 16 [glV (Bf x0 x1 y0 y1), glV (Bf u0 u1 v0 v1)] (.tup [.agg [.d (.int .i64 0), .d (.int .i64 0), .d (.int .i64 0)], I 21]) := by
 have hl := P8 h g
 rw [hw] at hl
 refine pure_wkE (bad := [4]) (kp := Mp) (X := tx) (nt := 38) (rs := [.cell 4 53, .tmp 5]) Tryz.func16 rfl rfl rfl rfl mo (by kernel_rfl) rfl rfl (fun hf => ?_)
 have n1 := aCI h g
 simp only [glV, glC, qs, gbD, Bf, qD, lnC, Option.isSome_none, List.map_cons, List.map_nil] at n1 hl ⊢
 simp (maxSteps := 2000000) only [go_sem, reduceIte, Nat.reduceEqDiff, Nat.reduceAdd, Nat.reduceBEq, Mq, Mr, Ms, glV, glC, Bf, qD, List.map_cons, List.map_nil]
 refine Ac (n1) rfl rfl (by first | exact wk_refls _ | (repeat constructor)) ?_
 simp (maxSteps := 2000000) only [go_sem, reduceIte, Nat.reduceEqDiff, Nat.reduceAdd, Nat.reduceBEq, Mq, Mr, Ms]
 refine de_pure (hl) rfl rfl (by first | exact wk_refls _ | (repeat constructor)) ?_
 simp (maxSteps := 2000000) only [go_sem, reduceIte, Nat.reduceEqDiff, Nat.reduceAdd, Nat.reduceBEq, Mq, Mr, Ms]
 exact AE (by kernel_rfl)
set_option maxHeartbeats 4000000 in
theorem aC4 (h : OkB x0 x1 y0 y1) : AF Tryz.prog 61 [glV (Bf x0 x1 y0 y1)] (qs (Bn x0 x1 y0 y1)) := by
 refine pure_wkE (bad := []) (kp := Ox) (X := tx) (nt := 27) (rs := [.tmp 2]) Tryz.func61 rfl rfl rfl rfl mo (by kernel_rfl) rfl rfl (fun hf => ?_)
 have hc := P7 h.bx0 h.bx1 h.by0 h.by1 h.hx h.hy
 simp only [qs, Bf, qD, List.map_cons, List.map_nil] at hc
 simp (maxSteps := 2000000) only [go_sem, reduceIte, Nat.reduceEqDiff, Nat.reduceAdd, Nat.reduceLeDiff, Nat.reduceBEq, Mq, Mr, Ms, glV, glC, Bf, qD, List.map_cons, List.map_nil]
 refine Ac (hc) rfl rfl (by first | exact wk_refls _ | (repeat constructor)) ?_
 simp (maxSteps := 2000000) only [go_sem, reduceIte, Nat.reduceEqDiff, Mq, Mr, Ms]
 refine Ah 1 ?_
 refine Aa (bad := []) (kp := Ox) mo (by kernel_rfl) ?_
 simp (maxSteps := 2000000) only [go_sem, reduceIte, Nat.reduceEqDiff, Nat.reduceAdd, Nat.reduceBEq, Int.reduceLT, Mq, Mr, Ms, qs]
 all_goals first | exact .refl _ | exact ⟨.refl _, .refl _⟩ | exact ⟨.refl _, .refl _, .refl _⟩ | exact ⟨.refl _, _, rfl⟩ | exact ⟨_, rfl⟩ | exact ⟨.refl _, [], by simp⟩ | exact ⟨[], by simp⟩
set_option maxHeartbeats 4000000 in
theorem aFe (x0 x1 y0 y1 : Int) : AF Tryz.prog 13 [.agg [.d (.int .i64 x0), .d (.int .i64 x1)], .agg [.d (.int .i64 y0), .d (.int .i64 y1)]] (glV (Bf x0 x1 y0 y1)) := by
 refine pure_wkE (bad := []) (kp := aHb) (X := tx) (nt := 27) (rs := [.cell 4 43]) Tryz.func13 rfl rfl rfl rfl mo (by kernel_rfl) rfl rfl (fun hf => ?_)
 simp (maxSteps := 2000000) only [go_sem, reduceIte, Nat.reduceEqDiff, Nat.reduceAdd, Nat.reduceLT, Nat.reduceLeDiff, Nat.reduceBEq, Nat.reduceMul, Mq, Mr, Ms, glV, glC, Bf, qD, List.map_cons, List.map_nil]
 all_goals first | exact .refl _ | exact ⟨.refl _, .refl _⟩ | exact ⟨.refl _, .refl _, .refl _⟩ | exact ⟨.refl _, _, rfl⟩ | exact ⟨_, rfl⟩ | exact ⟨.refl _, [], by simp⟩ | exact ⟨[], by simp⟩
theorem aC5 (h : OkB x0 x1 y0 y1) : gE (Bf x0 x1 y0 y1) = 0 := by
 have := Tt h
 simp only [okG, Bool.and_eq_true, Bool.not_eq_true'] at this
 rw [gE, this.2]; rfl
end
end Go.Proofs.YtfgdbeijjbijnaaGreatDoor
set_option linter.unusedSimpArgs false
set_option linter.unusedVariables false
set_option maxRecDepth 100000
namespace Go.Proofs.YtfgdbeijjbijnaaGreatDoor
open Go Go.Abs Go.Proofs
def E2 : List (Nat × List Nat) := [(0, [3, 4, 5]), (1, [3, 4, 5, 14]), (2, [6]), (3, [3, 4, 5, 55]), (4, [6]), (5, [5, 7, 8]), (6, [5, 7, 8, 9]), (7, [5, 7, 8, 9, 63]), (8, [5, 7, 8, 9]), (9, [5, 7, 8, 9, 85]), (10, [6]), (11, [5, 8, 10]), (12, [5, 8, 10, 89]), (13, [5, 8, 10]), (14, [5, 8, 10, 111]), (15, [6]), (16, [6])]
theorem JJ : lookK E2 0 = some [3, 4, 5] ∧ lookK E2 1 = some [3, 4, 5, 14] ∧ lookK E2 2 = some [6] ∧ lookK E2 3 = some [3, 4, 5, 55] ∧ lookK E2 4 = some [6] ∧ lookK E2 5 = some [5, 7, 8] ∧ lookK E2 6 = some [5, 7, 8, 9] ∧ lookK E2 7 = some [5, 7, 8, 9, 63] ∧ lookK E2 8 = some [5, 7, 8, 9] ∧ lookK E2 9 = some [5, 7, 8, 9, 85] ∧ lookK E2 10 = some [6] ∧ lookK E2 11 = some [5, 8, 10] ∧ lookK E2 12 = some [5, 8, 10, 89] ∧ lookK E2 13 = some [5, 8, 10] ∧ lookK E2 14 = some [5, 8, 10, 111] ∧ lookK E2 15 = some [6] ∧ lookK E2 16 = some [6] := ⟨rfl, rfl, rfl, rfl, rfl, rfl, rfl, rfl, rfl, rfl, rfl, rfl, rfl, rfl, rfl, rfl, rfl⟩
def lwC (a : List (Int × Int)) (w : Int × Int) : List C := [.d (.int .i64 w.1), .d (.int .i64 w.2), .d (.int .i64 (B3 a w))]
theorem aC6 {l : List (Int × Int)} {w : Int × Int} {i : Nat} (hi : i < l.length) : ¬ B3 l w < w.1 * (Ax l i).1 + w.2 * (Ax l i).2 := by
 have := K8 w (List.mem_of_getElem? (Bi hi))
 simp only [BJ] at this
 omega
theorem UF {a l : List (Int × Int)} {w : Int × Int} {i : Nat} (hi : i < l.length) (h : HV a l w = true) : ¬ w.1 * (Ax l i).1 + w.2 * (Ax l i).2 ≤ B3 a w := by
 have h : B3 a w < -B3 l (F0 w) := by simpa [HV] using h
 have := K8 (F0 w) (List.mem_of_getElem? (Bi hi))
 rw [Tv] at this
 simp only [BJ] at this
 omega
set_option maxHeartbeats 8000000 in
theorem Qb {x0 x1 y0 y1 u0 u1 v0 v1 : Int} (h : OkB x0 x1 y0 y1) (g : OkB u0 u1 v0 v1) {w : Int × Int} (hp : HV (Bn x0 x1 y0 y1) (Bn u0 u1 v0 v1) w = true) (hw : Bd 1000000 w) : AF Tryz.prog 19 [glV (Bf x0 x1 y0 y1), glV (Bf u0 u1 v0 v1), .agg (lwC (Bn x0 x1 y0 y1) w)] (I 0) := by
 refine pure_wkE (bad := []) (kp := E2) (X := tx) (nt := 112) (rs := [.tmp 6]) Tryz.func19 rfl rfl rfl rfl mo (by kernel_rfl) rfl rfl (fun hf => ?_)
 have h60 := aO5 (aC5 h) (aC5 g) (show 1 ≤ 4 by decide) (show 4 ≤ 12 by decide) (show 1 ≤ 4 by decide) (show 4 ≤ 12 by decide)
 have ha := aC4 h
 have hb := aC4 g
 obtain ⟨a1, a4⟩ := HY h.hx h.hy
 obtain ⟨b1, b4⟩ := HY g.hx g.hy
 have ba := G8 h
 have bb := G8 g
 have hq := Uy a1 ba hw
 have hz : ¬ (w.1 = 0 ∧ w.2 = 0) := fun e => by
  have : w = (0, 0) := Prod.ext e.1 e.2
  rw [this, aCW a1 b1] at hp
  cases hp
 obtain ⟨A, hA⟩ : ∃ A, A = Bn x0 x1 y0 y1 := ⟨_, rfl⟩
 obtain ⟨E, hE⟩ : ∃ E, E = Bn u0 u1 v0 v1 := ⟨_, rfl⟩
 rw [← hA] at ha hp a1 a4 ba hq ⊢
 rw [← hE] at hb hp b1 b4 bb
 have hno := fun i hi => aC6 (l := A) (w := w) (i := i) hi
 have hle := fun i hi => UF (a := A) (l := E) (w := w) (i := i) hi hp
 have hwA : ∀ i, i < A.length → wr .i64 (w.1 * (Ax A i).1) = w.1 * (Ax A i).1 ∧ wr .i64 (w.2 * (Ax A i).2) = w.2 * (Ax A i).2 ∧ wr .i64 (w.1 * (Ax A i).1 + w.2 * (Ax A i).2) = w.1 * (Ax A i).1 + w.2 * (Ax A i).2 := fun i hi => by
  obtain ⟨_, _, _, r⟩ := IC hw (AR (ba _ (List.mem_of_getElem? (Bi hi))))
  exact r
 have hwE : ∀ i, i < E.length → wr .i64 (w.1 * (Ax E i).1) = w.1 * (Ax E i).1 ∧ wr .i64 (w.2 * (Ax E i).2) = w.2 * (Ax E i).2 ∧ wr .i64 (w.1 * (Ax E i).1 + w.2 * (Ax E i).2) = w.1 * (Ax E i).1 + w.2 * (Ax E i).2 := fun i hi => by
  obtain ⟨_, _, _, r⟩ := IC hw (AR (bb _ (List.mem_of_getElem? (Bi hi))))
  exact r
 obtain ⟨mq, hmq⟩ : ∃ mq, mq = B3 A w := ⟨_, rfl⟩
 rw [← hmq] at hq hno hle
 obtain ⟨⟨p1, p2⟩, p3, p4⟩ := hw
 have k1 : ¬ w.1 < -1048576 := by omega
 have k2 : ¬ 1048576 < w.1 := by omega
 have k3 : ¬ w.2 < -1048576 := by omega
 have k4 : ¬ 1048576 < w.2 := by omega
 have k5 : ¬ mq < -1099511627776 := by omega
 have k6 : ¬ 1099511627776 < mq := by omega
 have kz : w.1 = 0 → ¬ w.2 = 0 := fun e f => hz ⟨e, f⟩
 simp only [glV, glC, qs, Bf, qD, List.map_cons, List.map_nil] at h60 ha hb
 simp (maxSteps := 2000000) only [go_sem, reduceIte, Nat.reduceEqDiff, Nat.reduceAdd, Int.reduceNeg, JJ, glV, glC, Bf, qD, lwC, List.map_cons, List.map_nil, ← hmq]
 refine Ac (h60) rfl rfl (by first | exact wk_refls _ | (repeat constructor)) ?_
 have hc : (decide (w.1 = 0) = true ∧ decide (w.2 = 0) = false) ∨ (decide (w.1 = 0) = false ∧ True) := by
  by_cases e : w.1 = 0
  ·exact .inl ⟨decide_eq_true e, decide_eq_false (kz e)⟩
  ·exact .inr ⟨decide_eq_false e, trivial⟩
 rcases hc with ⟨e1, e2⟩ | ⟨e1, e2⟩
 all_goals
  simp (maxSteps := 2000000) only [go_sem, reduceIte, Nat.reduceEqDiff, Nat.reduceAdd, Nat.reduceLeDiff, Nat.reduceBEq, Int.reduceNeg, JJ, k1, k2, k3, k4, k5, k6, e1, e2]
  refine Af (ha) rfl rfl (by first | exact wk_refls _ | (repeat constructor)) (by kernel_rfl) ?_
  simp (maxSteps := 2000000) only [go_sem, reduceIte, Nat.reduceEqDiff, Nat.reduceAdd, JJ]
  refine Af (hb) rfl rfl (by first | exact wk_refls _ | (repeat constructor)) (by kernel_rfl) ?_
  simp (maxSteps := 2000000) only [go_sem, reduceIte, Nat.reduceEqDiff, Nat.reduceAdd, JJ]
  refine goE_loop (bad := []) (kp := E2) (fun i : Nat => { slots := [(5, .c (.ptr 2 0)), (7, qs A), (8, qs E), (9, I i)], heap := [.cells (glC (Bf x0 x1 y0 y1)), .cells (glC (Bf u0 u1 v0 v1)), .cells [.d (.int .i64 w.1), .d (.int .i64 w.2), .d (.int .i64 mq)]], marks := [] }) (fun i => i ≤ A.length) (fun i => A.length - i) 0 mo (by kernel_rfl) ?_ (Nat.zero_le _) ?_
  ·exact Ent.refl
  rintro i hi
  simp (maxSteps := 2000000) only [go_sem, reduceIte, Nat.reduceEqDiff, Nat.reduceAdd, JJ, qs]
  refine goE_if (fun h => ?_) (fun h => ?_)
  ·have hlt : i < A.length := by simpa using h
   have hmu : A.length - (i + 1) < A.length - i := by omega
   have cx : (decide ((0 : Int) ≤ (i : Int)) && decide ((i : Int) < (A.length : Int))) = true := by simp; omega
   have g1 := Bi hlt
   have n1 := hno i hlt
   obtain ⟨w1, w2, w3⟩ := hwA i hlt
   simp (maxSteps := 2000000) only [go_sem, reduceIte, Nat.reduceEqDiff, Nat.reduceAdd, Nat.reduceLeDiff, Nat.reduceBEq, JJ, g1, qD, cx, w1, w2, w3, n1, Az hlt (show A.length ≤ 140737488355328 by omega)]
   refine ⟨i + 1, hlt, hmu, ?_⟩
   refine ent_weaken [] rfl rfl (Nat.zero_le _) rfl rfl ?_
   simp (maxSteps := 2000000) only [go_sem, reduceIte, Nat.reduceEqDiff, Nat.reduceAdd, Nat.reduceLT, JJ, qs]
   all_goals first | exact .refl _ | exact ⟨.refl _, .refl _⟩ | exact ⟨.refl _, .refl _, .refl _⟩ | exact ⟨.refl _, _, rfl⟩ | exact ⟨_, rfl⟩ | exact ⟨.refl _, [], by simp⟩ | exact ⟨[], by simp⟩
  ·simp (maxSteps := 2000000) only [go_sem, reduceIte, Nat.reduceEqDiff, Nat.reduceAdd, JJ]
   refine goE_loop (bad := []) (kp := E2) (fun j : Nat => { slots := [(5, .c (.ptr 2 0)), (8, qs E), (10, I j)], heap := [.cells (glC (Bf x0 x1 y0 y1)), .cells (glC (Bf u0 u1 v0 v1)), .cells [.d (.int .i64 w.1), .d (.int .i64 w.2), .d (.int .i64 mq)]], marks := [] }) (fun j => j ≤ E.length) (fun j => E.length - j) 0 mo (by kernel_rfl) ?_ (Nat.zero_le _) ?_
   ·exact Ent.refl
   clear h
   rintro j hj
   simp (maxSteps := 2000000) only [go_sem, reduceIte, Nat.reduceEqDiff, Nat.reduceAdd, JJ, qs]
   refine goE_if (fun h => ?_) (fun h => ?_)
   ·have hlt : j < E.length := by simpa using h
    have hmu : E.length - (j + 1) < E.length - j := by omega
    have cx : (decide ((0 : Int) ≤ (j : Int)) && decide ((j : Int) < (E.length : Int))) = true := by simp; omega
    have g1 := Bi hlt
    have n1 := hle j hlt
    obtain ⟨w1, w2, w3⟩ := hwE j hlt
    simp (maxSteps := 2000000) only [go_sem, reduceIte, Nat.reduceEqDiff, Nat.reduceAdd, Nat.reduceLeDiff, Nat.reduceBEq, JJ, g1, qD, cx, w1, w2, w3, n1, Az hlt (show E.length ≤ 140737488355328 by omega)]
    refine ⟨j + 1, hlt, hmu, ?_⟩
    refine ent_weaken [] rfl rfl (Nat.zero_le _) rfl rfl ?_
    simp (maxSteps := 2000000) only [go_sem, reduceIte, Nat.reduceEqDiff, Nat.reduceAdd, Nat.reduceLT, JJ, qs]
    all_goals first | exact .refl _ | exact ⟨.refl _, .refl _⟩ | exact ⟨.refl _, .refl _, .refl _⟩ | exact ⟨.refl _, _, rfl⟩ | exact ⟨_, rfl⟩ | exact ⟨.refl _, [], by simp⟩ | exact ⟨[], by simp⟩
   ·simp (maxSteps := 2000000) only [go_sem, reduceIte, Nat.reduceEqDiff, Nat.reduceAdd, JJ]
    all_goals first | exact .refl _ | exact ⟨.refl _, .refl _⟩ | exact ⟨.refl _, .refl _, .refl _⟩ | exact ⟨.refl _, _, rfl⟩ | exact ⟨_, rfl⟩ | exact ⟨.refl _, [], by simp⟩ | exact ⟨[], by simp⟩
end Go.Proofs.YtfgdbeijjbijnaaGreatDoor
set_option linter.unusedSimpArgs false
set_option linter.unusedVariables false
set_option maxRecDepth 100000
namespace Go.Proofs.YtfgdbeijjbijnaaGreatDoor
open Go Go.Abs Go.Proofs
def kp7 : List (Nat × List Nat) := [(0, [1]), (1, [2])]
theorem lk7 : lookK kp7 0 = some [1] ∧ lookK kp7 1 = some [2] := ⟨rfl, rfl⟩
def H4 : List (Nat × List Nat) := [(0, [0, 1]), (1, [0, 1, 10]), (2, [4]), (3, [0, 1, 5]), (4, [0, 1, 5, 14]), (5, [0, 1, 5]), (6, [0, 1, 5, 25]), (7, [4]), (8, [4])]
theorem JK : lookK H4 0 = some [0, 1] ∧ lookK H4 1 = some [0, 1, 10] ∧ lookK H4 2 = some [4] ∧ lookK H4 3 = some [0, 1, 5] ∧ lookK H4 4 = some [0, 1, 5, 14] ∧ lookK H4 5 = some [0, 1, 5] ∧ lookK H4 6 = some [0, 1, 5, 25] ∧ lookK H4 7 = some [4] ∧ lookK H4 8 = some [4] := ⟨rfl, rfl, rfl, rfl, rfl, rfl, rfl, rfl, rfl⟩
theorem wat2 {f : Nat} {args : List V} {y : V} (h : PureG Tryz.prog GH2 f args y) (T : List AB) : Ad Tryz.prog f args (HG :: Oe :: T) (one y (HG :: Oe :: T)) :=
 h.at rfl rfl
def Qc (c : Me.Cs) : Bool := decide ((c.lamp.length : Int) ≤ 12) && (decide ((c.eye.length : Int) ≤ 6) && decide (Me.okCase c = 0))
set_option maxHeartbeats 2000000 in
theorem aO6 (c : Me.Cs) : AF Tryz.prog 7 [Me.csV c] (B (Qc c)) := by
 refine pure_wkE (bad := []) (kp := kp7) (X := tx) (nt := 18) (rs := [.tmp 2]) Tryz.func7 rfl rfl rfl rfl mo (by kernel_rfl) rfl rfl (fun hf => ?_)
 have hc := Me.checkCase21 c
 simp only [Me.csV, Me.csC] at hc
 by_cases h1 : (c.lamp.length : Int) ≤ 12
 ·by_cases h2 : (c.eye.length : Int) ≤ 6
  ·simp (maxSteps := 2000000) only [go_sem, reduceIte, Nat.reduceEqDiff, Nat.reduceAdd, Nat.reduceLeDiff, Nat.reduceBEq, lk7, JK, Me.csV, Me.csC, h1, h2]
   refine Ac (hc) rfl rfl (by first | exact wk_refls _ | (repeat constructor)) ?_
   simp (maxSteps := 2000000) only [go_sem, reduceIte, Nat.reduceEqDiff, lk7, JK, Qc, h1, h2]
   all_goals first | exact .refl _ | exact ⟨.refl _, .refl _⟩ | exact ⟨.refl _, .refl _, .refl _⟩ | exact ⟨.refl _, _, rfl⟩ | exact ⟨_, rfl⟩ | exact ⟨.refl _, [], by simp⟩ | exact ⟨[], by simp⟩
  ·simp (maxSteps := 2000000) only [go_sem, reduceIte, Nat.reduceEqDiff, Nat.reduceAdd, Nat.reduceLeDiff, Nat.reduceBEq, lk7, JK, Me.csV, Me.csC, h1, h2, Qc]
   all_goals first | exact .refl _ | exact ⟨.refl _, .refl _⟩ | exact ⟨.refl _, .refl _, .refl _⟩ | exact ⟨.refl _, _, rfl⟩ | exact ⟨_, rfl⟩ | exact ⟨.refl _, [], by simp⟩ | exact ⟨[], by simp⟩
 ·simp (maxSteps := 2000000) only [go_sem, reduceIte, Nat.reduceEqDiff, Nat.reduceAdd, Nat.reduceBEq, lk7, JK, Me.csV, Me.csC, h1, Qc]
  all_goals first | exact .refl _ | exact ⟨.refl _, .refl _⟩ | exact ⟨.refl _, .refl _, .refl _⟩ | exact ⟨.refl _, _, rfl⟩ | exact ⟨_, rfl⟩ | exact ⟨.refl _, [], by simp⟩ | exact ⟨[], by simp⟩
set_option maxHeartbeats 4000000 in
theorem aHc (a b c d e f : Int) : AF Tryz.prog 21 [Me.ints [a, b, c], Me.ints [d, e, f]] (B (decide (a = d) && (decide (b = e) && decide (c = f)))) := by
 refine pure_wkE (bad := []) (kp := H4) (X := tx) (nt := 26) (rs := [.tmp 4]) Tryz.func21 rfl rfl rfl rfl mo (by kernel_rfl) rfl rfl (fun hf => ?_)
 simp (maxSteps := 2000000) only [go_sem, reduceIte, Nat.reduceEqDiff, Nat.reduceAdd, lk7, JK, Me.ints, Me.iD, List.map_cons, List.map_nil]
 refine Ah 4 ?_
 refine Aa (bad := []) (kp := H4) mo (by kernel_rfl) ?_
 by_cases h1 : a = d
 ·simp (maxSteps := 2000000) only [go_sem, reduceIte, Nat.reduceEqDiff, Nat.reduceAdd, Int.reduceLT, Int.reduceLE, Int.reduceToNat, lk7, JK, h1, Me.iD, List.map_cons, List.map_nil]
  refine Aa (bad := []) (kp := H4) mo (by kernel_rfl) ?_
  by_cases h2 : b = e
  ·simp (maxSteps := 2000000) only [go_sem, reduceIte, Nat.reduceEqDiff, Nat.reduceAdd, Int.reduceLT, Int.reduceLE, Int.reduceToNat, lk7, JK, h2]
   refine Aa (bad := []) (kp := H4) mo (by kernel_rfl) ?_
   by_cases h3 : c = f
   ·simp (maxSteps := 2000000) only [go_sem, reduceIte, Nat.reduceEqDiff, Nat.reduceAdd, Int.reduceLT, Int.reduceLE, Int.reduceToNat, lk7, JK, h3]
    refine Aa (bad := []) (kp := H4) mo (by kernel_rfl) ?_
    simp (maxSteps := 2000000) only [go_sem, reduceIte, Nat.reduceEqDiff, Nat.reduceAdd, Int.reduceLT, lk7, JK]
    all_goals first | exact .refl _ | exact ⟨.refl _, .refl _⟩ | exact ⟨.refl _, .refl _, .refl _⟩ | exact ⟨.refl _, _, rfl⟩ | exact ⟨_, rfl⟩ | exact ⟨.refl _, [], by simp⟩ | exact ⟨[], by simp⟩
   ·simp (maxSteps := 2000000) only [go_sem, reduceIte, Nat.reduceEqDiff, Nat.reduceAdd, Int.reduceLT, Int.reduceLE, Int.reduceToNat, lk7, JK, h3]
    all_goals first | exact .refl _ | exact ⟨.refl _, .refl _⟩ | exact ⟨.refl _, .refl _, .refl _⟩ | exact ⟨.refl _, _, rfl⟩ | exact ⟨_, rfl⟩ | exact ⟨.refl _, [], by simp⟩ | exact ⟨[], by simp⟩
  ·simp (maxSteps := 2000000) only [go_sem, reduceIte, Nat.reduceEqDiff, Nat.reduceAdd, Int.reduceLT, Int.reduceLE, Int.reduceToNat, lk7, JK, h2]
   all_goals first | exact .refl _ | exact ⟨.refl _, .refl _⟩ | exact ⟨.refl _, .refl _, .refl _⟩ | exact ⟨.refl _, _, rfl⟩ | exact ⟨_, rfl⟩ | exact ⟨.refl _, [], by simp⟩ | exact ⟨[], by simp⟩
 ·simp (maxSteps := 2000000) only [go_sem, reduceIte, Nat.reduceEqDiff, Nat.reduceAdd, Int.reduceLT, Int.reduceLE, Int.reduceToNat, lk7, JK, h1]
  all_goals first | exact .refl _ | exact ⟨.refl _, .refl _⟩ | exact ⟨.refl _, .refl _, .refl _⟩ | exact ⟨.refl _, _, rfl⟩ | exact ⟨_, rfl⟩ | exact ⟨.refl _, [], by simp⟩ | exact ⟨[], by simp⟩
theorem Lf {c : Me.Cs} {x : Me.Tr} {l : List Int} (hc : Me.OkC c) (hT : Me.OkT c x) (hn : l.length = c.lamp.length) : ∃ x0 x1 y0 y1 z0 z1 m0 m1 m2 : Int, Me.spansL c l = [⟨x0, x1⟩, ⟨y0, y1⟩, ⟨z0, z1⟩] ∧ Me.seeL (Me.pX x) l = [m0, m1, m2] ∧ InB x0 x1 y0 y1 (m0, m1) := by
 obtain ⟨h1, h2⟩ := Me.boxed hc hT (Nat.le_of_eq hn) (k := 0) (by decide)
 obtain ⟨h3, h4⟩ := Me.boxed hc hT (Nat.le_of_eq hn) (k := 1) (by decide)
 exact ⟨_, _, _, _, _, _, _, _, _, rfl, rfl, h1, h2, h3, h4⟩
theorem aC7 {x0 x1 y0 y1 : Int} {p : Int × Int} (hp : InB x0 x1 y0 y1 p) (h : (Bf x0 x1 y0 y1).any (CZ 0 1000) = false) : OkB x0 x1 y0 y1 := by
 obtain ⟨h1, h2, h3, h4⟩ := hp
 simp [Bf, CZ] at h
 refine ⟨⟨?_, ?_⟩, ⟨?_, ?_⟩, ⟨?_, ?_⟩, ⟨?_, ?_⟩, ?_, ?_⟩ <;> omega
theorem UG {a b : List (Int × Int)} {w : Int × Int} (ha : ∀ q ∈ a, Bd 1000 q) (hb : ∀ q ∈ b, Bd 1000 q) (h : Fy a b = some w) : HV a b w = true ∧ Bd 1000000 w :=
 ⟨List.find?_some h, P0 ha hb w (List.mem_of_find?_eq_some h)⟩
theorem Qd {c : Me.Cs} {a b : List Int} (h : Me.okChips c a b = 0) (hp : Me.partB c (Me.lessL a b) = true) : Me.pgV c a b = .tup [Me.trV (Me.partT c (Me.partP c (Me.lessL a b))), I 0] ∧ Me.sureP c a b = 19 := by
 have e : Me.partR c a b = (Me.partT c (Me.partP c (Me.lessL a b)), 0) := by simp only [Me.partR, if_pos h, hp, if_true]
 exact ⟨Me.pgV_of e, by simp only [Me.sureP, if_pos h, hp, if_true]⟩
theorem aET {c : Me.Cs} {a b : List Int} (h : Me.okChips c a b = 0) (hp : Me.partB c (Me.lessL a b) = false) : Me.sureP c a b = 0 := by
 simp only [Me.sureP, if_pos h, hp, Bool.false_eq_true, if_false]
end Go.Proofs.YtfgdbeijjbijnaaGreatDoor
set_option linter.unusedSimpArgs false
set_option linter.unusedVariables false
set_option maxRecDepth 100000
namespace Go.Proofs.YtfgdbeijjbijnaaGreatDoor
open Go Go.Abs Go.Proofs
def kp3 : List (Nat × List Nat) := [(0, [1, 2, 3, 4]), (1, [1, 2, 3, 4, 41]), (2, [8]), (3, [1, 2, 4, 9]), (4, [1, 2, 4, 9, 10, 11]), (5, [1, 2, 4, 9, 10, 11, 12, 13]), (6, [1, 2, 4, 9, 10, 11, 12, 13, 14, 15]), (7, [1, 2, 4, 10, 11, 12, 13, 14, 15, 16, 17]), (8, [1, 2, 4, 10, 12, 14, 16, 105]), (9, [8]), (10, [1, 2, 4, 14, 16, 18, 19]), (11, [1, 2, 4, 14, 16, 18, 19, 127]), (12, [8]), (13, [1, 2, 4, 11, 14, 16, 18, 19, 20]), (14, [1, 2, 4, 11, 13, 14, 16, 18, 19, 20, 21]), (15, [1, 2, 4, 14, 16, 18, 19, 166]), (16, [8]), (17, [1, 2, 4, 14, 16, 18, 19, 22, 23]), (18, [1, 2, 4, 14, 16, 18, 19, 22, 23, 24]), (19, [1, 2, 4, 14, 16, 18, 19, 22, 23, 24, 178]), (20, [4, 14, 16, 18, 19, 22, 24, 25, 26]), (21, [8]), (22, [14, 16, 18, 19, 24, 215]), (23, [8]), (24, [14, 16, 18, 19, 24, 217]), (25, [8]), (26, [8])]
theorem lk3 : lookK kp3 0 = some [1, 2, 3, 4] ∧ lookK kp3 1 = some [1, 2, 3, 4, 41] ∧ lookK kp3 2 = some [8] ∧ lookK kp3 3 = some [1, 2, 4, 9] ∧ lookK kp3 4 = some [1, 2, 4, 9, 10, 11] ∧ lookK kp3 5 = some [1, 2, 4, 9, 10, 11, 12, 13] ∧ lookK kp3 6 = some [1, 2, 4, 9, 10, 11, 12, 13, 14, 15] ∧ lookK kp3 7 = some [1, 2, 4, 10, 11, 12, 13, 14, 15, 16, 17] ∧ lookK kp3 8 = some [1, 2, 4, 10, 12, 14, 16, 105] ∧ lookK kp3 9 = some [8] ∧ lookK kp3 10 = some [1, 2, 4, 14, 16, 18, 19] ∧ lookK kp3 11 = some [1, 2, 4, 14, 16, 18, 19, 127] ∧ lookK kp3 12 = some [8] ∧ lookK kp3 13 = some [1, 2, 4, 11, 14, 16, 18, 19, 20] ∧ lookK kp3 14 = some [1, 2, 4, 11, 13, 14, 16, 18, 19, 20, 21] ∧ lookK kp3 15 = some [1, 2, 4, 14, 16, 18, 19, 166] ∧ lookK kp3 16 = some [8] ∧ lookK kp3 17 = some [1, 2, 4, 14, 16, 18, 19, 22, 23] ∧ lookK kp3 18 = some [1, 2, 4, 14, 16, 18, 19, 22, 23, 24] ∧ lookK kp3 19 = some [1, 2, 4, 14, 16, 18, 19, 22, 23, 24, 178] ∧ lookK kp3 20 = some [4, 14, 16, 18, 19, 22, 24, 25, 26] ∧ lookK kp3 21 = some [8] ∧ lookK kp3 22 = some [14, 16, 18, 19, 24, 215] ∧ lookK kp3 23 = some [8] ∧ lookK kp3 24 = some [14, 16, 18, 19, 24, 217] ∧ lookK kp3 25 = some [8] ∧ lookK kp3 26 = some [8] := ⟨rfl, rfl, rfl, rfl, rfl, rfl, rfl, rfl, rfl, rfl, rfl, rfl, rfl, rfl, rfl, rfl, rfl, rfl, rfl, rfl, rfl, rfl, rfl, rfl, rfl, rfl, rfl⟩
set_option maxHeartbeats 16000000 in
theorem aEU (c : Me.Cs) (a b by' : List Int) (hby : Me.B16 by') (hW : PureG Tryz.prog GH2 9 [] (B true)) : Ad Tryz.prog 3 [Me.csV c, Me.ints a, Me.ints b, Me.u16s by'] GH2 (one (B true) GH2) := by
 refine acall_atE (bad := [10]) (kp := kp3) (X := tx) (nt := 242) (rs := [.tmp 8]) Tryz.func3 rfl rfl rfl rfl mo (by kernel_rfl) rfl rfl (fun hf => ?_)
 have wa := fun T => wat2 hW T
 have h7 := aO6 c
 have h8 := Me.chips58 c a b
 simp only [Me.csV, Me.csC, Me.ints] at h7 h8
 simp (maxSteps := 2000000) only [go_sem, reduceIte, Nat.reduceEqDiff, Nat.reduceAdd, Nat.reduceBEq, lk3, GH2, Me.csV, Me.csC, Me.ints, Me.u16s]
 refine Ac (h7) rfl rfl (by first | exact wk_refls _ | (repeat constructor)) ?_
 cases hcb : Qc c with
 | false =>
  simp (maxSteps := 2000000) only [go_sem, reduceIte, Nat.reduceEqDiff, Nat.reduceAdd, Nat.reduceBEq, lk3]
  refine Ar (wa _) rfl rfl (by first | exact wk_refls _ | (repeat constructor)) ?_
  simp (maxSteps := 2000000) only [go_sem, reduceIte, Nat.reduceEqDiff, lk3]
  all_goals first | exact .refl _ | exact ⟨.refl _, .refl _⟩ | exact ⟨.refl _, .refl _, .refl _⟩ | exact ⟨.refl _, _, rfl⟩ | exact ⟨_, rfl⟩ | exact ⟨.refl _, [], by simp⟩ | exact ⟨[], by simp⟩
 | true =>
 simp (maxSteps := 2000000) only [go_sem, reduceIte, Nat.reduceEqDiff, Nat.reduceAdd, lk3]
 refine Ac (h8) rfl rfl (by first | exact wk_refls _ | (repeat constructor)) ?_
 by_cases h : Me.okChips c a b = 0
 case neg =>
  simp (maxSteps := 2000000) only [go_sem, reduceIte, Nat.reduceEqDiff, Nat.reduceAdd, Nat.reduceBEq, lk3, h]
  refine Ar (wa _) rfl rfl (by first | exact wk_refls _ | (repeat constructor)) ?_
  simp (maxSteps := 2000000) only [go_sem, reduceIte, Nat.reduceEqDiff, lk3]
  all_goals first | exact .refl _ | exact ⟨.refl _, .refl _⟩ | exact ⟨.refl _, .refl _, .refl _⟩ | exact ⟨.refl _, _, rfl⟩ | exact ⟨_, rfl⟩ | exact ⟨.refl _, [], by simp⟩ | exact ⟨[], by simp⟩
 by_cases h60 : (60 : Int) < by'.length
 ·simp (maxSteps := 2000000) only [go_sem, reduceIte, Nat.reduceEqDiff, Nat.reduceAdd, Nat.reduceBEq, lk3, h, h60]
  refine Ar (wa _) rfl rfl (by first | exact wk_refls _ | (repeat constructor)) ?_
  simp (maxSteps := 2000000) only [go_sem, reduceIte, Nat.reduceEqDiff, lk3]
  all_goals first | exact .refl _ | exact ⟨.refl _, .refl _⟩ | exact ⟨.refl _, .refl _, .refl _⟩ | exact ⟨.refl _, _, rfl⟩ | exact ⟨_, rfl⟩ | exact ⟨.refl _, [], by simp⟩ | exact ⟨[], by simp⟩
 obtain ⟨hc, ha, hb⟩ := (Me.okChips_iff c a b).1 h
 obtain ⟨hsa, hna⟩ := Me.chip_spec hc ha
 obtain ⟨hsb, hnb⟩ := Me.chip_spec hc hb
 have hT := Me.trueT_ok hc by'
 have c1 : Me.chip1 c a = 0 := (Me.chip1_iff c a).2 ⟨hc, ha⟩
 have c2 : Me.chip1 c b = 0 := (Me.chip1_iff c b).2 ⟨hc, hb⟩
 have n1 := Me.numbers16 c (Me.trueT c by') a
 have n2 := Me.numbers16 c (Me.trueT c by') b
 rw [Me.numV_ok c1 ((Me.okTr_iff c _).2 hT)] at n1
 rw [Me.numV_ok c2 ((Me.okTr_iff c _).2 hT)] at n2
 have s1 := Me.spans18 c a
 have s2 := Me.spans18 c b
 rw [Me.spaV, if_pos c1, c1] at s1
 rw [Me.spaV, if_pos c2, c2] at s2
 have t10 := Me.true43 c by' hc hby
 have h17 := Me.surely27 c a b
 have h18 := Me.parting26 c a b
 obtain ⟨x0, x1, y0, y1, z0, z1, m0, m1, m2, e1, e2, hA⟩ := Lf hc hT hna
 obtain ⟨u0, u1, v0, v1, r0, r1, k0, k1, k2, e3, e4, hB⟩ := Lf hc hT hnb
 rw [e1] at s1
 rw [e3] at s2
 rw [e2] at n1
 rw [e4] at n2
 have hno : Me.partB c (Me.lessL a b) = false → m0 = k0 ∧ m1 = k1 ∧ m2 = k2 := fun hp => by
  have heq : Me.seeL (Me.pX (Me.trueT c by')) a = Me.seeL (Me.pX (Me.trueT c by')) b := (Me.seeL_eq (by omega)).2 (Me.sure_none hc (by rw [Me.lessL_len]; exact hna) hp hT)
  rw [e2, e4] at heq
  simpa using heq
 obtain ⟨X, hX⟩ : ∃ X, X = Me.trueT c by' := ⟨_, rfl⟩
 rw [← hX] at t10 n1 n2
 simp only [Me.csV, Me.csC, Me.ints, Me.u16s, Me.trV, Me.trC, Me.rgs, Me.rgD, Me.iD, List.map_cons, List.map_nil] at t10 s1 s2 n1 n2 h17 h18
 simp (maxSteps := 2000000) only [go_sem, reduceIte, Nat.reduceEqDiff, Nat.reduceAdd, Nat.reduceBEq, lk3, h, h60]
 refine Ac (t10) rfl rfl (by first | exact wk_refls _ | (repeat constructor)) ?_
 simp (maxSteps := 2000000) only [go_sem, reduceIte, Nat.reduceEqDiff, Nat.reduceAdd, lk3]
 refine Ac (s1) rfl rfl (by first | exact wk_refls _ | (repeat constructor)) ?_
 simp (maxSteps := 2000000) only [go_sem, reduceIte, Nat.reduceEqDiff, Nat.reduceAdd, lk3]
 refine Ac (s2) rfl rfl (by first | exact wk_refls _ | (repeat constructor)) ?_
 simp (maxSteps := 2000000) only [go_sem, reduceIte, Nat.reduceEqDiff, Nat.reduceAdd, lk3]
 refine Ac (n1) rfl rfl (by first | exact wk_refls _ | (repeat constructor)) ?_
 simp (maxSteps := 2000000) only [go_sem, reduceIte, Nat.reduceEqDiff, Nat.reduceAdd, lk3]
 refine Ac (n2) rfl rfl (by first | exact wk_refls _ | (repeat constructor)) ?_
 simp (maxSteps := 2000000) only [go_sem, reduceIte, Nat.reduceEqDiff, Nat.reduceAdd, Nat.reduceLeDiff, Nat.reduceBEq, Int.reduceLT, Int.reduceLE, Int.reduceToNat, lk3]
 have b13 := aFe x0 x1 y0 y1
 have b13' := aFe u0 u1 v0 v1
 simp only [glV, glC, Bf, qD, List.map_cons, List.map_nil] at b13 b13'
 refine de_pure (b13) rfl rfl (by first | exact wk_refls _ | (repeat constructor)) ?_
 simp (maxSteps := 2000000) only [go_sem, reduceIte, Nat.reduceEqDiff, Nat.reduceAdd, Int.reduceLT, Int.reduceLE, Int.reduceToNat, lk3]
 refine de_pure (b13') rfl rfl (by first | exact wk_refls _ | (repeat constructor)) ?_
 simp (maxSteps := 2000000) only [go_sem, reduceIte, Nat.reduceEqDiff, Nat.reduceAdd, Nat.reduceLeDiff, lk3]
 refine ⟨AE (by kernel_rfl), ?_⟩
 have g14 := TC (Bf x0 x1 y0 y1) (show 1 ≤ 4 by decide) (show 4 ≤ 12 by decide)
 have g14' := TC (Bf u0 u1 v0 v1) (show 1 ≤ 4 by decide) (show 4 ≤ 12 by decide)
 simp only [glV, glC] at g14 g14'
 cases hg : (Bf x0 x1 y0 y1).any (CZ 0 1000) with
 | true =>
  rw [hg] at g14
  simp only [Bf, qD, List.map_cons, List.map_nil] at g14
  refine Ac (g14) rfl rfl (by first | exact wk_refls _ | (repeat constructor)) ?_
  simp (maxSteps := 2000000) only [go_sem, reduceIte, Nat.reduceEqDiff, Nat.reduceAdd, Nat.reduceBEq, lk3]
  refine Ar (wa _) rfl rfl (by first | exact wk_refls _ | (repeat constructor)) ?_
  simp (maxSteps := 2000000) only [go_sem, reduceIte, Nat.reduceEqDiff, lk3]
  all_goals first | exact .refl _ | exact ⟨.refl _, .refl _⟩ | exact ⟨.refl _, .refl _, .refl _⟩ | exact ⟨.refl _, _, rfl⟩ | exact ⟨_, rfl⟩ | exact ⟨.refl _, [], by simp⟩ | exact ⟨[], by simp⟩
 | false =>
 rw [hg] at g14
 simp only [Bf, qD, List.map_cons, List.map_nil] at g14
 cases hg' : (Bf u0 u1 v0 v1).any (CZ 0 1000) with
 | true =>
  rw [hg'] at g14'
  simp only [Bf, qD, List.map_cons, List.map_nil] at g14'
  refine Ac (g14) rfl rfl (by first | exact wk_refls _ | (repeat constructor)) ?_
  simp (maxSteps := 2000000) only [go_sem, reduceIte, Nat.reduceEqDiff, Nat.reduceAdd, lk3]
  refine Ac (g14') rfl rfl (by first | exact wk_refls _ | (repeat constructor)) ?_
  simp (maxSteps := 2000000) only [go_sem, reduceIte, Nat.reduceEqDiff, Nat.reduceAdd, Nat.reduceBEq, lk3]
  refine Ar (wa _) rfl rfl (by first | exact wk_refls _ | (repeat constructor)) ?_
  simp (maxSteps := 2000000) only [go_sem, reduceIte, Nat.reduceEqDiff, lk3]
  all_goals first | exact .refl _ | exact ⟨.refl _, .refl _⟩ | exact ⟨.refl _, .refl _, .refl _⟩ | exact ⟨.refl _, _, rfl⟩ | exact ⟨_, rfl⟩ | exact ⟨.refl _, [], by simp⟩ | exact ⟨[], by simp⟩
 | false =>
 rw [hg'] at g14'
 simp only [Bf, qD, List.map_cons, List.map_nil] at g14'
 have oA := aC7 hA hg
 have oB := aC7 hB hg'
 have d15 := Ty oA hA
 have d15' := Ty oB hB
 have p16s := fun w hw => P9 (w := w) oA oB hw
 have p16n := Qa oA oB
 have l19 := fun w hp hw => Qb (w := w) oA oB hp hw
 have b22 := fun gp => P2 oA oB hA gp
 have sm := aHc m0 m1 m2 k0 k1 k2
 simp only [glV, glC, qV, qC, Bf, qD, lwC, lnC, btC, Me.ints, Me.iD, List.map_cons, List.map_nil] at d15 d15' p16s p16n l19 b22 sm
 refine Ac (g14) rfl rfl (by first | exact wk_refls _ | (repeat constructor)) ?_
 simp (maxSteps := 2000000) only [go_sem, reduceIte, Nat.reduceEqDiff, Nat.reduceAdd, lk3]
 refine Ac (g14') rfl rfl (by first | exact wk_refls _ | (repeat constructor)) ?_
 simp (maxSteps := 2000000) only [go_sem, reduceIte, Nat.reduceEqDiff, Nat.reduceAdd, Nat.reduceLeDiff, Nat.reduceBEq, Int.reduceLT, Int.reduceLE, Int.reduceToNat, lk3]
 refine Af (d15) rfl rfl (by first | exact wk_refls _ | (repeat constructor)) (by kernel_rfl) ?_
 simp (maxSteps := 2000000) only [go_sem, reduceIte, Nat.reduceEqDiff, Nat.reduceAdd, Nat.reduceBEq, Int.reduceLT, lk3]
 refine Af (d15') rfl rfl (by first | exact wk_refls _ | (repeat constructor)) (by kernel_rfl) ?_
 simp (maxSteps := 2000000) only [go_sem, reduceIte, Nat.reduceEqDiff, Nat.reduceAdd, Nat.reduceBEq, lk3]
 cases hl : Fy (Bn x0 x1 y0 y1) (Bn u0 u1 v0 v1) with
 | some w =>
  obtain ⟨hw1, hw2⟩ := UG (G8 oA) (G8 oB) hl
  have hp : Me.partB c (Me.lessL a b) = true := by
   cases hp : Me.partB c (Me.lessL a b) with
   | true => rfl
   | false =>
    obtain ⟨q1, q2, q3⟩ := hno hp
    subst q1; subst q2
    exact (MZ oA.hx oA.hy oB.hx oB.hy hw1 hA hB).elim
  have hne : (decide (m0 = k0) && (decide (m1 = k1) && decide (m2 = k2))) = false := by
   rw [← Bool.not_eq_true]
   intro e
   simp only [Bool.and_eq_true, decide_eq_true_eq] at e
   obtain ⟨q1, q2, q3⟩ := e
   subst q1; subst q2
   exact (MZ oA.hx oA.hy oB.hx oB.hy hw1 hA hB).elim
  obtain ⟨f1, f2⟩ := Qd h hp
  have hy := Me.partT_ok hc (Me.partP c (Me.lessL a b))
  have t20 := Me.checkTrue30 c (Me.partT c (Me.partP c (Me.lessL a b))) hc
  rw [(Me.okTr_iff c _).2 hy] at t20
  rw [f1] at h18
  rw [f2] at h17
  rw [hne] at sm
  have p16 := p16s w hl
  have l19' := l19 w hw1 hw2
  obtain ⟨mq, hmq⟩ : ∃ mq, mq = B3 (Bn x0 x1 y0 y1) w := ⟨_, rfl⟩
  rw [← hmq] at p16 l19'
  obtain ⟨Y, hY⟩ : ∃ Y, Y = Me.partT c (Me.partP c (Me.lessL a b)) := ⟨_, rfl⟩
  rw [← hY] at t20 h18
  simp only [Me.csV, Me.csC, Me.trV, Me.trC] at t20 h18
  refine Ac (p16) rfl rfl (by first | exact wk_refls _ | (repeat constructor)) ?_
  simp (maxSteps := 2000000) only [go_sem, reduceIte, Nat.reduceEqDiff, Nat.reduceAdd, lk3]
  refine Ac (h17) rfl rfl (by first | exact wk_refls _ | (repeat constructor)) ?_
  simp (maxSteps := 2000000) only [go_sem, reduceIte, Nat.reduceEqDiff, Nat.reduceAdd, Nat.reduceBEq, lk3]
  refine Ac (h18) rfl rfl (by first | exact wk_refls _ | (repeat constructor)) ?_
  simp (maxSteps := 2000000) only [go_sem, reduceIte, Nat.reduceEqDiff, Nat.reduceAdd, lk3]
  refine Ac (l19') rfl rfl (by first | exact wk_refls _ | (repeat constructor)) ?_
  simp (maxSteps := 2000000) only [go_sem, reduceIte, Nat.reduceEqDiff, Nat.reduceAdd, lk3]
  refine Ac (t20) rfl rfl (by first | exact wk_refls _ | (repeat constructor)) ?_
  simp (maxSteps := 2000000) only [go_sem, reduceIte, Nat.reduceEqDiff, lk3]
  refine Ac (sm) rfl rfl (by first | exact wk_refls _ | (repeat constructor)) ?_
  simp (maxSteps := 2000000) only [go_sem, reduceIte, Nat.reduceEqDiff, lk3]
  refine Ar (wa _) rfl rfl (by first | exact wk_refls _ | (repeat constructor)) ?_
  simp (maxSteps := 2000000) only [go_sem, reduceIte, Nat.reduceEqDiff, lk3]
  all_goals first | exact .refl _ | exact ⟨.refl _, .refl _⟩ | exact ⟨.refl _, .refl _, .refl _⟩ | exact ⟨.refl _, _, rfl⟩ | exact ⟨_, rfl⟩ | exact ⟨.refl _, [], by simp⟩ | exact ⟨[], by simp⟩
 | none =>
  refine Ac (p16n hl) rfl rfl (by first | exact wk_refls _ | (repeat constructor)) ?_
  simp (maxSteps := 2000000) only [go_sem, reduceIte, Nat.reduceEqDiff, Nat.reduceAdd, lk3]
  cases hp : Me.partB c (Me.lessL a b) with
  | true =>
   obtain ⟨f1, f2⟩ := Qd h hp
   rw [f2] at h17
   refine Ac (h17) rfl rfl (by first | exact wk_refls _ | (repeat constructor)) ?_
   simp (maxSteps := 2000000) only [go_sem, reduceIte, Nat.reduceEqDiff, Nat.reduceAdd, Nat.reduceBEq, Int.reduceEq, lk3]
   refine Ar (wa _) rfl rfl (by first | exact wk_refls _ | (repeat constructor)) ?_
   simp (maxSteps := 2000000) only [go_sem, reduceIte, Nat.reduceEqDiff, lk3]
   all_goals first | exact .refl _ | exact ⟨.refl _, .refl _⟩ | exact ⟨.refl _, .refl _, .refl _⟩ | exact ⟨.refl _, _, rfl⟩ | exact ⟨_, rfl⟩ | exact ⟨.refl _, [], by simp⟩ | exact ⟨[], by simp⟩
  | false =>
   rw [aET h hp] at h17
   obtain ⟨q1, q2, q3⟩ := hno hp
   subst q1; subst q2; subst q3
   have b22' := b22 hB
   simp only [decide_true, Bool.and_true] at sm
   refine Ac (h17) rfl rfl (by first | exact wk_refls _ | (repeat constructor)) ?_
   simp (maxSteps := 2000000) only [go_sem, reduceIte, Nat.reduceEqDiff, Nat.reduceAdd, Nat.reduceBEq, Int.reduceEq, lk3]
   refine Af (sm) rfl rfl (by first | exact wk_refls _ | (repeat constructor)) (by kernel_rfl) ?_
   simp (maxSteps := 2000000) only [go_sem, reduceIte, Nat.reduceEqDiff, Nat.reduceAdd, Nat.reduceLeDiff, Nat.reduceBEq, Int.reduceLT, Int.reduceLE, Int.reduceToNat, lk3]
   refine Af (b22') rfl rfl (by first | exact wk_refls _ | (repeat constructor)) (by kernel_rfl) ?_
   simp (maxSteps := 2000000) only [go_sem, reduceIte, Nat.reduceEqDiff, Nat.reduceAdd, lk3]
   refine S2 (wa _) rfl rfl (by first | exact wk_refls _ | (repeat constructor)) (by kernel_rfl) ?_
   simp (maxSteps := 2000000) only [go_sem, reduceIte, Nat.reduceEqDiff, Nat.reduceAdd, lk3]
   all_goals first | exact .refl _ | exact ⟨.refl _, .refl _⟩ | exact ⟨.refl _, .refl _, .refl _⟩ | exact ⟨.refl _, _, rfl⟩ | exact ⟨_, rfl⟩ | exact ⟨.refl _, [], by simp⟩ | exact ⟨[], by simp⟩
end Go.Proofs.YtfgdbeijjbijnaaGreatDoor
