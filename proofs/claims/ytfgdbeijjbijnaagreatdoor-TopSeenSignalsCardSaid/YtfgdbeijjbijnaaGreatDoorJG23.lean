/- Signals: corners of a box. -/
import Derived.Test.YtfgdbeijjbijnaaGreatDoorJG22
import Derived.Test.YtfgdbeijjbijnaaGreatDoorJG15
import Derived.Test.YtfgdbeijjbijnaaGreatDoorJG12
set_option linter.unusedSimpArgs false
set_option linter.unusedVariables false
set_option linter.unusedSimpArgs false
set_option linter.unusedVariables false
set_option maxRecDepth 100000
namespace Go.Proofs.YtfgdbeijjbijnaaGreatDoor
open Go Go.Abs Go.Proofs
def Cf : List (Nat × List Nat) := [(0, [0]), (1, [0, 3]), (2, [3, 6, 7, 8]), (3, [3, 6, 7, 8, 9]), (4, [3, 5, 6, 7, 8]), (5, [3, 5, 6, 7, 8, 39]), (6, [3, 5, 6, 7, 8]), (7, [3, 6, 7, 8]), (8, [3, 6, 7, 8]), (9, [2])]
theorem BQ : lookK Cf 0 = some [0] ∧ lookK Cf 1 = some [0, 3] ∧ lookK Cf 2 = some [3, 6, 7, 8] ∧ lookK Cf 3 = some [3, 6, 7, 8, 9] ∧ lookK Cf 4 = some [3, 5, 6, 7, 8] ∧ lookK Cf 5 = some [3, 5, 6, 7, 8, 39] ∧ lookK Cf 6 = some [3, 5, 6, 7, 8] ∧ lookK Cf 7 = some [3, 6, 7, 8] ∧ lookK Cf 8 = some [3, 6, 7, 8] ∧ lookK Cf 9 = some [2] := ⟨rfl, rfl, rfl, rfl, rfl, rfl, rfl, rfl, rfl, rfl⟩
def FX : List (Nat × List Nat) := [(0, [0, 2, 3]), (1, [0, 2, 3, 9]), (2, [0, 2, 3]), (3, [0, 2, 3])]
theorem BR : lookK FX 0 = some [0, 2, 3] ∧ lookK FX 1 = some [0, 2, 3, 9] ∧ lookK FX 2 = some [0, 2, 3] ∧ lookK FX 3 = some [0, 2, 3] := ⟨rfl, rfl, rfl, rfl⟩
theorem wc2 : wr .i64 (2 - 2) = 0 := by decide
theorem wc3 : wr .i64 (3 - 2) = 1 := by decide
theorem wc4 : wr .i64 (4 - 2) = 2 := by decide
attribute [go_sem] wc2 wc3 wc4
theorem DD {p q : Int × Int} (hp : Bd 1000 p) (hq : Bd 1000 q) : Bd 1000000 (Be p q) := by
 obtain ⟨⟨a, b⟩, c, d⟩ := hp
 obtain ⟨⟨e, f⟩, g, h⟩ := hq
 refine ⟨⟨?_, ?_⟩, ?_, ?_⟩ <;> simp only [Be] <;> omega
theorem AR {p : Int × Int} (hp : Bd 1000 p) : Bd 1000000 p := by
 obtain ⟨⟨a, b⟩, c, d⟩ := hp
 exact ⟨⟨by omega, by omega⟩, by omega, by omega⟩
set_option maxHeartbeats 8000000 in
theorem aCG {a b c d : Int × Int} (ba : Bd 1000 a) (bb : Bd 1000 b) (bc : Bd 1000 c) (bd : Bd 1000 d) (h1 : Cw (Be b a) (Be c a) ≤ 0) (h2 : 0 < Cw (Be c a) (Be d a)) : Ad Tryz.prog 219 [.c (.ms 0 0 4 4)] [.cells (c4 a b c d)] (one (.c (.full [qD a, qD c])) [.cells (c4 a b c d)]) := by
 refine acall_atE (bad := []) (kp := Cf) (X := tx) (nt := 61) (rs := [.tmp 2]) Tryz.func219 rfl rfl rfl rfl mo (by kernel_rfl) rfl rfl (fun hf => ?_)
 have l1 := Ez (AR bb) (AR ba)
 have l2 := Ez (AR bc) (AR ba)
 have l3 := Ez (AR bd) (AR ba)
 have x1 := K4 (DD bb ba) (DD bc ba)
 have x2 := K4 (DD bc ba) (DD bd ba)
 simp only [qV, qC] at l1 l2 l3 x1 x2
 simp (maxSteps := 2000000) only [go_sem, reduceIte, Nat.reduceEqDiff, Nat.reduceAdd, BQ, BR, c4]
 refine Ah 5 ?_
 refine Aa (bad := []) (kp := Cf) mo (by kernel_rfl) ?_
 simp (maxSteps := 2000000) only [go_sem, reduceIte, Nat.reduceEqDiff, Nat.reduceAdd, Nat.reduceLeDiff, Nat.reduceMul, Int.reduceLT, Int.reduceLE, Int.reduceToNat, BQ, BR]
 refine Ah 3 ?_
 refine Aa (bad := []) (kp := Cf) mo (by kernel_rfl) ?_
 simp (maxSteps := 2000000) only [go_sem, reduceIte, Nat.reduceEqDiff, Nat.reduceAdd, Nat.reduceLT, Nat.reduceLeDiff, Nat.reduceBEq, Nat.reduceMul, Nat.reduceDiv, Int.reduceNeg, Int.reduceLT, Int.reduceLE, Int.reduceToNat, BQ, BR]
 refine Aa (bad := []) (kp := Cf) mo (by kernel_rfl) ?_
 simp (maxSteps := 2000000) only [go_sem, reduceIte, Nat.reduceEqDiff, Nat.reduceAdd, Nat.reduceLeDiff, Nat.reduceMul, Int.reduceLT, Int.reduceLE, Int.reduceToNat, BQ, BR]
 refine Ah 3 ?_
 refine Aa (bad := []) (kp := Cf) mo (by kernel_rfl) ?_
 simp (maxSteps := 2000000) only [go_sem, reduceIte, Nat.reduceEqDiff, Nat.reduceAdd, Nat.reduceLT, Nat.reduceLeDiff, Nat.reduceBEq, Nat.reduceMul, Nat.reduceDiv, Int.reduceLT, Int.reduceLE, Int.reduceToNat, BQ, BR]
 refine Aa (bad := []) (kp := Cf) mo (by kernel_rfl) ?_
 simp (maxSteps := 2000000) only [go_sem, reduceIte, Nat.reduceEqDiff, Nat.reduceAdd, Nat.reduceLeDiff, Nat.reduceMul, Int.reduceLT, Int.reduceLE, Int.reduceToNat, BQ, BR]
 refine Ah 3 ?_
 refine Aa (bad := []) (kp := Cf) mo (by kernel_rfl) ?_
 simp (maxSteps := 2000000) only [go_sem, reduceIte, Nat.reduceEqDiff, Nat.reduceAdd, Int.reduceLT, Int.reduceLE, Int.reduceToNat, BQ, BR]
 refine Af (l1) rfl rfl (by first | exact wk_refls _ | (repeat constructor)) (by kernel_rfl) ?_
 simp (maxSteps := 2000000) only [go_sem, reduceIte, Nat.reduceEqDiff, Nat.reduceAdd, Int.reduceLT, Int.reduceLE, Int.reduceToNat, BQ, BR]
 refine Af (l2) rfl rfl (by first | exact wk_refls _ | (repeat constructor)) (by kernel_rfl) ?_
 simp (maxSteps := 2000000) only [go_sem, reduceIte, Nat.reduceEqDiff, Nat.reduceAdd, BQ, BR]
 refine Af (x1) rfl rfl (by first | exact wk_refls _ | (repeat constructor)) (by kernel_rfl) ?_
 simp (maxSteps := 2000000) only [go_sem, reduceIte, Nat.reduceEqDiff, Nat.reduceAdd, Nat.reduceBEq, Int.reduceLE, Int.reduceToNat, BQ, BR, h1]
 refine Aa (bad := []) (kp := Cf) mo (by kernel_rfl) ?_
 simp (maxSteps := 2000000) only [go_sem, reduceIte, Nat.reduceEqDiff, Nat.reduceAdd, Nat.reduceLT, Nat.reduceLeDiff, Nat.reduceBEq, Nat.reduceMul, Nat.reduceDiv, Int.reduceLT, Int.reduceLE, Int.reduceToNat, BQ, BR]
 refine Aa (bad := []) (kp := Cf) mo (by kernel_rfl) ?_
 simp (maxSteps := 2000000) only [go_sem, reduceIte, Nat.reduceEqDiff, Nat.reduceAdd, Nat.reduceMul, Int.reduceLT, Int.reduceLE, Int.reduceToNat, BQ, BR]
 refine Ah 3 ?_
 refine Aa (bad := []) (kp := Cf) mo (by kernel_rfl) ?_
 simp (maxSteps := 2000000) only [go_sem, reduceIte, Nat.reduceEqDiff, Nat.reduceAdd, Int.reduceLT, Int.reduceLE, Int.reduceToNat, BQ, BR]
 refine Af (l2) rfl rfl (by first | exact wk_refls _ | (repeat constructor)) (by kernel_rfl) ?_
 simp (maxSteps := 2000000) only [go_sem, reduceIte, Nat.reduceEqDiff, Nat.reduceAdd, Int.reduceLT, Int.reduceLE, Int.reduceToNat, BQ, BR]
 refine Af (l3) rfl rfl (by first | exact wk_refls _ | (repeat constructor)) (by kernel_rfl) ?_
 simp (maxSteps := 2000000) only [go_sem, reduceIte, Nat.reduceEqDiff, Nat.reduceAdd, BQ, BR]
 refine Af (x2) rfl rfl (by first | exact wk_refls _ | (repeat constructor)) (by kernel_rfl) ?_
 have h2' : ¬ Cw (Be c a) (Be d a) ≤ 0 := by omega
 simp (maxSteps := 2000000) only [go_sem, reduceIte, Nat.reduceEqDiff, Nat.reduceAdd, Nat.reduceLT, Nat.reduceLeDiff, Nat.reduceBEq, Nat.reduceMul, Nat.reduceDiv, Int.reduceLE, Int.reduceToNat, BQ, BR, h2']
 refine Aa (bad := []) (kp := Cf) mo (by kernel_rfl) ?_
 simp (maxSteps := 2000000) only [go_sem, reduceIte, Nat.reduceEqDiff, Nat.reduceAdd, Nat.reduceBEq, Int.reduceLT, Int.reduceLE, Int.reduceToNat, BQ, BR]
 exact ⟨.refl _, _, rfl⟩
set_option maxHeartbeats 8000000 in
theorem Om {a b c d : Int × Int} : Ad Tryz.prog 219 [.c (.ms 0 0 2 4)] [.cells (c4 a b c d)] (one (.c (.full [qD a])) [.cells (c4 a b c d)]) := by
 refine acall_atE (bad := []) (kp := Cf) (X := tx) (nt := 61) (rs := [.tmp 2]) Tryz.func219 rfl rfl rfl rfl mo (by kernel_rfl) rfl rfl (fun hf => ?_)
 simp (maxSteps := 2000000) only [go_sem, reduceIte, Nat.reduceEqDiff, Nat.reduceAdd, BQ, BR, c4]
 refine Ah 3 ?_
 refine Aa (bad := []) (kp := Cf) mo (by kernel_rfl) ?_
 simp (maxSteps := 2000000) only [go_sem, reduceIte, Nat.reduceEqDiff, Nat.reduceAdd, Nat.reduceLeDiff, Nat.reduceMul, Int.reduceLT, Int.reduceLE, Int.reduceToNat, BQ, BR]
 refine Ah 3 ?_
 refine Aa (bad := []) (kp := Cf) mo (by kernel_rfl) ?_
 simp (maxSteps := 2000000) only [go_sem, reduceIte, Nat.reduceEqDiff, Nat.reduceAdd, Nat.reduceLT, Nat.reduceLeDiff, Nat.reduceBEq, Nat.reduceMul, Nat.reduceDiv, Int.reduceNeg, Int.reduceLT, Int.reduceLE, Int.reduceToNat, BQ, BR]
 refine Aa (bad := []) (kp := Cf) mo (by kernel_rfl) ?_
 simp (maxSteps := 2000000) only [go_sem, reduceIte, Nat.reduceEqDiff, Nat.reduceAdd, Nat.reduceLeDiff, Nat.reduceMul, Int.reduceLT, Int.reduceLE, Int.reduceToNat, BQ, BR]
 refine Ah 3 ?_
 refine Aa (bad := []) (kp := Cf) mo (by kernel_rfl) ?_
 simp (maxSteps := 2000000) only [go_sem, reduceIte, Nat.reduceEqDiff, Nat.reduceAdd, Nat.reduceLT, Nat.reduceLeDiff, Nat.reduceBEq, Nat.reduceMul, Nat.reduceDiv, Int.reduceLT, Int.reduceLE, Int.reduceToNat, BQ, BR]
 refine Aa (bad := []) (kp := Cf) mo (by kernel_rfl) ?_
 simp (maxSteps := 2000000) only [go_sem, reduceIte, Nat.reduceEqDiff, Nat.reduceAdd, Nat.reduceBEq, Int.reduceLT, Int.reduceLE, Int.reduceToNat, BQ, BR]
 exact ⟨.refl _, _, rfl⟩
set_option maxHeartbeats 8000000 in
theorem rev4 {a b c d : Int × Int} : Ad Tryz.prog 220 [.c (.ms 0 0 4 4)] [.cells (c4 a b c d)] (one (.tup []) [.cells (c4 d c b a)]) := by
 refine Ad.drop2 (Nat.le_refl _) rfl rfl ?_
 refine acall_fitE (bad := [3]) (kp := FX) (X := tx) (nt := 28) (rs := []) Tryz.func220 rfl rfl rfl rfl mo (by kernel_rfl) (fun hf => ?_)
 simp (maxSteps := 2000000) only [go_sem, reduceIte, Nat.reduceEqDiff, Nat.reduceBEq, BQ, BR, c4]
 refine Ah 3 ?_
 refine Aa (bad := [3]) (kp := FX) mo (by kernel_rfl) ?_
 simp (maxSteps := 2000000) only [go_sem, reduceIte, Nat.reduceEqDiff, Nat.reduceAdd, Nat.reduceLT, Nat.reduceLeDiff, Nat.reduceBEq, Nat.reduceMul, Int.reduceLT, Int.reduceLE, Int.reduceToNat, BQ, BR]
 refine ⟨by kernel_rfl, ?_⟩
 refine Aa (bad := [3]) (kp := FX) mo (by kernel_rfl) ?_
 simp (maxSteps := 2000000) only [go_sem, reduceIte, Nat.reduceEqDiff, Nat.reduceAdd, Nat.reduceLT, Nat.reduceLeDiff, Nat.reduceBEq, Nat.reduceMul, Int.reduceLT, Int.reduceLE, Int.reduceToNat, BQ, BR]
 refine ⟨by kernel_rfl, ?_⟩
 refine Aa (bad := [3]) (kp := FX) mo (by kernel_rfl) ?_
 simp (maxSteps := 2000000) only [go_sem, reduceIte, Nat.reduceEqDiff, Nat.reduceAdd, Nat.reduceBEq, Int.reduceLT, BQ, BR]
 all_goals first | exact .refl _ | exact ⟨.refl _, .refl _⟩ | exact ⟨.refl _, .refl _, .refl _⟩ | exact ⟨.refl _, _, rfl⟩ | exact ⟨_, rfl⟩ | exact ⟨.refl _, [], by simp⟩ | exact ⟨[], by simp⟩
set_option maxHeartbeats 8000000 in
theorem rev2 {a b c d : Int × Int} : Ad Tryz.prog 220 [.c (.ms 0 0 2 4)] [.cells (c4 a b c d)] (one (.tup []) [.cells (c4 b a c d)]) := by
 refine Ad.drop2 (Nat.le_refl _) rfl rfl ?_
 refine acall_fitE (bad := [3]) (kp := FX) (X := tx) (nt := 28) (rs := []) Tryz.func220 rfl rfl rfl rfl mo (by kernel_rfl) (fun hf => ?_)
 simp (maxSteps := 2000000) only [go_sem, reduceIte, Nat.reduceEqDiff, Nat.reduceBEq, BQ, BR, c4]
 refine Ah 3 ?_
 refine Aa (bad := [3]) (kp := FX) mo (by kernel_rfl) ?_
 simp (maxSteps := 2000000) only [go_sem, reduceIte, Nat.reduceEqDiff, Nat.reduceAdd, Nat.reduceLT, Nat.reduceLeDiff, Nat.reduceBEq, Nat.reduceMul, Int.reduceLT, Int.reduceLE, Int.reduceToNat, BQ, BR]
 refine ⟨by kernel_rfl, ?_⟩
 refine Aa (bad := [3]) (kp := FX) mo (by kernel_rfl) ?_
 simp (maxSteps := 2000000) only [go_sem, reduceIte, Nat.reduceEqDiff, Nat.reduceAdd, Nat.reduceBEq, Int.reduceLT, BQ, BR]
 all_goals first | exact .refl _ | exact ⟨.refl _, .refl _⟩ | exact ⟨.refl _, .refl _, .refl _⟩ | exact ⟨.refl _, _, rfl⟩ | exact ⟨_, rfl⟩ | exact ⟨.refl _, [], by simp⟩ | exact ⟨[], by simp⟩
end Go.Proofs.YtfgdbeijjbijnaaGreatDoor
set_option linter.unusedSimpArgs false
set_option linter.unusedVariables false
set_option maxRecDepth 100000
namespace Go.Proofs.YtfgdbeijjbijnaaGreatDoor
open Go Go.Abs Go.Proofs
def FY : List (Nat × List Nat) := [(0, [0]), (1, [3]), (2, [3, 9]), (3, [2]), (4, [3, 4]), (5, [3, 4]), (6, [2])]
theorem DP : lookK FY 0 = some [0] ∧ lookK FY 1 = some [3] ∧ lookK FY 2 = some [3, 9] ∧ lookK FY 3 = some [2] ∧ lookK FY 4 = some [3, 4] ∧ lookK FY 5 = some [3, 4] ∧ lookK FY 6 = some [2] := ⟨rfl, rfl, rfl, rfl, rfl, rfl, rfl⟩
def Bf (x0 x1 y0 y1 : Int) : List (Int × Int) := [(x0, y0), (x1, y0), (x1, y1), (x0, y1)]
def Bn (x0 x1 y0 y1 : Int) : List (Int × Int) := if x0 < x1 then (if y0 < y1 then [(x0, y0), (x1, y0), (x1, y1), (x0, y1)] else [(x0, y0), (x1, y0)]) else if y0 < y1 then [(x0, y0), (x0, y1)] else [(x0, y0)]
def B1 (x : Int) : Prop := 0 ≤ x ∧ x ≤ 1000
theorem Av {x y : Int} (hx : B1 x) (hy : B1 y) : Bd 1000 (x, y) := ⟨⟨by have := hx.1; show -1000 ≤ x; omega, hx.2⟩, by have := hy.1; show -1000 ≤ y; omega, hy.2⟩
theorem aEH {a b : Int} (ha : 0 < a) (hb : 0 < b) : 0 * 0 - b * a ≤ 0 ∧ 0 * 0 - (-b) * (-a) ≤ 0 ∧ 0 < a * b - 0 * a ∧ 0 < (-a) * (-b) - 0 * (-a) := by
 have := Int.mul_pos ha hb
 have e : b * a = a * b := Int.mul_comm _ _
 have e2 : -b * -a = a * b := by rw [Int.neg_mul_neg, e]
 have e3 : -a * -b = a * b := Int.neg_mul_neg _ _
 omega
set_option maxHeartbeats 8000000 in
theorem aGX {x0 x1 y0 y1 : Int} (bx0 : B1 x0) (bx1 : B1 x1) (by0 : B1 y0) (by1 : B1 y1) (hx : x0 < x1) (hy : y0 < y1) : AF Tryz.prog 129 [qs (Bf x0 x1 y0 y1)] (qs [(x0, y0), (x1, y0), (x1, y1), (x0, y1)]) := by
 refine pure_wkE (bad := []) (kp := FY) (X := tx) (nt := 19) (rs := [.tmp 2]) Tryz.func129 rfl rfl rfl rfl mo (by kernel_rfl) rfl rfl (fun hf => ?_)
 have o1 : ¬ BZ (x1, y0) (x0, y0) < 0 := by simp only [BZ, EZ]; split <;> split at * <;> omega
 have o2 : ¬ BZ (x1, y1) (x1, y0) < 0 := by simp only [BZ, EZ]; split <;> split at * <;> omega
 have o3 : BZ (x0, y1) (x1, y1) < 0 := by simp only [BZ, EZ]; split <;> split at * <;> omega
 have o4 : BZ (x0, y1) (x1, y0) < 0 := by simp only [BZ, EZ]; split <;> split at * <;> omega
 have o5 : ¬ BZ (x0, y1) (x0, y0) < 0 := by simp only [BZ, EZ]; split <;> split at * <;> omega
 have hs := Gl (aFd o1 o2 o3 o4 o5) (Ur hx hy) rfl
 obtain ⟨k1, k2, k3, k4⟩ := aEH (a := x1 - x0) (b := y1 - y0) (by omega) (by omega)
 have c1 := aCG (Av bx0 by0) (Av bx0 by1) (Av bx1 by0) (Av bx1 by1) (by simp only [Cw, Be]; rw [show x0 - x0 = 0 by omega, show y0 - y0 = 0 by omega]; exact k1) (by simp only [Cw, Be]; rw [show y0 - y0 = 0 by omega]; exact k3)
 have c2 := aCG (Av bx1 by1) (Av bx1 by0) (Av bx0 by1) (Av bx0 by0) (by simp only [Cw, Be]; rw [show x1 - x1 = 0 by omega, show y1 - y1 = 0 by omega, show y0 - y1 = -(y1 - y0) by omega, show x0 - x1 = -(x1 - x0) by omega]; exact k2) (by simp only [Cw, Be]; rw [show y1 - y1 = 0 by omega, show y0 - y1 = -(y1 - y0) by omega, show x0 - x1 = -(x1 - x0) by omega]; exact k4)
 have r := @rev4 (x0, y0) (x0, y1) (x1, y0) (x1, y1)
 simp only [qs, qD, c4, List.map_cons, List.map_nil] at hs c1 c2 r
 simp (maxSteps := 2000000) only [go_sem, reduceIte, Nat.reduceEqDiff, Nat.reduceAdd, DP, qs, qD, Bf, List.map_cons, List.map_nil]
 refine Ar (hs) rfl rfl (by first | exact wk_refls _ | (repeat constructor)) ?_
 simp (maxSteps := 2000000) only [go_sem, reduceIte, Nat.reduceEqDiff, Nat.reduceAdd, Int.reduceEq, DP]
 refine Ar (c1) rfl rfl (by first | exact wk_refls _ | (repeat constructor)) ?_
 simp (maxSteps := 2000000) only [go_sem, reduceIte, Nat.reduceEqDiff, DP]
 refine Ar (r) rfl rfl (by first | exact wk_refls _ | (repeat constructor)) ?_
 simp (maxSteps := 2000000) only [go_sem, reduceIte, Nat.reduceEqDiff, DP]
 refine Ar (c2) rfl rfl (by first | exact wk_refls _ | (repeat constructor)) ?_
 simp (maxSteps := 2000000) only [go_sem, reduceIte, Nat.reduceEqDiff, Nat.reduceAdd, Nat.reduceLT, Nat.reduceLeDiff, Nat.reduceBEq, Nat.reduceMul, Nat.reduceDiv, DP]
set_option maxHeartbeats 8000000 in
theorem aGY {x y0 y1 : Int} (hy : y0 < y1) : AF Tryz.prog 129 [qs (Bf x x y0 y1)] (qs [(x, y0), (x, y1)]) := by
 refine pure_wkE (bad := []) (kp := FY) (X := tx) (nt := 19) (rs := [.tmp 2]) Tryz.func129 rfl rfl rfl rfl mo (by kernel_rfl) rfl rfl (fun hf => ?_)
 have o1 : ¬ BZ (x, y0) (x, y0) < 0 := by simp only [BZ, EZ]; split <;> split at * <;> omega
 have o2 : ¬ BZ (x, y1) (x, y0) < 0 := by simp only [BZ, EZ]; split <;> split at * <;> omega
 have o3 : ¬ BZ (x, y1) (x, y1) < 0 := by simp only [BZ, EZ]; split <;> split at * <;> omega
 have hs := Gl (aFc o1 o2 o3) (Us (x := x) hy) rfl
 have c1 := @Om (x, y0) (x, y1) (0, 0) (0, 0)
 have c2 := @Om (x, y1) (x, y0) (0, 0) (0, 0)
 have r := @rev2 (x, y0) (x, y1) (0, 0) (0, 0)
 simp only [qs, qD, c4, List.map_cons, List.map_nil] at hs c1 c2 r
 simp (maxSteps := 2000000) only [go_sem, reduceIte, Nat.reduceEqDiff, Nat.reduceAdd, DP, qs, qD, Bf, List.map_cons, List.map_nil]
 refine Ar (hs) rfl rfl (by first | exact wk_refls _ | (repeat constructor)) ?_
 simp (maxSteps := 2000000) only [go_sem, reduceIte, Nat.reduceEqDiff, Nat.reduceAdd, Int.reduceEq, DP]
 refine Ar (c1) rfl rfl (by first | exact wk_refls _ | (repeat constructor)) ?_
 simp (maxSteps := 2000000) only [go_sem, reduceIte, Nat.reduceEqDiff, DP]
 refine Ar (r) rfl rfl (by first | exact wk_refls _ | (repeat constructor)) ?_
 simp (maxSteps := 2000000) only [go_sem, reduceIte, Nat.reduceEqDiff, DP]
 refine Ar (c2) rfl rfl (by first | exact wk_refls _ | (repeat constructor)) ?_
 simp (maxSteps := 2000000) only [go_sem, reduceIte, Nat.reduceEqDiff, Nat.reduceAdd, Nat.reduceLT, Nat.reduceLeDiff, Nat.reduceBEq, Nat.reduceMul, Nat.reduceDiv, DP]
set_option maxHeartbeats 8000000 in
theorem aGZ {x0 x1 y : Int} (hx : x0 < x1) : AF Tryz.prog 129 [qs (Bf x0 x1 y y)] (qs [(x0, y), (x1, y)]) := by
 refine pure_wkE (bad := []) (kp := FY) (X := tx) (nt := 19) (rs := [.tmp 2]) Tryz.func129 rfl rfl rfl rfl mo (by kernel_rfl) rfl rfl (fun hf => ?_)
 have o1 : ¬ BZ (x1, y) (x0, y) < 0 := by simp only [BZ, EZ]; split <;> split at * <;> omega
 have o2 : ¬ BZ (x1, y) (x1, y) < 0 := by simp only [BZ, EZ]; split <;> split at * <;> omega
 have o3 : BZ (x0, y) (x1, y) < 0 := by simp only [BZ, EZ]; split <;> split at * <;> omega
 have o5 : ¬ BZ (x0, y) (x0, y) < 0 := by simp only [BZ, EZ]; split <;> split at * <;> omega
 have hs := Gl (aFd o1 o2 o3 o3 o5) (Ut (y := y) hx) rfl
 have c1 := @Om (x0, y) (x1, y) (0, 0) (0, 0)
 have c2 := @Om (x1, y) (x0, y) (0, 0) (0, 0)
 have r := @rev2 (x0, y) (x1, y) (0, 0) (0, 0)
 simp only [qs, qD, c4, List.map_cons, List.map_nil] at hs c1 c2 r
 simp (maxSteps := 2000000) only [go_sem, reduceIte, Nat.reduceEqDiff, Nat.reduceAdd, DP, qs, qD, Bf, List.map_cons, List.map_nil]
 refine Ar (hs) rfl rfl (by first | exact wk_refls _ | (repeat constructor)) ?_
 simp (maxSteps := 2000000) only [go_sem, reduceIte, Nat.reduceEqDiff, Nat.reduceAdd, Int.reduceEq, DP]
 refine Ar (c1) rfl rfl (by first | exact wk_refls _ | (repeat constructor)) ?_
 simp (maxSteps := 2000000) only [go_sem, reduceIte, Nat.reduceEqDiff, DP]
 refine Ar (r) rfl rfl (by first | exact wk_refls _ | (repeat constructor)) ?_
 simp (maxSteps := 2000000) only [go_sem, reduceIte, Nat.reduceEqDiff, DP]
 refine Ar (c2) rfl rfl (by first | exact wk_refls _ | (repeat constructor)) ?_
 simp (maxSteps := 2000000) only [go_sem, reduceIte, Nat.reduceEqDiff, Nat.reduceAdd, Nat.reduceLT, Nat.reduceLeDiff, Nat.reduceBEq, Nat.reduceMul, Nat.reduceDiv, DP]
set_option maxHeartbeats 8000000 in
theorem aG0 {x y : Int} : AF Tryz.prog 129 [qs (Bf x x y y)] (qs [(x, y)]) := by
 refine pure_fzE (bad := []) (kp := FY) (X := tx) (nt := 19) (rs := [.tmp 2]) Tryz.func129 rfl rfl rfl rfl mo (by kernel_rfl) rfl rfl (fun hf => ?_)
 have o1 : ¬ BZ (x, y) (x, y) < 0 := by simp only [BZ, EZ]; split <;> split at * <;> omega
 have hs := Gl (aFc o1 o1 o1) (@Uu x y) rfl
 simp only [qs, qD, c4, List.map_cons, List.map_nil] at hs
 simp (maxSteps := 2000000) only [go_sem, reduceIte, Nat.reduceEqDiff, Nat.reduceAdd, DP, qs, qD, Bf, List.map_cons, List.map_nil]
 refine Ar (hs) rfl rfl (by first | exact wk_refls _ | (repeat constructor)) ?_
 simp (maxSteps := 2000000) only [go_sem, reduceIte, Nat.reduceEqDiff, Nat.reduceAdd, DP]
 have hfz := FzC.ms (id := 0) (ds := [.int .i64 x, .int .i64 y, .int .i64 0, .int .i64 0, .int .i64 0, .int .i64 0, .int .i64 0, .int .i64 0]) 0 2 1 4 (show 2 ≤ 8 by decide) (by decide) (by decide)
 exact ⟨0, _, _, _, rfl, rfl, .v (.c hfz), .refl _⟩
theorem aCH {x0 x1 y0 y1 : Int} (bx0 : B1 x0) (bx1 : B1 x1) (by0 : B1 y0) (by1 : B1 y1) (hx : x0 ≤ x1) (hy : y0 ≤ y1) : AF Tryz.prog 129 [qs (Bf x0 x1 y0 y1)] (qs (Bn x0 x1 y0 y1)) := by
 unfold Bn
 by_cases h1 : x0 < x1
 ·rw [if_pos h1]
  by_cases h2 : y0 < y1
  ·rw [if_pos h2]; exact aGX bx0 bx1 by0 by1 h1 h2
  ·rw [if_neg h2]
   obtain rfl : y0 = y1 := by omega
   exact aGZ h1
 ·rw [if_neg h1]
  obtain rfl : x0 = x1 := by omega
  by_cases h2 : y0 < y1
  ·rw [if_pos h2]; exact aGY h2
  ·rw [if_neg h2]
   obtain rfl : y0 = y1 := by omega
   exact aG0
end Go.Proofs.YtfgdbeijjbijnaaGreatDoor
set_option linter.unusedSimpArgs false
set_option linter.unusedVariables false
set_option maxRecDepth 100000
namespace Go.Proofs.YtfgdbeijjbijnaaGreatDoor
open Go Go.Abs Go.Proofs
def EA : List (Nat × List Nat) := [(0, [0]), (1, [0, 3]), (2, [3, 9, 10, 11]), (3, [3, 9, 10, 11, 12]), (4, [3, 4, 5, 9, 10, 11]), (5, [3, 9, 10, 11]), (6, [3, 9, 10, 11]), (7, [2])]
theorem EB : lookK EA 0 = some [0] ∧ lookK EA 1 = some [0, 3] ∧ lookK EA 2 = some [3, 9, 10, 11] ∧ lookK EA 3 = some [3, 9, 10, 11, 12] ∧ lookK EA 4 = some [3, 4, 5, 9, 10, 11] ∧ lookK EA 5 = some [3, 9, 10, 11] ∧ lookK EA 6 = some [3, 9, 10, 11] ∧ lookK EA 7 = some [2] := ⟨rfl, rfl, rfl, rfl, rfl, rfl, rfl, rfl⟩
def ID : List (Nat × List Nat) := [(0, [1]), (1, [1, 4]), (2, [1, 4, 11]), (3, [2, 3]), (4, [5]), (5, [5, 24, 25, 26]), (6, [5, 24, 25, 26, 27]), (7, [5, 7, 24, 25, 26]), (8, [5, 24, 25, 26]), (9, [5, 24, 25, 26]), (10, [2, 3])]
theorem HT : lookK ID 0 = some [1] ∧ lookK ID 1 = some [1, 4] ∧ lookK ID 2 = some [1, 4, 11] ∧ lookK ID 3 = some [2, 3] ∧ lookK ID 4 = some [5] ∧ lookK ID 5 = some [5, 24, 25, 26] ∧ lookK ID 6 = some [5, 24, 25, 26, 27] ∧ lookK ID 7 = some [5, 7, 24, 25, 26] ∧ lookK ID 8 = some [5, 24, 25, 26] ∧ lookK ID 9 = some [5, 24, 25, 26] ∧ lookK ID 10 = some [2, 3] := ⟨rfl, rfl, rfl, rfl, rfl, rfl, rfl, rfl, rfl, rfl, rfl⟩
def RZ : List (Nat × List Nat) := [(0, [2, 3]), (1, [3, 7, 8]), (2, [3, 7, 8, 16]), (3, [4, 5, 6]), (4, [7, 8, 9]), (5, [4, 5, 6])]
theorem HU : lookK RZ 0 = some [2, 3] ∧ lookK RZ 1 = some [3, 7, 8] ∧ lookK RZ 2 = some [3, 7, 8, 16] ∧ lookK RZ 3 = some [4, 5, 6] ∧ lookK RZ 4 = some [7, 8, 9] ∧ lookK RZ 5 = some [4, 5, 6] := ⟨rfl, rfl, rfl, rfl, rfl, rfl⟩
set_option maxHeartbeats 8000000 in
theorem Uv (a b c d : Int × Int) : AF Tryz.prog 130 [qs [a, b, c, d]] (qs [a, b, c, d]) := by
 refine pure_fzE (bad := [5]) (kp := EA) (X := tx) (nt := 26) (rs := [.tmp 2]) Tryz.func130 rfl rfl rfl rfl mo (by kernel_rfl) rfl rfl (fun hf => ?_)
 simp (maxSteps := 2000000) only [go_sem, reduceIte, Nat.reduceEqDiff, Nat.reduceAdd, Nat.reduceBEq, Int.reduceLE, Int.reduceToNat, EB, HT, HU, qs, qD, List.map_cons, List.map_nil]
 refine ⟨by decide, ?_⟩
 refine Ah 5 ?_
 refine Aa (bad := [5]) (kp := EA) mo (by kernel_rfl) ?_
 simp (maxSteps := 2000000) only [go_sem, reduceIte, Nat.reduceEqDiff, Nat.reduceAdd, Nat.reduceLeDiff, Nat.reduceBEq, Nat.reduceMul, Int.reduceLT, Int.reduceLE, Int.reduceToNat, EB, HT, HU]
 refine Aa (bad := [5]) (kp := EA) mo (by kernel_rfl) ?_
 simp (maxSteps := 2000000) only [go_sem, reduceIte, Nat.reduceEqDiff, Nat.reduceAdd, Nat.reduceLeDiff, Nat.reduceBEq, Nat.reduceMul, Int.reduceLT, Int.reduceLE, Int.reduceToNat, EB, HT, HU]
 refine Aa (bad := [5]) (kp := EA) mo (by kernel_rfl) ?_
 simp (maxSteps := 2000000) only [go_sem, reduceIte, Nat.reduceEqDiff, Nat.reduceAdd, Nat.reduceLeDiff, Nat.reduceBEq, Nat.reduceMul, Int.reduceLT, Int.reduceLE, Int.reduceToNat, EB, HT, HU]
 refine Aa (bad := [5]) (kp := EA) mo (by kernel_rfl) ?_
 simp (maxSteps := 2000000) only [go_sem, reduceIte, Nat.reduceEqDiff, Nat.reduceAdd, Nat.reduceLeDiff, Nat.reduceBEq, Nat.reduceMul, Int.reduceLT, Int.reduceLE, Int.reduceToNat, EB, HT, HU]
 refine Aa (bad := [5]) (kp := EA) mo (by kernel_rfl) ?_
 simp (maxSteps := 2000000) only [go_sem, reduceIte, Nat.reduceEqDiff, Nat.reduceAdd, Nat.reduceBEq, Int.reduceLT, EB, HT, HU]
 have hfz := FzC.ms (id := 0) (ds := [.int .i64 a.1, .int .i64 a.2, .int .i64 b.1, .int .i64 b.2, .int .i64 c.1, .int .i64 c.2, .int .i64 d.1, .int .i64 d.2]) 0 2 4 4 (show 8 ≤ 8 by decide) (by decide) (by decide)
 exact ⟨0, _, _, _, rfl, rfl, .v (.c hfz), .refl _⟩
def gbD (x0 x1 y0 y1 : Int) : List D := [.sl ((Bf x0 x1 y0 y1).map qD), .sl [], .sl ((Bn x0 x1 y0 y1).map qD)]
structure OkB (x0 x1 y0 y1 : Int) : Prop where
 bx0 : B1 x0
 bx1 : B1 x1
 by0 : B1 y0
 by1 : B1 y1
 hx : x0 ≤ x1
 hy : y0 ≤ y1
theorem Tt {x0 x1 y0 y1 : Int} (h : OkB x0 x1 y0 y1) : okG (Bf x0 x1 y0 y1) = true := by
 obtain ⟨⟨a, b⟩, ⟨c, d⟩, ⟨e, f⟩, ⟨g, i⟩, _, _⟩ := h
 simp [okG, Bf, CZ]
 omega
set_option maxHeartbeats 8000000 in
theorem G7 {x0 x1 y0 y1 : Int} (h : OkB x0 x1 y0 y1) : AF Tryz.prog 52 [glV (Bf x0 x1 y0 y1)] (.tup [.c (.dp (gbD x0 x1 y0 y1)), I 0]) := by
 have hg := Mn _ (Tt h)
 have hp := Uv (x0, y0) (x1, y0) (x1, y1) (x0, y1)
 have hh := aCH h.bx0 h.bx1 h.by0 h.by1 h.hx h.hy
 refine pure_fzE (bad := []) (kp := ID) (X := tx) (nt := 43) (rs := [.tmp 2, .tmp 3]) Tryz.func52 rfl rfl rfl rfl mo (by kernel_rfl) rfl rfl (fun hf => ?_)
 obtain ⟨cn, hcn⟩ : ∃ cn, cn = (Bn x0 x1 y0 y1).map qD := ⟨_, rfl⟩
 simp only [glV, glC, qs, Bf, qD, List.map_cons, List.map_nil] at hg hp hh
 simp (maxSteps := 2000000) only [go_sem, reduceIte, Nat.reduceEqDiff, Nat.reduceAdd, EB, HT, HU, glV, glC, Bf, qD, List.map_cons, List.map_nil]
 refine Ac (hg) rfl rfl (by first | exact wk_refls _ | (repeat constructor)) ?_
 simp (maxSteps := 2000000) only [go_sem, reduceIte, Nat.reduceEqDiff, Nat.reduceAdd, Nat.reduceLeDiff, Nat.reduceBEq, EB, HT, HU]
 refine Af (hp) rfl rfl (by first | exact wk_refls _ | (repeat constructor)) (by kernel_rfl) ?_
 simp (maxSteps := 2000000) only [go_sem, reduceIte, Nat.reduceEqDiff, Nat.reduceAdd, EB, HT, HU]
 refine Af (hh) rfl rfl (by first | exact wk_refls _ | (repeat constructor)) (by kernel_rfl) ?_
 simp (maxSteps := 2000000) only [go_sem, reduceIte, Nat.reduceEqDiff, Nat.reduceAdd, Nat.reduceLeDiff, Nat.reduceBEq, EB, HT, HU]
 refine Ah 1 ?_
 refine Aa (bad := []) (kp := ID) mo (by kernel_rfl) ?_
 simp (maxSteps := 2000000) only [go_sem, reduceIte, Nat.reduceEqDiff, Nat.reduceAdd, Int.reduceLT, EB, HT, HU]
 refine ⟨1, _, gbD x0 x1 y0 y1, .tup [.c (.dp (gbD x0 x1 y0 y1)), I 0], rfl, rfl, .tup rfl (fun i x y hx hy => ?_), .refl _⟩
 match i, hx, hy with
 | 0, hx, hy => simp at hx hy; subst hx; subst hy; exact .c (.ptr 0 (Nat.zero_le _))
 | 1, hx, hy => simp at hx hy; subst hx; subst hy; exact .same _
 | i + 2, hx, hy => simp at hx
set_option maxHeartbeats 8000000 in
theorem aCI {x0 x1 y0 y1 u0 u1 v0 v1 : Int} (h : OkB x0 x1 y0 y1) (g : OkB u0 u1 v0 v1) : AF Tryz.prog 55 [glV (Bf x0 x1 y0 y1), glV (Bf u0 u1 v0 v1)] (.tup [.c (.dp (gbD x0 x1 y0 y1)), .c (.dp (gbD u0 u1 v0 v1)), I 0]) := by
 refine pure_wkE (bad := []) (kp := RZ) (X := tx) (nt := 26) (rs := [.tmp 4, .tmp 5, .tmp 6]) Tryz.func55 rfl rfl rfl rfl mo (by kernel_rfl) rfl rfl (fun hf => ?_)
 have n1 := G7 h
 have n2 := G7 g
 simp only [glV, glC] at n1 n2
 simp (maxSteps := 2000000) only [go_sem, reduceIte, Nat.reduceEqDiff, Nat.reduceAdd, EB, HT, HU, glV, glC]
 refine Ac (n1) rfl rfl (by first | exact wk_refls _ | (repeat constructor)) ?_
 simp (maxSteps := 2000000) only [go_sem, reduceIte, Nat.reduceEqDiff, Nat.reduceAdd, EB, HT, HU]
 refine Ac (n2) rfl rfl (by first | exact wk_refls _ | (repeat constructor)) ?_
 simp (maxSteps := 2000000) only [go_sem, reduceIte, Nat.reduceEqDiff, EB, HT, HU]
 all_goals first | exact .refl _ | exact ⟨.refl _, .refl _⟩ | exact ⟨.refl _, .refl _, .refl _⟩ | exact ⟨.refl _, _, rfl⟩ | exact ⟨_, rfl⟩ | exact ⟨.refl _, [], by simp⟩ | exact ⟨[], by simp⟩
end Go.Proofs.YtfgdbeijjbijnaaGreatDoor
set_option linter.unusedSimpArgs false
set_option linter.unusedVariables false
set_option maxRecDepth 100000
namespace Go.Proofs.YtfgdbeijjbijnaaGreatDoor
open Go Go.Abs Go.Proofs
def Gz : List (Nat × List Nat) := [(0, [0, 1]), (1, [0, 1, 5]), (2, [1, 5, 13, 14, 15]), (3, [1, 5, 13, 14, 15, 16]), (4, [1, 5, 7, 13, 14, 15]), (5, [1, 5, 13, 14, 15]), (6, [1, 5, 13, 14, 15]), (7, [4])]
theorem GA : lookK Gz 0 = some [0, 1] ∧ lookK Gz 1 = some [0, 1, 5] ∧ lookK Gz 2 = some [1, 5, 13, 14, 15] ∧ lookK Gz 3 = some [1, 5, 13, 14, 15, 16] ∧ lookK Gz 4 = some [1, 5, 7, 13, 14, 15] ∧ lookK Gz 5 = some [1, 5, 13, 14, 15] ∧ lookK Gz 6 = some [1, 5, 13, 14, 15] ∧ lookK Gz 7 = some [4] := ⟨rfl, rfl, rfl, rfl, rfl, rfl, rfl, rfl⟩
def PS : List (Nat × List Nat) := [(0, [0, 1, 5]), (1, [1, 5, 8]), (2, [8, 9]), (3, [6, 7])]
theorem GB : lookK PS 0 = some [0, 1, 5] ∧ lookK PS 1 = some [1, 5, 8] ∧ lookK PS 2 = some [8, 9] ∧ lookK PS 3 = some [6, 7] := ⟨rfl, rfl, rfl, rfl⟩
def Ax (l : List (Int × Int)) (i : Nat) : Int × Int := l.getD i (0, 0)
theorem Bi {l : List (Int × Int)} {i : Nat} (h : i < l.length) : l[i]? = some (Ax l i) := by simp [Ax, List.getD, h]
def FZ (l : List (Int × Int)) (w : Int × Int) : Nat → Int
 | 0 => BJ w (Ax l 0)
 | i + 1 => max (FZ l w i) (BJ w (Ax l i))
def B3 (l : List (Int × Int)) (w : Int × Int) : Int := FZ l w l.length
theorem PT (l : List (Int × Int)) (w : Int × Int) : ∀ m i, i < m → BJ w (Ax l i) ≤ FZ l w m
 | 0, i, h => by omega
 | m + 1, i, h => by
  simp only [FZ]
  by_cases e : i = m
  ·subst e; exact Int.le_max_right _ _
  ·exact Int.le_trans (PT l w m i (by omega)) (Int.le_max_left _ _)
theorem E0 {l : List (Int × Int)} (w : Int × Int) (h0 : 0 < l.length) : ∀ m, m ≤ l.length → ∃ p ∈ l, FZ l w m = BJ w p
 | 0, _ => ⟨Ax l 0, List.mem_of_getElem? (Bi h0), rfl⟩
 | m + 1, h => by
  obtain ⟨p, hp, e⟩ := E0 w h0 m (by omega)
  simp only [FZ]
  rcases Int.le_total (FZ l w m) (BJ w (Ax l m)) with h1 | h1
  ·exact ⟨Ax l m, List.mem_of_getElem? (Bi (by omega)), Int.max_eq_right h1⟩
  ·exact ⟨p, hp, by rw [Int.max_eq_left h1, e]⟩
theorem K8 {l : List (Int × Int)} (w : Int × Int) {p : Int × Int} (hp : p ∈ l) : BJ w p ≤ B3 l w := by
 obtain ⟨i, hi⟩ := List.getElem?_of_mem hp
 have hlt := (List.getElem?_eq_some_iff.1 hi).1
 rw [Bi hlt] at hi
 cases hi
 exact PT l w _ i hlt
set_option maxHeartbeats 2000000 in
theorem Tu {l : List (Int × Int)} {w : Int × Int} (h0 : 0 < l.length) (hl : l.length ≤ 100) (hb : ∀ p ∈ l, Bd 1000000 p) (hw : Bd 1000000 w) : AF Tryz.prog 201 [qs l, .c (.ma (.func 138) (qC w))] (I (B3 l w)) := by
 refine pure_wkE (bad := []) (kp := Gz) (X := tx) (nt := 26) (rs := [.tmp 4]) Tryz.func201 rfl rfl rfl rfl mo (by kernel_rfl) rfl rfl (fun hf => ?_)
 have hd : ∀ i, i < l.length → AF Tryz.prog 138 [qV w, qV (Ax l i)] (I (BJ w (Ax l i))) := fun i hi => aCC hw (hb _ (List.mem_of_getElem? (Bi hi)))
 simp only [qV, qC] at hd
 have g0 := Bi h0
 have i0 : (0 : Int) < l.length := by omega
 simp (maxSteps := 2000000) only [go_sem, reduceIte, Nat.reduceEqDiff, Nat.reduceAdd, Int.reduceLE, Int.reduceToNat, GA, GB, qs, qC, g0, i0, qD]
 refine Ac (hd 0 h0) rfl rfl (by first | exact wk_refls _ | (repeat constructor)) ?_
 simp (maxSteps := 2000000) only [go_sem, reduceIte, Nat.reduceEqDiff, GA, GB]
 refine goE_loop (bad := []) (kp := Gz) (fun i : Nat => { slots := [(1, .c (.ma (.func 138) (qC w))), (5, I (FZ l w i)), (13, qs l), (14, I l.length), (15, I i)], heap := [], marks := [] }) (fun i => i ≤ l.length) (fun i => l.length - i) 0 mo (by kernel_rfl) ?_ (Nat.zero_le _) ?_
 ·exact Ent.refl
 rintro i hi
 simp (maxSteps := 2000000) only [go_sem, reduceIte, Nat.reduceEqDiff, Nat.reduceAdd, GA, GB, qs]
 refine goE_if (fun h => ?_) (fun h => ?_)
 ·have hlt : i < l.length := by simpa using h
  have hmu : l.length - (i + 1) < l.length - i := by omega
  have cx : (decide ((0 : Int) ≤ (i : Int)) && decide ((i : Int) < (l.length : Int))) = true := by simp; omega
  have hl2 : l.length ≤ 140737488355328 := by omega
  have m1 : Jz (FZ l w i) [BJ w (Ax l i)] = FZ l w (i + 1) := by simp [Jz, FZ]
  simp (maxSteps := 2000000) only [go_sem, reduceIte, Nat.reduceEqDiff, Nat.reduceAdd, GA, GB, Bi hlt, qD, qC, cx]
  refine Ac (hd i hlt) rfl rfl (by first | exact wk_refls _ | (repeat constructor)) ?_
  simp (maxSteps := 2000000) only [go_sem, reduceIte, Nat.reduceEqDiff, GA, GB, m1, Az hlt hl2]
  refine ⟨i + 1, hlt, hmu, ?_⟩
  refine ent_weaken [_] rfl rfl (Nat.zero_le _) rfl rfl ?_
  simp (maxSteps := 2000000) only [go_sem, reduceIte, Nat.reduceEqDiff, GA, GB, qs, qC]
  all_goals first | exact .refl _ | exact ⟨.refl _, .refl _⟩ | exact ⟨.refl _, .refl _, .refl _⟩ | exact ⟨.refl _, _, rfl⟩ | exact ⟨_, rfl⟩ | exact ⟨.refl _, [], by simp⟩ | exact ⟨[], by simp⟩
 ·have hi' : i = l.length := by simp at h; omega
  subst hi'
  simp (maxSteps := 2000000) only [go_sem, reduceIte, Nat.reduceEqDiff, Nat.reduceAdd, GA, GB, B3]
  all_goals first | exact .refl _ | exact ⟨.refl _, .refl _⟩ | exact ⟨.refl _, .refl _, .refl _⟩ | exact ⟨.refl _, _, rfl⟩ | exact ⟨_, rfl⟩ | exact ⟨.refl _, [], by simp⟩ | exact ⟨[], by simp⟩
def F0 (w : Int × Int) : Int × Int := (-w.1, -w.2)
def HV (a b : List (Int × Int)) (w : Int × Int) : Bool := decide (B3 a w < -B3 b (F0 w))
theorem aG1 {p q : Int × Int} (hp : Bd 1000000 p) (hq : Bd 1000000 q) : -2000000000000 ≤ BJ p q ∧ BJ p q ≤ 2000000000000 := by
 have h3 := IB hp.1 hq.1
 have h4 := IB hp.2 hq.2
 simp only [BJ]; omega
theorem aCJ {l : List (Int × Int)} {w : Int × Int} (h0 : 0 < l.length) (hb : ∀ p ∈ l, Bd 1000000 p) (hw : Bd 1000000 w) : -2000000000000 ≤ B3 l w ∧ B3 l w ≤ 2000000000000 := by
 obtain ⟨p, hp, e⟩ := E0 w h0 l.length (Nat.le_refl _)
 unfold B3; rw [e]; exact aG1 hw (hb p hp)
theorem aCK {w : Int × Int} (hw : Bd 1000000 w) : Bd 1000000 (F0 w) := by
 obtain ⟨⟨a, b⟩, c, d⟩ := hw
 refine ⟨⟨?_, ?_⟩, ?_, ?_⟩ <;> simp only [F0] <;> omega
theorem aCL {w : Int × Int} (hw : Bd 1000000 w) : wr .i64 (-w.1) = -w.1 ∧ wr .i64 (-w.2) = -w.2 := by
 obtain ⟨⟨a, b⟩, c, d⟩ := hw
 exact ⟨EX (by omega) (by omega), EX (by omega) (by omega)⟩
set_option maxHeartbeats 2000000 in
theorem aCM {a b : List (Int × Int)} {w : Int × Int} (ha0 : 0 < a.length) (hal : a.length ≤ 100) (hb0 : 0 < b.length) (hbl : b.length ≤ 100) (ha : ∀ p ∈ a, Bd 1000000 p) (hb : ∀ p ∈ b, Bd 1000000 p) (hw : Bd 1000000 w) : AF Tryz.prog 139 [qs a, qs b, qV w] (.tup [I (B3 a w), B (HV a b w)]) := by
 refine pure_wkE (bad := []) (kp := PS) (X := tx) (nt := 29) (rs := [.tmp 6, .tmp 7]) Tryz.func139 rfl rfl rfl rfl mo (by kernel_rfl) rfl rfl (fun hf => ?_)
 have m1 := Tu ha0 hal ha hw
 have m2 := Tu hb0 hbl hb (aCK hw)
 have hbd := aCJ hb0 hb (aCK hw)
 have w3 : wr .i64 (-B3 b (F0 w)) = -B3 b (F0 w) := EX (by omega) (by omega)
 obtain ⟨w1, w2⟩ := aCL hw
 have e : F0 w = (-w.1, -w.2) := rfl
 simp only [qs, qC, F0] at m1 m2
 simp (maxSteps := 2000000) only [go_sem, reduceIte, Nat.reduceEqDiff, Nat.reduceAdd, Nat.reduceLeDiff, Nat.reduceMul, Int.reduceLT, Int.reduceLE, Int.reduceToNat, GA, GB, qs, qV, qC, List.isEmpty_cons, Bool.false_eq_true, if_false]
 refine Ac (m1) rfl rfl (by first | exact wk_refls _ | (repeat constructor)) ?_
 simp (maxSteps := 2000000) only [go_sem, reduceIte, Nat.reduceEqDiff, Nat.reduceAdd, Nat.reduceLeDiff, Nat.reduceBEq, Nat.reduceMul, GA, GB, w1, w2, List.isEmpty_cons, Bool.false_eq_true, if_false]
 refine Ac (m2) rfl rfl (by first | exact wk_refls _ | (repeat constructor)) ?_
 rw [e] at w3
 simp (maxSteps := 2000000) only [go_sem, reduceIte, Nat.reduceEqDiff, GA, GB, w3, HV, e]
 all_goals first | exact .refl _ | exact ⟨.refl _, .refl _⟩ | exact ⟨.refl _, .refl _, .refl _⟩ | exact ⟨.refl _, _, rfl⟩ | exact ⟨_, rfl⟩ | exact ⟨.refl _, [], by simp⟩ | exact ⟨[], by simp⟩
end Go.Proofs.YtfgdbeijjbijnaaGreatDoor
set_option linter.unusedSimpArgs false
set_option linter.unusedVariables false
set_option maxRecDepth 100000
namespace Go.Proofs.YtfgdbeijjbijnaaGreatDoor
open Go Go.Abs Go.Proofs
def aCN : List (Nat × List Nat) := [(0, [1]), (1, [2])]
theorem HW : lookK aCN 0 = some [1] ∧ lookK aCN 1 = some [2] := ⟨rfl, rfl⟩
def E1 : List (Nat × List Nat) := [(0, [0, 1, 6, 7, 8]), (1, [0, 1, 6, 7, 8, 9]), (2, [0, 1, 3, 4, 6, 7, 8]), (3, [0, 1, 4, 5, 6, 7, 8]), (4, [0, 1, 4, 5, 6, 7, 8, 25]), (5, [0, 1, 6, 7, 8, 31]), (6, [0, 1, 6, 7, 8])]
theorem C2 : lookK E1 0 = some [0, 1, 6, 7, 8] ∧ lookK E1 1 = some [0, 1, 6, 7, 8, 9] ∧ lookK E1 2 = some [0, 1, 3, 4, 6, 7, 8] ∧ lookK E1 3 = some [0, 1, 4, 5, 6, 7, 8] ∧ lookK E1 4 = some [0, 1, 4, 5, 6, 7, 8, 25] ∧ lookK E1 5 = some [0, 1, 6, 7, 8, 31] ∧ lookK E1 6 = some [0, 1, 6, 7, 8] := ⟨rfl, rfl, rfl, rfl, rfl, rfl, rfl⟩
theorem JW {α : Type} (H : List α) (x y : α) : (H ++ [x]).set H.length y = H ++ [y] := by rw [List.set_append_right _ _ (Nat.le_refl _)]; simp
theorem R4 {α : Type} (H : List α) (x : α) : (H ++ [x])[H.length]? = some x := by simp
theorem On {α : Type} (H : List α) (x y : α) : (H ++ [x] ++ [y])[H.length]? = some x := by simp
theorem PU {α : Type} (H : List α) (x : α) : (H ++ [x]).length = H.length + 1 := by simp
theorem K9 {α : Type} (H : List α) (x y : α) : (H ++ [x] ++ [y])[H.length + 1]? = some y := by simp
theorem IE {α : Type} (H : List α) (x y z : α) : (H ++ [x] ++ [y]).set (H.length + 1) z = H ++ [x] ++ [z] := by
 rw [← PU H x, JW]
theorem aEI {α : Type} {H : List α} (h : H.length = 8) (x : α) : (H ++ [x])[8]? = some x := by rw [← h]; exact R4 H x
theorem aCO {α : Type} {H : List α} (h : H.length = 8) (x y : α) : (H ++ [x]).set 8 y = H ++ [y] := by rw [← h]; exact JW H x y
theorem aCP {α : Type} {H : List α} (h : H.length = 8) (x y : α) : (H ++ [x] ++ [y])[8]? = some x := by rw [← h]; exact On H x y
theorem aCQ {α : Type} {H : List α} (h : H.length = 8) (x y : α) : (H ++ [x] ++ [y])[9]? = some y := by rw [show 9 = H.length + 1 by omega]; exact K9 H x y
theorem Uw {α : Type} {H : List α} (h : H.length = 8) (x y z : α) : (H ++ [x] ++ [y]).set 9 z = H ++ [x] ++ [z] := by rw [show 9 = H.length + 1 by omega]; exact IE H x y z
theorem aCR {α : Type} {H : List α} (h : H.length = 8) (x : α) : (H ++ [x]).length = 9 := by simp [h]
def AV (l : List (Int × Int)) (i : Nat) : Int × Int := Be (Ax l ((i + 1) % l.length)) (Ax l i)
theorem PV (l : List (Int × Int)) (H : List AB) : Ad Tryz.prog 135 [qs l] H (one (.c (.fn (.func 225) [.ptr H.length 0])) (H ++ [.cells [.d (.sl (l.map qD))]])) := by
 refine acall_fitE (bad := []) (kp := aCN) (X := tx) (nt := 4) (rs := [.tmp 2]) Tryz.func135 rfl rfl rfl rfl mo (by kernel_rfl) (fun hf => ?_)
 simp (maxSteps := 2000000) only [go_sem, reduceIte, Nat.reduceEqDiff, Nat.reduceAdd, HW, C2, qs]
 exact ⟨rfl, rfl⟩
theorem MY {i n : Nat} (h : n ≤ 1000) (h0 : 0 < n) : Int.tmod ((i + 1 : Nat) : Int) (n : Int) = (((i + 1) % n : Nat) : Int) := by
 rw [Int.tmod_eq_emod_of_nonneg (by omega), ← Int.natCast_emod]
set_option maxHeartbeats 8000000 in
theorem aCS (l : List (Int × Int)) (hbd : ∀ p ∈ l, Bd 1000 p) (n2 : 2 ≤ l.length) (n4 : l.length ≤ 4) (hd : ∀ i, i < l.length → (decide ((AV l i).1 = 0) && decide ((AV l i).2 = 0)) = false) (Hs : Nat → List AB)
  (hlow : ∀ k, k ≤ l.length → (Hs k).all (AB.low 8) = true ∧ (Hs k).length = 8)
  (hb1 : ∀ k, k ≤ l.length → (Hs k)[5]? = some (.cells [.d (.sl (l.map qD))]))
  (hy : ∀ i, i < l.length → YC Tryz.prog 7 (Hs i ++ [.cells (qC (Ax l i))] ++ [.cells (qC (AV l i))]) (.agg (qC (Ax l i) ++ qC (AV l i))) (one (B true) (Hs (i + 1) ++ [.cells (qC (Ax l i))] ++ [.cells (qC (AV l i))]))) :
  Ad Tryz.prog 225 [.c (.yd 7), .c (.ptr 5 0)] (Hs 0) (fun _ H' => H' = Hs l.length) := by
 have hb10 := hb1 0 (Nat.zero_le _)
 have hl0 := (hlow 0 (Nat.zero_le _)).2
 refine acall_fitE (bad := [3]) (kp := E1) (X := tx) (nt := 33) (rs := []) Tryz.func225 rfl rfl rfl rfl mo (by kernel_rfl) (fun hf => ?_)
 simp (maxSteps := 2000000) only [go_sem, reduceIte, Nat.reduceEqDiff, Nat.reduceBEq, HW, C2, hb10]
 refine goE_loop (bad := [3]) (kp := E1) (fun i : Nat => { slots := [(0, .c (.yd 7)), (1, .c (.ptr 5 0)), (6, qs l), (7, I l.length), (8, I i)], heap := Hs i, marks := [] }) (fun i => i ≤ l.length) (fun i => l.length - i) 0 mo (by kernel_rfl) ?_ (Nat.zero_le _) ?_
 ·obtain ⟨q1, q2⟩ := hlow 0 (by omega)
  refine ent_weaken [] (by simp) rfl (Nat.le_refl _) (by rw [q2]; exact q1) rfl ?_
  simp (maxSteps := 2000000) only [go_sem, reduceIte, Nat.reduceEqDiff, Nat.reduceLT, HW, C2, qs, hl0]
  all_goals first | exact .refl _ | exact ⟨.refl _, .refl _⟩ | exact ⟨.refl _, .refl _, .refl _⟩ | exact ⟨.refl _, _, rfl⟩ | exact ⟨_, rfl⟩ | exact ⟨.refl _, [], by simp⟩ | exact ⟨[], by simp⟩
 rintro i hi
 simp (maxSteps := 2000000) only [go_sem, reduceIte, Nat.reduceEqDiff, Nat.reduceAdd, Nat.reduceBEq, HW, C2, qs, hl0]
 refine goE_if (fun h => ?_) (fun h => ?_)
 ·have hlt : i < l.length := by simpa using h
  obtain ⟨q1, q2⟩ := hlow i hi
  obtain ⟨r1, r2⟩ := hlow (i + 1) hlt
  have hb1i := hb1 i hi
  have hyi := hy i hlt
  have hdi := hd i hlt
  have hmu : l.length - (i + 1) < l.length - i := by omega
  have hn : (i + 1) % l.length < l.length := Nat.mod_lt _ (by omega)
  have g1 := Bi hlt
  have g2 := Bi hn
  have b1' := hbd _ (List.mem_of_getElem? g1)
  have b2' := hbd _ (List.mem_of_getElem? g2)
  have hls := Ez (AR b2') (AR b1')
  have hap1 : ∀ x : AB, (Hs i ++ [x])[5]? = some (.cells [.d (.sl (l.map qD))]) := fun x => by rw [List.getElem?_append_left (by omega)]; exact hb1i
  have hap2 : ∀ x y : AB, (Hs i ++ [x] ++ [y])[5]? = some (.cells [.d (.sl (l.map qD))]) := fun x y => by rw [List.append_assoc, List.getElem?_append_left (by omega)]; exact hb1i
  have cx : (decide ((0 : Int) ≤ (i : Int)) && decide ((i : Int) < (l.length : Int))) = true := by simp; omega
  have cx2 : (decide ((0 : Int) ≤ (((i + 1) % l.length : Nat) : Int)) && decide ((((i + 1) % l.length : Nat) : Int) < (l.length : Int))) = true := by
   rw [decide_eq_true (Int.natCast_nonneg _), decide_eq_true (Int.ofNat_lt.2 hn)]; rfl
  have nz : ¬ (l.length : Int) = 0 := by omega
  have hl2 : l.length ≤ 140737488355328 := by omega
  have tm := MY (i := i) (n := l.length) (by omega) (by omega)
  have ew : AV l i = Be (Ax l ((i + 1) % l.length)) (Ax l i) := rfl
  have k1 := fun x => aEI (H := Hs i) q2 x
  have k2 := fun x y => aCO (H := Hs i) q2 x y
  have k3 := fun x y => aCP (H := Hs i) q2 x y
  have k4 := fun x y => aCQ (H := Hs i) q2 x y
  have k5 := fun x y z => Uw (H := Hs i) q2 x y z
  have k6 := fun x => aCR (H := Hs i) q2 x
  rw [← ew] at hls
  simp only [qV, qC, List.cons_append, List.nil_append] at hls hyi
  simp (maxSteps := 2000000) only [go_sem, reduceIte, Nat.reduceEqDiff, Nat.reduceAdd, Nat.reduceBEq, HW, C2, g1, qD, cx, q2, k1, k2, k3, k4, k5, k6, hap1, hap2, Az hlt hl2, tm, nz, cx2, g2]
  refine de_pure (hls) rfl rfl (by first | exact wk_refls _ | (repeat constructor)) ?_
  simp (maxSteps := 2000000) only [go_sem, reduceIte, Nat.reduceEqDiff, Nat.reduceAdd, Nat.reduceLeDiff, Nat.reduceBEq, HW, C2, q2, k1, k2, k3, k4, k5, k6, hap1, hap2, hdi]
  refine ⟨AE (by kernel_rfl), ?_⟩
  refine S8 hyi rfl rfl (fun y H' hh => ?_)
  obtain ⟨rfl, rfl⟩ := hh
  simp (maxSteps := 2000000) only [go_sem, reduceIte, Nat.reduceEqDiff, Nat.reduceAdd, Nat.reduceBEq, HW, C2]
  refine ⟨i + 1, hlt, hmu, ?_⟩
  refine ent_weaken [.cells (qC (Ax l i)), .cells (qC (AV l i))] (by simp only [List.append_assoc, List.cons_append, List.nil_append, qC]) rfl (by rw [r2]; exact Nat.le_refl _) (by rw [r2]; exact r1) rfl ?_
  simp (maxSteps := 2000000) only [go_sem, reduceIte, Nat.reduceEqDiff, Nat.reduceLT, HW, C2, qs, r2, Az hlt hl2]
  all_goals first | exact .refl _ | exact ⟨.refl _, .refl _⟩ | exact ⟨.refl _, .refl _, .refl _⟩ | exact ⟨.refl _, _, rfl⟩ | exact ⟨_, rfl⟩ | exact ⟨.refl _, [], by simp⟩ | exact ⟨[], by simp⟩
 ·have hi' : i = l.length := by simp at h; omega
  subst hi'
  simp (maxSteps := 2000000) only [go_sem, reduceIte, HW, C2]
end Go.Proofs.YtfgdbeijjbijnaaGreatDoor
set_option linter.unusedSimpArgs false
set_option linter.unusedVariables false
set_option maxRecDepth 100000
namespace Go.Proofs.YtfgdbeijjbijnaaGreatDoor
open Go Go.Abs Go.Proofs
def IF : List (Nat × List Nat) := [(0, [3, 4, 5, 6]), (1, [3, 4, 6, 7]), (2, [3, 4, 6, 7, 13]), (3, [6]), (4, [3, 4, 6, 7, 22]), (5, [3, 4, 6, 7, 8]), (6, [3, 6, 8, 9]), (7, [6, 46]), (8, [6]), (9, [6])]
theorem HX : lookK IF 0 = some [3, 4, 5, 6] ∧ lookK IF 1 = some [3, 4, 6, 7] ∧ lookK IF 2 = some [3, 4, 6, 7, 13] ∧ lookK IF 3 = some [6] ∧ lookK IF 4 = some [3, 4, 6, 7, 22] ∧ lookK IF 5 = some [3, 4, 6, 7, 8] ∧ lookK IF 6 = some [3, 6, 8, 9] ∧ lookK IF 7 = some [6, 46] ∧ lookK IF 8 = some [6] ∧ lookK IF 9 = some [6] := ⟨rfl, rfl, rfl, rfl, rfl, rfl, rfl, rfl, rfl, rfl⟩
def aCT : List (Nat × List Nat) := [(0, [1, 2, 3]), (1, [3])]
theorem EC : lookK aCT 0 = some [1, 2, 3] ∧ lookK aCT 1 = some [3] := ⟨rfl, rfl⟩
theorem aCU {X : Tx} {r : Option Nat} {nb nt : Nat} {m3 : Bool} {n0 N0 : Nat} {all : Array Oper} {k hc : Nat} {os : List Oper} {o : Oper} {acc : List BO} {Q : St → Prop} {s : St} {g : FuncId} {args args' : List V} {y : V} (b : Nat) (h : ∀ H2 : List AB, H2[b]? = s.heap[b]? → Ad X.P g args' H2 (one y H2)) (hg : Ay all s.get o = some true) (hcl : Bt s.ev o = some (g, args)) (hw : WkVs args args')
  (n : dE X r nb nt m3 n0 N0 all (k + 1) hc os (D1 m3 n0 k y .no (.blk b) acc) Q (s.put o.dst y s.heap)) : dS X r nb nt m3 n0 N0 all k hc (o :: os) acc Q s :=
 ⟨true, y, .no, .blk b, hg, by
  simp only [if_true]
  intro H2 hs
  exact AI hcl ((h H2 hs).weak hw), callee_kind hcl _ _, dE_sound os _ hc _ _ n⟩
set_option maxHeartbeats 1000000 in
theorem PW (p : Int × Int) (H : List AB) (b : Nat) (hb : H[b]? = some (.cells [.d (.int .i64 1)])) (hp : Bd 1000000 p) : Ad Tryz.prog 134 [qV p, .c (.ptr b 0)] H (one (qV p) H) := by
 refine Ad.low_of Tryz.func134 rfl rfl (fun hH => ?_)
 have lb := (List.getElem?_eq_some_iff.1 hb).1
 have hap1 : ∀ x : AB, (H ++ [x])[b]? = some (.cells [.d (.int .i64 1)]) := fun x => by rw [List.getElem?_append_left lb]; exact hb
 have hap2 : ∀ x y : AB, (H ++ [x] ++ [y])[b]? = some (.cells [.d (.int .i64 1)]) := fun x y => by rw [List.append_assoc, List.getElem?_append_left lb]; exact hb
 have w1 : wr .i64 (p.1 * 1) = p.1 := by rw [Int.mul_one]; exact EX (by have := hp.1.1; omega) (by have := hp.1.2; omega)
 have w2 : wr .i64 (p.2 * 1) = p.2 := by rw [Int.mul_one]; exact EX (by have := hp.2.1; omega) (by have := hp.2.2; omega)
 refine acall_atE (bad := []) (kp := aCT) (X := tx) (nt := 13) (rs := [.cell 3 132]) Tryz.func134 rfl rfl rfl rfl mo (by kernel_rfl) rfl hH (fun hf => ?_)
 simp (maxSteps := 2000000) only [go_sem, reduceIte, Nat.reduceEqDiff, Nat.reduceAdd, Nat.reduceLeDiff, Nat.reduceBEq, Nat.reduceMul, Int.reduceLT, Int.reduceLE, Int.reduceToNat, HX, EC, qV, qC, hap1, hap2, R4, JW, On, K9, IE, PU, w1, w2]
 exact ⟨_, List.append_assoc _ _ _⟩
set_option maxHeartbeats 8000000 in
theorem PX (p : Int × Int) (hp : Bd 1000000 p) : AF Tryz.prog 54 [qs [p], qV p, I 1] (B true) := by
 refine pure_wkE (bad := [3, 6]) (kp := IF) (X := tx) (nt := 47) (rs := [.cell 6 4]) Tryz.func54 rfl rfl rfl rfl mo (by kernel_rfl) rfl rfl (fun hf => ?_)
 have ht := fun H hb => PW p H 2 hb hp
 simp only [qV, qC, qD] at ht
 simp (maxSteps := 2000000) only [go_sem, reduceIte, Nat.reduceEqDiff, Nat.reduceAdd, Nat.reduceLeDiff, Nat.reduceBEq, Int.reduceLT, Int.reduceLE, Int.reduceToNat, HX, EC, qs, qV, qC, qD, List.map_cons, List.map_nil]
 refine aCU 2 (fun H2 e => ht H2 e) rfl rfl (by first | exact wk_refls _ | (repeat constructor)) ?_
 simp (maxSteps := 2000000) only [go_sem, reduceIte, Nat.reduceEqDiff, Nat.reduceAdd, HX, EC]
 exact AE (by kernel_rfl)
def slF : List (Nat × V) := [(3, .c (.ptr 0 0)), (4, .c (.ptr 1 0)), (6, .c (.ptr 3 0)), (7, .c (.ptr 4 0)), (22, .c (.fn (.func 225) [.ptr 5 0]))]
def HF (l : List (Int × Int)) (p : Int × Int) (A Bd : Code) (st : LoopState) : List AB := [.cells [.d (.sl (l.map qD))], .cells (qC p), .cells [.d (.int .i64 1)], .cells [.d (.bool false)], .cells [.fn (.func 134) [.ptr 2 0]], .cells [.d (.sl (l.map qD))], .df, .lp { state := st, pend := none, slots := slF, nt := 47, ps := #[23], assign := A, body := Bd, D := 6 }]
set_option maxHeartbeats 8000000 in
theorem aEJ (l : List (Int × Int)) (p : Int × Int) (hbd : ∀ q ∈ l, Bd 1000 q) (hp : Bd 1000 p) (n2 : 2 ≤ l.length) (n4 : l.length ≤ 4) (hd : ∀ i, i < l.length → (decide ((AV l i).1 = 0) && decide ((AV l i).2 = 0)) = false)
  (hin : ∀ i, i < l.length → ¬ Cw (AV l i) (Be p (Ax l i)) < 0) (hdot : l.length = 2 → ∀ i, i < l.length → ¬ BJ (AV l i) (Be p (Ax l i)) < 0) : AF Tryz.prog 54 [qs l, qV p, I 1] (B true) := by
 refine pure_wkE (bad := [3, 6]) (kp := IF) (X := tx) (nt := 47) (rs := [.cell 6 4]) Tryz.func54 rfl rfl rfl rfl mo (by kernel_rfl) rfl rfl (fun hf => ?_)
 have hsd := PV l [.cells [.d (.sl (l.map qD))], .cells (qC p), .cells [.d (.int .i64 1)], .cells [.d (.bool false)], .cells [.fn (.func 134) [.ptr 2 0]]]
 have e1 : ¬ (l.length : Int) = 1 := by omega
 simp only [qC, qs] at hsd
 simp (maxSteps := 2000000) only [go_sem, reduceIte, Nat.reduceEqDiff, Nat.reduceAdd, Nat.reduceBEq, HX, EC, qs, qV, qC, e1]
 refine Ar (hsd) rfl rfl (by first | exact wk_refls _ | (repeat constructor)) ?_
 simp (maxSteps := 2000000) only [go_sem, reduceIte, Nat.reduceEqDiff, Nat.reduceAdd, HX, EC]
 refine KI (fun A Bd hA hB => ?_)
 refine FS (gf := 225) (caps := [.ptr 5 0]) rfl rfl (Nat.zero_le _) rfl ?_
 refine Ad.mono (aCS l hbd n2 n4 hd (fun _ => HF l p A Bd .ready) (fun k hk => ⟨rfl, rfl⟩) (fun _ _ => rfl) (fun i hi => ?_)) ?_
 ·refine VC (bad := [3, 6]) (kp := IF) (X := tx) mo rfl hA hB rfl rfl (by kernel_rfl) (by kernel_rfl) (fun lp => ?_)
  simp (maxSteps := 2000000) only [go_sem, reduceIte, Nat.reduceEqDiff, Nat.reduceAdd, Nat.reduceBEq, HX, EC, DW, HF, slF, qC, List.cons_append, List.nil_append]
  refine ⟨_, rfl, ?_⟩
  simp (maxSteps := 2000000) only [go_sem, reduceIte, Nat.reduceEqDiff, Nat.reduceAdd, Nat.reduceLT, Nat.reduceLeDiff, Nat.reduceBEq, HX, EC, DW, HF, slF, qC, List.cons_append, List.nil_append]
  have bq := hbd _ (List.mem_of_getElem? (Bi hi))
  have ht := fun H hb => PW (Ax l i) H 2 hb (AR bq)
  have hls := Ez (AR hp) (AR bq)
  have hn : (i + 1) % l.length < l.length := Nat.mod_lt _ (by omega)
  have bw := DD (hbd _ (List.mem_of_getElem? (Bi hn))) bq
  have ew : Be (Ax l ((i + 1) % l.length)) (Ax l i) = AV l i := rfl
  rw [ew] at bw
  have hcr := K4 bw (DD hp bq)
  have hdt := aCC bw (DD hp bq)
  have c1 := hin i hi
  simp only [qV, qC] at ht hls hcr hdt
  refine aCU 2 (fun H2 e => ht H2 e) rfl rfl (by first | exact wk_refls _ | (repeat constructor)) ?_
  simp (maxSteps := 2000000) only [go_sem, reduceIte, Nat.reduceEqDiff, Nat.reduceAdd, HX, EC]
  refine de_pure (hls) rfl rfl (by first | exact wk_refls _ | (repeat constructor)) ?_
  simp (maxSteps := 2000000) only [go_sem, reduceIte, Nat.reduceEqDiff, Nat.reduceAdd, Nat.reduceBEq, HX, EC]
  refine ⟨AE (by kernel_rfl), ?_⟩
  refine Ac (hcr) rfl rfl (by first | exact wk_refls _ | (repeat constructor)) ?_
  simp (maxSteps := 2000000) only [go_sem, reduceIte, Nat.reduceEqDiff, HX, EC, c1]
  by_cases h2 : (l.length : Int) = 2
  ·have c2 := hdot (by omega) i hi
   simp (maxSteps := 2000000) only [go_sem, reduceIte, Nat.reduceEqDiff, Nat.reduceAdd, Nat.reduceBEq, HX, EC, h2]
   refine Ac (hdt) rfl rfl (by first | exact wk_refls _ | (repeat constructor)) ?_
   simp (maxSteps := 2000000) only [go_sem, reduceIte, Nat.reduceEqDiff, HX, EC, c2]
   exact ⟨{ slots := [], heap := HF l p A Bd .busy ++ [.cells (qC (Ax l i))] ++ [.cells (qC (AV l i))], marks := [] }, ent_weaken [_, _] rfl rfl (show 10 ≤ 10 by decide) rfl rfl trivial, _, rfl, rfl, rfl⟩
  ·simp (maxSteps := 2000000) only [go_sem, reduceIte, Nat.reduceEqDiff, HX, EC, h2]
   exact ⟨{ slots := [], heap := HF l p A Bd .busy ++ [.cells (qC (Ax l i))] ++ [.cells (qC (AV l i))], marks := [] }, ent_weaken [_, _] rfl rfl (show 10 ≤ 10 by decide) rfl rfl trivial, _, rfl, rfl, rfl⟩
 ·rintro _ H2 rfl
  refine ⟨fun h => (by cases h), rfl, rfl, ?_⟩
  simp (maxSteps := 2000000) only [go_sem, reduceIte, Nat.reduceEqDiff, Nat.reduceAdd, Nat.reduceBEq, HX, EC, HF, slF]
end Go.Proofs.YtfgdbeijjbijnaaGreatDoor
set_option linter.unusedSimpArgs false
set_option linter.unusedVariables false
set_option maxRecDepth 100000
namespace Go.Proofs.YtfgdbeijjbijnaaGreatDoor
open Go Go.Abs Go.Proofs
structure InB (x0 x1 y0 y1 : Int) (p : Int × Int) : Prop where
 a : x0 ≤ p.1
 b : p.1 ≤ x1
 c : y0 ≤ p.2
 d : p.2 ≤ y1
theorem DE {x0 x1 y0 y1 : Int} (hx : x0 ≤ x1) (hy : y0 ≤ y1) :
  (x0 < x1 ∧ y0 < y1 ∧ Bn x0 x1 y0 y1 = [(x0, y0), (x1, y0), (x1, y1), (x0, y1)]) ∨ (x0 < x1 ∧ y0 = y1 ∧ Bn x0 x1 y0 y1 = [(x0, y0), (x1, y0)]) ∨
  (x0 = x1 ∧ y0 < y1 ∧ Bn x0 x1 y0 y1 = [(x0, y0), (x0, y1)]) ∨ (x0 = x1 ∧ y0 = y1 ∧ Bn x0 x1 y0 y1 = [(x0, y0)]) := by
 unfold Bn
 by_cases h1 : x0 < x1
 ·by_cases h2 : y0 < y1
  ·exact .inl ⟨h1, h2, by rw [if_pos h1, if_pos h2]⟩
  ·exact .inr (.inl ⟨h1, by omega, by rw [if_pos h1, if_neg h2]⟩)
 ·by_cases h2 : y0 < y1
  ·exact .inr (.inr (.inl ⟨by omega, h2, by rw [if_neg h1, if_pos h2]⟩))
  ·exact .inr (.inr (.inr ⟨by omega, by omega, by rw [if_neg h1, if_neg h2]⟩))
theorem lt4 {i : Nat} (h : i < 4) : i = 0 ∨ i = 1 ∨ i = 2 ∨ i = 3 := by omega
theorem lt2 {i : Nat} (h : i < 2) : i = 0 ∨ i = 1 := by omega
section
variable {x0 x1 y0 y1 : Int}
theorem HY (hx : x0 ≤ x1) (hy : y0 ≤ y1) : 1 ≤ (Bn x0 x1 y0 y1).length ∧ (Bn x0 x1 y0 y1).length ≤ 4 := by
 rcases DE hx hy with ⟨_, _, e⟩ | ⟨_, _, e⟩ | ⟨_, _, e⟩ | ⟨_, _, e⟩ <;> rw [e] <;> simp
theorem aEK {p : Int × Int} (h : p ∈ Bn x0 x1 y0 y1) : (p.1 = x0 ∨ p.1 = x1) ∧ (p.2 = y0 ∨ p.2 = y1) := by
 unfold Bn at h
 split at h <;> split at h <;> simp at h
 ·rcases h with rfl | rfl | rfl | rfl <;> simp
 ·rcases h with rfl | rfl <;> simp
 ·rcases h with rfl | rfl <;> simp
 ·subst h; simp
theorem G8 (h : OkB x0 x1 y0 y1) : ∀ q ∈ Bn x0 x1 y0 y1, Bd 1000 q := fun q hq => by
 obtain ⟨⟨a, b⟩, ⟨c, d⟩, ⟨e, f⟩, ⟨g, i⟩, _, _⟩ := h
 obtain ⟨h1, h2⟩ := aEK hq
 refine ⟨⟨?_, ?_⟩, ?_, ?_⟩ <;> rcases h1 with h1 | h1 <;> rcases h2 with h2 | h2 <;> omega
theorem R5 {p : Int × Int} (h : OkB x0 x1 y0 y1) (hp : InB x0 x1 y0 y1 p) : Bd 1000 p := by
 obtain ⟨⟨a, b⟩, ⟨c, d⟩, ⟨e, f⟩, ⟨g, i⟩, _, _⟩ := h
 obtain ⟨h1, h2, h3, h4⟩ := hp
 refine ⟨⟨?_, ?_⟩, ?_, ?_⟩ <;> omega
theorem Oo (hx : x0 ≤ x1) (hy : y0 ≤ y1) (h2 : 2 ≤ (Bn x0 x1 y0 y1).length) : ∀ i, i < (Bn x0 x1 y0 y1).length → (decide ((AV (Bn x0 x1 y0 y1) i).1 = 0) && decide ((AV (Bn x0 x1 y0 y1) i).2 = 0)) = false := by
 rcases DE hx hy with ⟨a, b, e⟩ | ⟨a, b, e⟩ | ⟨a, b, e⟩ | ⟨a, b, e⟩ <;> rw [e] at h2 ⊢ <;> intro i hi
 ·rcases lt4 hi with rfl | rfl | rfl | rfl <;> simp [AV, Ax, Be] <;> omega
 ·rcases lt2 hi with rfl | rfl <;> simp [AV, Ax, Be] <;> omega
 ·rcases lt2 hi with rfl | rfl <;> simp [AV, Ax, Be] <;> omega
 ·simp at h2
theorem aG2 {p : Int × Int} (hx : x0 ≤ x1) (hy : y0 ≤ y1) (hp : InB x0 x1 y0 y1 p) : ∀ i, i < (Bn x0 x1 y0 y1).length → ¬ Cw (AV (Bn x0 x1 y0 y1) i) (Be p (Ax (Bn x0 x1 y0 y1) i)) < 0 := by
 obtain ⟨h1, h2, h3, h4⟩ := hp
 have m1 := Int.mul_nonneg (show 0 ≤ x1 - x0 by omega) (show 0 ≤ p.2 - y0 by omega)
 have m2 := Int.mul_nonneg (show 0 ≤ y1 - y0 by omega) (show 0 ≤ x1 - p.1 by omega)
 have m3 := Int.mul_nonneg (show 0 ≤ x1 - x0 by omega) (show 0 ≤ y1 - p.2 by omega)
 have m4 := Int.mul_nonneg (show 0 ≤ y1 - y0 by omega) (show 0 ≤ p.1 - x0 by omega)
 have s1 : (x0 - x1) * (p.2 - y1) = (x1 - x0) * (y1 - p.2) := by rw [← Int.neg_mul_neg]; congr 1 <;> omega
 have s2 : (y0 - y1) * (p.1 - x0) = -((y1 - y0) * (p.1 - x0)) := by rw [← Int.neg_mul]; congr 1; omega
 have s3 : (y1 - y0) * (p.1 - x1) = -((y1 - y0) * (x1 - p.1)) := by rw [← Int.mul_neg]; congr 1; omega
 rcases DE hx hy with ⟨a, b, e⟩ | ⟨a, b, e⟩ | ⟨a, b, e⟩ | ⟨a, b, e⟩ <;> rw [e] <;> intro i hi
 ·rcases lt4 hi with rfl | rfl | rfl | rfl
  ·have : Cw (AV [(x0, y0), (x1, y0), (x1, y1), (x0, y1)] 0) (Be p (Ax [(x0, y0), (x1, y0), (x1, y1), (x0, y1)] 0)) = (x1 - x0) * (p.2 - y0) - (y0 - y0) * (p.1 - x0) := by simp [AV, Ax, Cw, Be, BJ]
   rw [this, Int.sub_self, Int.zero_mul]; omega
  ·have : Cw (AV [(x0, y0), (x1, y0), (x1, y1), (x0, y1)] 1) (Be p (Ax [(x0, y0), (x1, y0), (x1, y1), (x0, y1)] 1)) = (x1 - x1) * (p.2 - y0) - (y1 - y0) * (p.1 - x1) := by simp [AV, Ax, Cw, Be, BJ]
   rw [this, Int.sub_self, Int.zero_mul, s3]; omega
  ·have : Cw (AV [(x0, y0), (x1, y0), (x1, y1), (x0, y1)] 2) (Be p (Ax [(x0, y0), (x1, y0), (x1, y1), (x0, y1)] 2)) = (x0 - x1) * (p.2 - y1) - (y1 - y1) * (p.1 - x1) := by simp [AV, Ax, Cw, Be, BJ]
   rw [this, Int.sub_self, Int.zero_mul, s1]; omega
  ·have : Cw (AV [(x0, y0), (x1, y0), (x1, y1), (x0, y1)] 3) (Be p (Ax [(x0, y0), (x1, y0), (x1, y1), (x0, y1)] 3)) = (x0 - x0) * (p.2 - y1) - (y0 - y1) * (p.1 - x0) := by simp [AV, Ax, Cw, Be, BJ]
   rw [this, Int.sub_self, Int.zero_mul, s2]; omega
 ·subst b
  have hp2 : p.2 = y0 := by omega
  rcases lt2 hi with rfl | rfl
  ·have : Cw (AV [(x0, y0), (x1, y0)] 0) (Be p (Ax [(x0, y0), (x1, y0)] 0)) = (x1 - x0) * (p.2 - y0) - (y0 - y0) * (p.1 - x0) := by simp [AV, Ax, Cw, Be, BJ]
   rw [this, hp2, Int.sub_self, Int.zero_mul, Int.mul_zero]; omega
  ·have : Cw (AV [(x0, y0), (x1, y0)] 1) (Be p (Ax [(x0, y0), (x1, y0)] 1)) = (x0 - x1) * (p.2 - y0) - (y0 - y0) * (p.1 - x1) := by simp [AV, Ax, Cw, Be, BJ]
   rw [this, hp2, Int.sub_self, Int.zero_mul, Int.mul_zero]; omega
 ·subst a
  have hp1 : p.1 = x0 := by omega
  rcases lt2 hi with rfl | rfl
  ·have : Cw (AV [(x0, y0), (x0, y1)] 0) (Be p (Ax [(x0, y0), (x0, y1)] 0)) = (x0 - x0) * (p.2 - y0) - (y1 - y0) * (p.1 - x0) := by simp [AV, Ax, Cw, Be, BJ]
   rw [this, hp1, Int.sub_self, Int.zero_mul, Int.mul_zero]; omega
  ·have : Cw (AV [(x0, y0), (x0, y1)] 1) (Be p (Ax [(x0, y0), (x0, y1)] 1)) = (x0 - x0) * (p.2 - y1) - (y0 - y1) * (p.1 - x0) := by simp [AV, Ax, Cw, Be, BJ]
   rw [this, hp1, Int.sub_self, Int.zero_mul, Int.mul_zero]; omega
 ·simp at hi
  subst hi
  have : Cw (AV [(x0, y0)] 0) (Be p (Ax [(x0, y0)] 0)) = (x0 - x0) * (p.2 - y0) - (y0 - y0) * (p.1 - x0) := by simp [AV, Ax, Cw, Be, BJ]
  rw [this, Int.sub_self, Int.sub_self, Int.zero_mul, Int.zero_mul]; omega
theorem aEL {p : Int × Int} (hx : x0 ≤ x1) (hy : y0 ≤ y1) (hp : InB x0 x1 y0 y1 p) (h2 : (Bn x0 x1 y0 y1).length = 2) : ∀ i, i < (Bn x0 x1 y0 y1).length → ¬ BJ (AV (Bn x0 x1 y0 y1) i) (Be p (Ax (Bn x0 x1 y0 y1) i)) < 0 := by
 obtain ⟨h1, h2', h3, h4⟩ := hp
 have m1 := Int.mul_nonneg (show 0 ≤ x1 - x0 by omega) (show 0 ≤ p.1 - x0 by omega)
 have m2 := Int.mul_nonneg (show 0 ≤ x1 - x0 by omega) (show 0 ≤ x1 - p.1 by omega)
 have m3 := Int.mul_nonneg (show 0 ≤ y1 - y0 by omega) (show 0 ≤ p.2 - y0 by omega)
 have m4 := Int.mul_nonneg (show 0 ≤ y1 - y0 by omega) (show 0 ≤ y1 - p.2 by omega)
 have s1 : (x0 - x1) * (p.1 - x1) = (x1 - x0) * (x1 - p.1) := by rw [← Int.neg_mul_neg]; congr 1 <;> omega
 have s2 : (y0 - y1) * (p.2 - y1) = (y1 - y0) * (y1 - p.2) := by rw [← Int.neg_mul_neg]; congr 1 <;> omega
 rcases DE hx hy with ⟨a, b, e⟩ | ⟨a, b, e⟩ | ⟨a, b, e⟩ | ⟨a, b, e⟩ <;> rw [e] at h2 ⊢ <;> intro i hi
 ·simp at h2
 ·subst b
  rcases lt2 hi with rfl | rfl
  ·have : BJ (AV [(x0, y0), (x1, y0)] 0) (Be p (Ax [(x0, y0), (x1, y0)] 0)) = (x1 - x0) * (p.1 - x0) + (y0 - y0) * (p.2 - y0) := by simp [AV, Ax, Cw, Be, BJ]
   rw [this, Int.sub_self y0, Int.zero_mul]; omega
  ·have : BJ (AV [(x0, y0), (x1, y0)] 1) (Be p (Ax [(x0, y0), (x1, y0)] 1)) = (x0 - x1) * (p.1 - x1) + (y0 - y0) * (p.2 - y0) := by simp [AV, Ax, Cw, Be, BJ]
   rw [this, Int.sub_self y0, Int.zero_mul, s1]; omega
 ·subst a
  rcases lt2 hi with rfl | rfl
  ·have : BJ (AV [(x0, y0), (x0, y1)] 0) (Be p (Ax [(x0, y0), (x0, y1)] 0)) = (x0 - x0) * (p.1 - x0) + (y1 - y0) * (p.2 - y0) := by simp [AV, Ax, Cw, Be, BJ]
   rw [this, Int.sub_self x0, Int.zero_mul]; omega
  ·have : BJ (AV [(x0, y0), (x0, y1)] 1) (Be p (Ax [(x0, y0), (x0, y1)] 1)) = (x0 - x0) * (p.1 - x0) + (y0 - y1) * (p.2 - y1) := by simp [AV, Ax, Cw, Be, BJ]
   rw [this, Int.sub_self x0, Int.zero_mul, s2]; omega
 ·simp at h2
theorem aG3 (hx : x0 ≤ x1) (hy : y0 ≤ y1) {x y : Int} (h1 : x = x0 ∨ x = x1) (h2 : y = y0 ∨ y = y1) : (x, y) ∈ Bn x0 x1 y0 y1 := by
 rcases DE hx hy with ⟨a, b, e⟩ | ⟨a, b, e⟩ | ⟨a, b, e⟩ | ⟨a, b, e⟩ <;> rw [e]
 ·rcases h1 with rfl | rfl <;> rcases h2 with rfl | rfl <;> simp
 ·subst b; rcases h1 with rfl | rfl <;> rcases h2 with rfl | rfl <;> simp
 ·subst a; rcases h1 with rfl | rfl <;> rcases h2 with rfl | rfl <;> simp
 ·subst a; subst b; rcases h1 with rfl | rfl <;> rcases h2 with rfl | rfl <;> simp
theorem PY {p : Int × Int} (hx : x0 ≤ x1) (hy : y0 ≤ y1) (hp : InB x0 x1 y0 y1 p) (w : Int × Int) : BJ w p ≤ B3 (Bn x0 x1 y0 y1) w := by
 obtain ⟨h1, h2, h3, h4⟩ := hp
 have e1 : ∃ x, (x = x0 ∨ x = x1) ∧ w.1 * p.1 ≤ w.1 * x := by
  by_cases h : 0 ≤ w.1
  ·exact ⟨x1, .inr rfl, Int.mul_le_mul_of_nonneg_left h2 h⟩
  ·exact ⟨x0, .inl rfl, Int.mul_le_mul_of_nonpos_left (by omega) h1⟩
 have e2 : ∃ y, (y = y0 ∨ y = y1) ∧ w.2 * p.2 ≤ w.2 * y := by
  by_cases h : 0 ≤ w.2
  ·exact ⟨y1, .inr rfl, Int.mul_le_mul_of_nonneg_left h4 h⟩
  ·exact ⟨y0, .inl rfl, Int.mul_le_mul_of_nonpos_left (by omega) h3⟩
 obtain ⟨x, hx', ex⟩ := e1
 obtain ⟨y, hy', ey⟩ := e2
 have := K8 w (aG3 hx hy hx' hy')
 simp only [BJ] at this ⊢
 omega
end
theorem Tv (w p : Int × Int) : BJ (F0 w) p = -BJ w p := by
 simp only [BJ, F0, Int.neg_mul]; omega
theorem MZ {x0 x1 y0 y1 u0 u1 v0 v1 : Int} (hx : x0 ≤ x1) (hy : y0 ≤ y1) (hu : u0 ≤ u1) (hv : v0 ≤ v1) {w p : Int × Int} (h : HV (Bn x0 x1 y0 y1) (Bn u0 u1 v0 v1) w = true) (hp : InB x0 x1 y0 y1 p) (hq : InB u0 u1 v0 v1 p) : False := by
 have h : B3 (Bn x0 x1 y0 y1) w < -B3 (Bn u0 u1 v0 v1) (F0 w) := by simpa [HV] using h
 have h1 := PY hx hy hp w
 have h2 := PY hu hv hq (F0 w)
 rw [Tv] at h2
 omega
def aG4 (w : Int × Int) : Int × Int := (w.2, -w.1)
def aG5 (w : Int × Int) : Int × Int := (-w.2, w.1)
def Ux (w : Int × Int) : List (Int × Int) := [aG4 w, aG5 w]
def GC (l : List (Int × Int)) : Nat → List (Int × Int)
 | 0 => []
 | i + 1 => GC l i ++ Ux (AV l i)
def En (l : List (Int × Int)) : List (Int × Int) := if l.length < 2 then [] else GC l l.length
def IG (p : Int × Int) (b : List (Int × Int)) : Nat → List (Int × Int)
 | 0 => []
 | i + 1 => IG p b i ++ [Be (Ax b i) p]
def Cp (a b : List (Int × Int)) : Nat → List (Int × Int)
 | 0 => []
 | i + 1 => Cp a b i ++ IG (Ax a i) b b.length
def I3 (a b : List (Int × Int)) : List (Int × Int) := Cp a b a.length ++ En a ++ En b
theorem Tw {p : Int × Int} {b : List (Int × Int)} (hp : Bd 1000 p) (hb : ∀ q ∈ b, Bd 1000 q) : ∀ i, i ≤ b.length → ∀ w ∈ IG p b i, Bd 1000000 w
 | 0, _, w, h => by simp [IG] at h
 | i + 1, hi, w, h => by
  rw [IG, List.mem_append] at h
  rcases h with h | h
  ·exact Tw hp hb i (by omega) w h
  ·rw [List.mem_singleton] at h
   subst h
   exact DD (hb _ (List.mem_of_getElem? (Bi (by omega)))) hp
theorem M0 {a b : List (Int × Int)} (ha : ∀ q ∈ a, Bd 1000 q) (hb : ∀ q ∈ b, Bd 1000 q) : ∀ i, i ≤ a.length → ∀ w ∈ Cp a b i, Bd 1000000 w
 | 0, _, w, h => by simp [Cp] at h
 | i + 1, hi, w, h => by
  rw [Cp, List.mem_append] at h
  rcases h with h | h
  ·exact M0 ha hb i (by omega) w h
  ·exact Tw (ha _ (List.mem_of_getElem? (Bi (by omega)))) hb _ (Nat.le_refl _) w h
theorem aEM {w : Int × Int} (h : Bd 1000000 w) : ∀ v ∈ Ux w, Bd 1000000 v := fun v hv => by
 obtain ⟨⟨a, b⟩, c, d⟩ := h
 simp only [Ux, List.mem_cons, List.not_mem_nil, or_false] at hv
 rcases hv with rfl | rfl
 ·refine ⟨⟨?_, ?_⟩, ?_, ?_⟩ <;> simp only [aG4] <;> omega
 ·refine ⟨⟨?_, ?_⟩, ?_, ?_⟩ <;> simp only [aG5] <;> omega
theorem aCV {l : List (Int × Int)} (hl : ∀ q ∈ l, Bd 1000 q) {i : Nat} (hi : i < l.length) : Bd 1000000 (AV l i) :=
 DD (hl _ (List.mem_of_getElem? (Bi (Nat.mod_lt _ (by omega))))) (hl _ (List.mem_of_getElem? (Bi hi)))
theorem PZ {l : List (Int × Int)} (hl : ∀ q ∈ l, Bd 1000 q) : ∀ i, i ≤ l.length → ∀ w ∈ GC l i, Bd 1000000 w
 | 0, _, w, h => by simp [GC] at h
 | i + 1, hi, w, h => by
  rw [GC, List.mem_append] at h
  rcases h with h | h
  ·exact PZ hl i (by omega) w h
  ·exact aEM (aCV hl (by omega)) w h
theorem M1 {l : List (Int × Int)} (hl : ∀ q ∈ l, Bd 1000 q) : ∀ w ∈ En l, Bd 1000000 w := fun w h => by
 unfold En at h
 split at h
 ·simp at h
 ·exact PZ hl _ (Nat.le_refl _) w h
theorem P0 {a b : List (Int × Int)} (ha : ∀ q ∈ a, Bd 1000 q) (hb : ∀ q ∈ b, Bd 1000 q) : ∀ w ∈ I3 a b, Bd 1000000 w := fun w h => by
 rw [I3, List.mem_append, List.mem_append] at h
 rcases h with (h | h) | h
 ·exact M0 ha hb _ (Nat.le_refl _) w h
 ·exact M1 ha w h
 ·exact M1 hb w h
theorem La (p : Int × Int) (b : List (Int × Int)) : ∀ i, (IG p b i).length = i
 | 0 => rfl
 | i + 1 => by rw [IG, List.length_append, La p b i]; rfl
theorem G9 (a b : List (Int × Int)) : ∀ i, (Cp a b i).length = i * b.length
 | 0 => by simp [Cp]
 | i + 1 => by rw [Cp, List.length_append, G9 a b i, La, Nat.succ_mul]
theorem IH (l : List (Int × Int)) : ∀ i, (GC l i).length = 2 * i
 | 0 => rfl
 | i + 1 => by rw [GC, List.length_append, IH l i]; rfl
theorem Lb {l : List (Int × Int)} (h : l.length ≤ 4) : (En l).length ≤ 8 := by
 unfold En
 split
 ·simp
 ·rw [IH]; omega
theorem M2 {a b : List (Int × Int)} (ha : a.length ≤ 4) (hb : b.length ≤ 4) : (I3 a b).length ≤ 32 := by
 have h1 := Lb ha
 have h2 := Lb hb
 have h3 := Nat.mul_le_mul ha hb
 rw [I3, List.length_append, List.length_append, G9]
 omega
def Fy (a b : List (Int × Int)) : Option (Int × Int) := (I3 a b).find? (HV a b)
def lnC (a b : List (Int × Int)) : Option (Int × Int) → List C
 | some w => [.d (.int .i64 w.1), .d (.int .i64 w.2), .d (.int .i64 (B3 a w))]
 | none => [.d (.int .i64 0), .d (.int .i64 0), .d (.int .i64 0)]
theorem Uy {l : List (Int × Int)} {w : Int × Int} (h0 : 0 < l.length) (hb : ∀ p ∈ l, Bd 1000 p) (hw : Bd 1000000 w) : -2000000000 ≤ B3 l w ∧ B3 l w ≤ 2000000000 := by
 obtain ⟨p, hp, e⟩ := E0 w h0 l.length (Nat.le_refl _)
 unfold B3; rw [e]
 have hbp := hb p hp
 have k : ∀ {x y : Int}, (-1000000 ≤ x ∧ x ≤ 1000000) → (-1000 ≤ y ∧ y ≤ 1000) → -1000000000 ≤ x * y ∧ x * y ≤ 1000000000 := fun {x y} hx hy => by
  have h1 : x.natAbs ≤ 1000000 := by omega
  have h2 : y.natAbs ≤ 1000 := by omega
  have h3 := Nat.mul_le_mul h1 h2
  rw [← Int.natAbs_mul] at h3
  omega
 have k1 := k hw.1 hbp.1
 have k2 := k hw.2 hbp.2
 simp only [BJ]
 omega
theorem aCW {a b : List (Int × Int)} (ha : 0 < a.length) (hb : 0 < b.length) : HV a b (0, 0) = false := by
 obtain ⟨p, _, e⟩ := E0 (0, 0) ha a.length (Nat.le_refl _)
 obtain ⟨q, _, f⟩ := E0 (F0 (0, 0)) hb b.length (Nat.le_refl _)
 have e : B3 a (0, 0) = BJ (0, 0) p := e
 have f : B3 b (F0 (0, 0)) = BJ (F0 (0, 0)) q := f
 simp only [HV, e, f]
 simp [BJ, F0]
end Go.Proofs.YtfgdbeijjbijnaaGreatDoor
set_option linter.unusedSimpArgs false
set_option linter.unusedVariables false
set_option maxRecDepth 100000
namespace Go.Proofs.YtfgdbeijjbijnaaGreatDoor
open Go Go.Abs Go.Proofs
def P1 : List (Nat × List Nat) := [(0, [2, 3]), (1, [3, 6, 7]), (2, [3, 6, 7, 14]), (3, [4, 5]), (4, [3, 6, 19]), (5, [4, 5]), (6, [4, 5])]
theorem Oq : lookK P1 0 = some [2, 3] ∧ lookK P1 1 = some [3, 6, 7] ∧ lookK P1 2 = some [3, 6, 7, 14] ∧ lookK P1 3 = some [4, 5] ∧ lookK P1 4 = some [3, 6, 19] ∧ lookK P1 5 = some [4, 5] ∧ lookK P1 6 = some [4, 5] := ⟨rfl, rfl, rfl, rfl, rfl, rfl, rfl⟩
def Lc : List (Nat × List Nat) := [(0, [3, 4, 5]), (1, [5, 7, 8, 9]), (2, [5, 7, 8, 9, 10]), (3, [5, 7, 8, 9, 10, 23]), (4, [6]), (5, [5, 7, 8, 10, 27]), (6, [6]), (7, [46]), (8, [6]), (9, [6])]
theorem Ot : lookK Lc 0 = some [3, 4, 5] ∧ lookK Lc 1 = some [5, 7, 8, 9] ∧ lookK Lc 2 = some [5, 7, 8, 9, 10] ∧ lookK Lc 3 = some [5, 7, 8, 9, 10, 23] ∧ lookK Lc 4 = some [6] ∧ lookK Lc 5 = some [5, 7, 8, 10, 27] ∧ lookK Lc 6 = some [6] ∧ lookK Lc 7 = some [46] ∧ lookK Lc 8 = some [6] ∧ lookK Lc 9 = some [6] := ⟨rfl, rfl, rfl, rfl, rfl, rfl, rfl, rfl, rfl, rfl⟩
theorem II {x0 x1 y0 y1 : Int} (h : OkB x0 x1 y0 y1) {p : Int × Int} (hp : InB x0 x1 y0 y1 p) : AF Tryz.prog 54 [qs (Bn x0 x1 y0 y1), qV p, I 1] (B true) := by
 have bd := R5 h hp
 have hb := G8 h
 obtain ⟨l1, l4⟩ := HY h.hx h.hy
 by_cases h2 : 2 ≤ (Bn x0 x1 y0 y1).length
 ·exact aEJ _ p hb bd h2 l4 (Oo h.hx h.hy h2) (aG2 h.hx h.hy hp) (aEL h.hx h.hy hp)
 ·rcases DE h.hx h.hy with ⟨_, _, e⟩ | ⟨_, _, e⟩ | ⟨_, _, e⟩ | ⟨a, b, e⟩
  ·rw [e] at h2; simp at h2
  ·rw [e] at h2; simp at h2
  ·rw [e] at h2; simp at h2
  ·rw [e]
   obtain ⟨h1, h2, h3, h4⟩ := hp
   have hpe : p = (x0, y0) := Prod.ext (show p.1 = x0 by omega) (show p.2 = y0 by omega)
   subst hpe
   exact PX (x0, y0) (AR bd)
theorem M3 {p : Int × Int} (h : Bd 1000 p) : (![p].any (CZ (-1099511627776) 1099511627776)) = true := by
 obtain ⟨⟨a, b⟩, c, d⟩ := h
 simp [CZ]
 omega
set_option maxHeartbeats 4000000 in
theorem Ty {x0 x1 y0 y1 : Int} (h : OkB x0 x1 y0 y1) {p : Int × Int} (hp : InB x0 x1 y0 y1 p) : AF Tryz.prog 15 [glV (Bf x0 x1 y0 y1), qV p] (.tup [B true, I 0]) := by
 refine pure_wkE (bad := []) (kp := P1) (X := tx) (nt := 30) (rs := [.tmp 4, .tmp 5]) Tryz.func15 rfl rfl rfl rfl mo (by kernel_rfl) rfl rfl (fun hf => ?_)
 have n1 := G7 h
 have w := K5 (-1099511627776) 1099511627776 [p]
 rw [M3 (R5 h hp)] at w
 have hh := II h hp
 obtain ⟨cn, hcn⟩ : ∃ cn, cn = (Bn x0 x1 y0 y1).map qD := ⟨_, rfl⟩
 simp only [glV, glC, qs, qV, qC, gbD, Bf, qD, List.map_cons, List.map_nil] at n1 w hh
 simp (maxSteps := 2000000) only [go_sem, reduceIte, Nat.reduceEqDiff, Nat.reduceAdd, Int.reduceNeg, Oq, Ot, glV, glC, qV, qC, Bf, qD, List.map_cons, List.map_nil]
 refine Ac (n1) rfl rfl (by first | exact wk_refls _ | (repeat constructor)) ?_
 simp (maxSteps := 2000000) only [go_sem, reduceIte, Nat.reduceEqDiff, Nat.reduceAdd, Nat.reduceLeDiff, Nat.reduceBEq, Nat.reduceMul, Int.reduceNeg, Oq, Ot]
 refine Ac (w) rfl rfl (by first | exact wk_refls _ | (repeat constructor)) ?_
 simp (maxSteps := 2000000) only [go_sem, reduceIte, Nat.reduceEqDiff, Nat.reduceAdd, Nat.reduceLeDiff, Nat.reduceBEq, Nat.reduceMul, Int.reduceNeg, Oq, Ot]
 refine Af (hh) rfl rfl (by first | exact wk_refls _ | (repeat constructor)) (by kernel_rfl) ?_
 simp (maxSteps := 2000000) only [go_sem, reduceIte, Nat.reduceEqDiff, Nat.reduceAdd, Oq, Ot]
 all_goals first | exact .refl _ | exact ⟨.refl _, .refl _⟩ | exact ⟨.refl _, .refl _, .refl _⟩ | exact ⟨.refl _, _, rfl⟩ | exact ⟨_, rfl⟩ | exact ⟨.refl _, [], by simp⟩ | exact ⟨[], by simp⟩
def btC (p : Int × Int) (d : Int) : List C := [.d (.int .i64 p.1), .d (.int .i64 p.2), .d (.int .i64 d)]
set_option maxHeartbeats 4000000 in
theorem P2 {x0 x1 y0 y1 u0 u1 v0 v1 : Int} (h : OkB x0 x1 y0 y1) (g : OkB u0 u1 v0 v1) {p : Int × Int} (hp : InB x0 x1 y0 y1 p) (gp : InB u0 u1 v0 v1 p) : AF Tryz.prog 22 [glV (Bf x0 x1 y0 y1), glV (Bf u0 u1 v0 v1), .agg (btC p 1)] (I 0) := by
 refine pure_wkE (bad := []) (kp := Lc) (X := tx) (nt := 67) (rs := [.tmp 6]) Tryz.func22 rfl rfl rfl rfl mo (by kernel_rfl) rfl rfl (fun hf => ?_)
 have n1 := aCI h g
 have w := K5 (-1099511627776) 1099511627776 [p]
 rw [M3 (R5 h hp)] at w
 have h1 := II h hp
 have h2 := II g gp
 simp only [glV, glC, qs, qV, qC, gbD, Bf, qD, List.map_cons, List.map_nil] at n1 w h1 h2
 simp (maxSteps := 2000000) only [go_sem, reduceIte, Nat.reduceEqDiff, Nat.reduceAdd, Nat.reduceLeDiff, Nat.reduceMul, Int.reduceNeg, Oq, Ot, glV, glC, btC, Bf, qD, List.map_cons, List.map_nil]
 refine Ac (n1) rfl rfl (by first | exact wk_refls _ | (repeat constructor)) ?_
 simp (maxSteps := 2000000) only [go_sem, reduceIte, Nat.reduceEqDiff, Nat.reduceAdd, Nat.reduceLeDiff, Nat.reduceBEq, Nat.reduceMul, Int.reduceNeg, Int.reduceLT, Oq, Ot]
 refine Ac (w) rfl rfl (by first | exact wk_refls _ | (repeat constructor)) ?_
 simp (maxSteps := 2000000) only [go_sem, reduceIte, Nat.reduceEqDiff, Nat.reduceAdd, Nat.reduceBEq, Int.reduceNeg, Oq, Ot]
 refine Af (h1) rfl rfl (by first | exact wk_refls _ | (repeat constructor)) (by kernel_rfl) ?_
 simp (maxSteps := 2000000) only [go_sem, reduceIte, Nat.reduceEqDiff, Nat.reduceAdd, Nat.reduceBEq, Oq, Ot]
 refine Af (h2) rfl rfl (by first | exact wk_refls _ | (repeat constructor)) (by kernel_rfl) ?_
 simp (maxSteps := 2000000) only [go_sem, reduceIte, Nat.reduceEqDiff, Nat.reduceAdd, Oq, Ot]
 all_goals first | exact .refl _ | exact ⟨.refl _, .refl _⟩ | exact ⟨.refl _, .refl _, .refl _⟩ | exact ⟨.refl _, _, rfl⟩ | exact ⟨_, rfl⟩ | exact ⟨.refl _, [], by simp⟩ | exact ⟨[], by simp⟩
end Go.Proofs.YtfgdbeijjbijnaaGreatDoor
