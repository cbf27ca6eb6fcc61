/- The second lamp of chapter 3's examples. -/
import Derived.Test.YtfgdbeijjbijnaaGreatDoorJG22
import Derived.Test.YtfgdbeijjbijnaaGreatDoorJG15
import Derived.Test.YtfgdbeijjbijnaaGreatDoorJWD
set_option linter.unusedSimpArgs false
set_option linter.unusedVariables false
set_option linter.unusedSimpArgs false
set_option linter.unusedVariables false
set_option maxRecDepth 100000
namespace Go.Proofs.YtfgdbeijjbijnaaGreatDoor
open Go Go.Abs Go.Proofs
def aDK : List (Nat × List Nat) := [(0, [0, 1, 4]), (1, [4])]
theorem Jl : lookK aDK 0 = some [0, 1, 4] ∧ lookK aDK 1 = some [4] := ⟨rfl, rfl⟩
def aDL : List (Nat × List Nat) := [(0, [0]), (1, [0])]
theorem Jm : lookK aDL 0 = some [0] ∧ lookK aDL 1 = some [0] := ⟨rfl, rfl⟩
def QO : List (Nat × List Nat) := [(0, [0]), (1, [0, 1]), (2, [0, 1]), (3, [0])]
theorem Jn : lookK QO 0 = some [0] ∧ lookK QO 1 = some [0, 1] ∧ lookK QO 2 = some [0, 1] ∧ lookK QO 3 = some [0] := ⟨rfl, rfl, rfl, rfl⟩
theorem TF (a b : Int) : AF Tryz.prog 275 [I a, I b] (rgV a b) := by
 refine pure_wkE (bad := []) (kp := aDK) (X := tx) (nt := 8) (rs := [.cell 4 46]) Tryz.func275 rfl rfl rfl rfl mo (by kernel_rfl) rfl rfl (fun hf => ?_)
 simp (config := { maxSteps := 2000000 }) only [go_sem, reduceIte, Nat.reduceEqDiff, Nat.reduceAdd, Nat.reduceLT, Nat.reduceLeDiff, Nat.reduceBEq, Nat.reduceMul, Nat.reduceSub, Nat.reduceDiv, Int.reduceNeg, Int.reduceLT, Int.reduceLE, Int.reduceEq, Int.reduceToNat, Jl, Jm, Jn, rgV]
 all_goals first | exact .refl _ | exact ⟨.refl _, .refl _⟩ | exact ⟨.refl _, .refl _, .refl _⟩ | exact ⟨.refl _, _, rfl⟩ | exact ⟨_, rfl⟩ | exact ⟨.refl _, [], by simp⟩ | exact ⟨[], by simp⟩
def zLa : List C := [.full [], .full [], .full [], .full []]
def bD (b : Bool) : List D := [.bool b]
def exC : List C := [.full ([0, 3, 5].map i1), .ms 2 0 3 3, .full ([true, false].map bD), .full ([1, 1, 1, 1, 1, 1].map i1)]
def liC : List C := [.d (.int .i64 10), .d (.int .i64 12), .d (.int .i64 4), .d (.int .i64 6), .d (.int .i64 5), .d (.int .i64 9)]
set_option maxHeartbeats 1000000 in
theorem aDM : Ad Tryz.prog 271 [] [.cells zLa] (one (.agg exC) [.cells zLa, .cells exC, .cells liC]) := by
 refine acall_fitE (bad := []) (kp := aDL) (X := tx) (nt := 9) (rs := [.cell 0 67]) Tryz.func271 rfl rfl rfl rfl mo (by kernel_rfl) (fun hf => ?_)
 simp (config := { maxSteps := 2000000 }) only [go_sem, reduceIte, Nat.reduceEqDiff, Nat.reduceAdd, Nat.reduceLT, Nat.reduceLeDiff, Nat.reduceBEq, Nat.reduceMul, Nat.reduceSub, Nat.reduceDiv, Int.reduceNeg, Int.reduceLT, Int.reduceLE, Int.reduceEq, Int.reduceToNat, Jl, Jm, Jn, zLa]
 refine Ac (TF 10 12) rfl rfl (by first | exact wk_refls _ | (repeat constructor)) ?_
 simp (config := { maxSteps := 2000000 }) only [go_sem, reduceIte, Nat.reduceEqDiff, Nat.reduceAdd, Nat.reduceLT, Nat.reduceLeDiff, Nat.reduceBEq, Nat.reduceMul, Nat.reduceSub, Nat.reduceDiv, Int.reduceNeg, Int.reduceLT, Int.reduceLE, Int.reduceEq, Int.reduceToNat, Jl, Jm, Jn, rgV]
 refine Ac (TF 4 6) rfl rfl (by first | exact wk_refls _ | (repeat constructor)) ?_
 simp (config := { maxSteps := 2000000 }) only [go_sem, reduceIte, Nat.reduceEqDiff, Nat.reduceAdd, Nat.reduceLT, Nat.reduceLeDiff, Nat.reduceBEq, Nat.reduceMul, Nat.reduceSub, Nat.reduceDiv, Int.reduceNeg, Int.reduceLT, Int.reduceLE, Int.reduceEq, Int.reduceToNat, Jl, Jm, Jn, rgV]
 refine MB (TF 5 9) rfl rfl (by first | exact wk_refls _ | (repeat constructor)) ?_
 refine Od rfl rfl rfl rfl rfl rfl (by decide) (by decide) ?_
 simp (config := { maxSteps := 2000000 }) only [go_sem, reduceIte, Nat.reduceEqDiff, Nat.reduceAdd, Nat.reduceLT, Nat.reduceLeDiff, Nat.reduceBEq, Nat.reduceMul, Nat.reduceSub, Nat.reduceDiv, Int.reduceNeg, Int.reduceLT, Int.reduceLE, Int.reduceEq, Int.reduceToNat, Jl, Jm, Jn, rgV]
 exact ⟨rfl, rfl⟩
def wrF : List C := [.full ([0, 3, 5].map i1), .d (.sl [r2 10 12, r2 13 14, r2 5 9]), .full ([true, false].map bD), .full ([1, 1, 1, 1, 1, 1].map i1)]
set_option maxHeartbeats 1000000 in
theorem aDN : AF Tryz.prog 277 [] Ha := by
 refine ⟨Ad.wkpost ((Ad.fzagg (ys := wrF) ?_).mono (fun x H' h => ?_)), rfl, rfl⟩
 case refine_2 =>
  subst h
  repeat constructor
 refine acall_fitE (bad := []) (kp := QO) (X := tx) (nt := 8) (rs := [.cell 0 67]) Tryz.func277 rfl rfl rfl rfl mo (by kernel_rfl) (fun hf => ?_)
 simp (config := { maxSteps := 2000000 }) only [go_sem, reduceIte, Nat.reduceEqDiff, Nat.reduceAdd, Nat.reduceLT, Nat.reduceLeDiff, Nat.reduceBEq, Nat.reduceMul, Nat.reduceSub, Nat.reduceDiv, Int.reduceNeg, Int.reduceLT, Int.reduceLE, Int.reduceEq, Int.reduceToNat, Jl, Jm, Jn]
 refine Ar aDM rfl rfl (by first | exact wk_refls _ | (repeat constructor)) ?_
 simp (config := { maxSteps := 2000000 }) only [go_sem, reduceIte, Nat.reduceEqDiff, Nat.reduceAdd, Nat.reduceLT, Nat.reduceLeDiff, Nat.reduceBEq, Nat.reduceMul, Nat.reduceSub, Nat.reduceDiv, Int.reduceNeg, Int.reduceLT, Int.reduceLE, Int.reduceEq, Int.reduceToNat, Jl, Jm, Jn, exC, zLa, liC, i1, bD, List.map_cons, List.map_nil, List.cons_append, List.nil_append]
 refine Af (TF 13 14) rfl rfl (by first | exact wk_refls _ | (repeat constructor)) (by kernel_rfl) ?_
 simp (config := { maxSteps := 2000000 }) only [go_sem, reduceIte, Nat.reduceEqDiff, Nat.reduceAdd, Nat.reduceLT, Nat.reduceLeDiff, Nat.reduceBEq, Nat.reduceMul, Nat.reduceSub, Nat.reduceDiv, Int.reduceNeg, Int.reduceLT, Int.reduceLE, Int.reduceEq, Int.reduceToNat, Jl, Jm, Jn, rgV]
 first | refine ⟨by decide, ?_⟩ | skip
 refine ⟨2, _, [.int .i64 10, .int .i64 12, .int .i64 13, .int .i64 14, .int .i64 5, .int .i64 9], _, rfl, rfl, rfl, rfl, fun i x y hx hy => ?_⟩
 match i with
 | 0 => simp [wrF, i1] at hx hy; subst hx; subst hy; exact .same _
 | 1 =>
  simp [wrF] at hx hy; subst hx; subst hy
  have h : FzC 2 [.int .i64 10, .int .i64 12, .int .i64 13, .int .i64 14, .int .i64 5, .int .i64 9] (.ms 2 0 3 3) _ := .ms 0 2 3 3 (by decide) (Nat.le_refl _) (by decide)
  exact h
 | 2 => simp [wrF, bD] at hx hy; subst hx; subst hy; exact .same _
 | 3 => simp [wrF, i1] at hx hy; subst hx; subst hy; exact .same _
 | k + 4 => simp [wrF] at hy
theorem aEY : PureG Tryz.prog [] 277 [] Ha := aDN
def aDO : List (Nat × List V × List AB × V) := [(277, [], GH0, Ha)]
theorem aHB : ∀ e ∈ aDO, PureG Tryz.prog e.2.2.1 e.1 e.2.1 e.2.2.2 := Ab aEY Ae
end Go.Proofs.YtfgdbeijjbijnaaGreatDoor
