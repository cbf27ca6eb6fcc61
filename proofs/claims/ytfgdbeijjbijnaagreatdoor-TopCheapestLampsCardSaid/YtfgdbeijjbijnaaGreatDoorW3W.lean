/- The second lamp of chapter 3's examples. -/
import Derived.Test.YtfgdbeijjbijnaaGreatDoorG17
import Derived.Test.YtfgdbeijjbijnaaGreatDoorG15
import Derived.Test.YtfgdbeijjbijnaaGreatDoorWD
set_option linter.unusedSimpArgs false
set_option linter.unusedVariables false
set_option linter.unusedSimpArgs false
set_option linter.unusedVariables false
set_option maxRecDepth 100000
namespace Go.Proofs.YtfgdbeijjbijnaaGreatDoor
open Go Go.Abs Go.Proofs
def kp275 : List (Nat × List Nat) := [(0, [0, 1, 4]), (1, [4])]
theorem lk275 : lookK kp275 0 = some [0, 1, 4] ∧ lookK kp275 1 = some [4] := ⟨rfl, rfl⟩
def kp271 : List (Nat × List Nat) := [(0, [0]), (1, [0])]
theorem lk271 : lookK kp271 0 = some [0] ∧ lookK kp271 1 = some [0] := ⟨rfl, rfl⟩
def kp277 : List (Nat × List Nat) := [(0, [0]), (1, [0, 1]), (2, [0, 1]), (3, [0])]
theorem lk277 : lookK kp277 0 = some [0] ∧ lookK kp277 1 = some [0, 1] ∧ lookK kp277 2 = some [0, 1] ∧ lookK kp277 3 = some [0] := ⟨rfl, rfl, rfl, rfl⟩

theorem rg275 (a b : Int) : Pure Tryz.prog 275 [I a, I b] (rgV a b) := by
  refine pure_wkE (bad := []) (kp := kp275) (X := tx) (nt := 8) (rs := [.cell 4 46]) Tryz.func275 rfl rfl rfl rfl mo (by kernel_rfl) rfl rfl (fun hf => ?_)
  simp (config := { maxSteps := 2000000 }) only [go_sem, reduceIte, Nat.reduceEqDiff, Nat.reduceAdd, Nat.reduceLT, Nat.reduceLeDiff, Nat.reduceBEq, Nat.reduceMul, Nat.reduceSub, Nat.reduceDiv, Int.reduceNeg, Int.reduceLT, Int.reduceLE, Int.reduceEq, Int.reduceToNat, lk275, lk271, lk277, rgV]
  all_goals first | exact .refl _ | exact ⟨.refl _, .refl _⟩ | exact ⟨.refl _, .refl _, .refl _⟩ | exact ⟨.refl _, _, rfl⟩ | exact ⟨_, rfl⟩ | exact ⟨.refl _, [], by simp⟩ | exact ⟨[], by simp⟩
def zLa : List C := [.full [], .full [], .full [], .full []]
def bD (b : Bool) : List D := [.bool b]
def exC : List C := [.full ([0, 3, 5].map i1), .ms 2 0 3 3, .full ([true, false].map bD), .full ([1, 1, 1, 1, 1, 1].map i1)]
def liC : List C := [.d (.int .i64 10), .d (.int .i64 12), .d (.int .i64 4), .d (.int .i64 6), .d (.int .i64 5), .d (.int .i64 9)]
set_option maxHeartbeats 1000000 in
theorem lamp271m : ACall Tryz.prog 271 [] [.cells zLa] (one (.agg exC) [.cells zLa, .cells exC, .cells liC]) := by
  refine acall_fitE (bad := []) (kp := kp271) (X := tx) (nt := 9) (rs := [.cell 0 67]) Tryz.func271 rfl rfl rfl rfl mo (by kernel_rfl) (fun hf => ?_)
  simp (config := { maxSteps := 2000000 }) only [go_sem, reduceIte, Nat.reduceEqDiff, Nat.reduceAdd, Nat.reduceLT, Nat.reduceLeDiff, Nat.reduceBEq, Nat.reduceMul, Nat.reduceSub, Nat.reduceDiv, Int.reduceNeg, Int.reduceLT, Int.reduceLE, Int.reduceEq, Int.reduceToNat, lk275, lk271, lk277, zLa]
  refine aops_pure' (rg275 10 12) rfl rfl (by first | exact wk_refls _ | (repeat constructor)) ?_
  simp (config := { maxSteps := 2000000 }) only [go_sem, reduceIte, Nat.reduceEqDiff, Nat.reduceAdd, Nat.reduceLT, Nat.reduceLeDiff, Nat.reduceBEq, Nat.reduceMul, Nat.reduceSub, Nat.reduceDiv, Int.reduceNeg, Int.reduceLT, Int.reduceLE, Int.reduceEq, Int.reduceToNat, lk275, lk271, lk277, rgV]
  refine aops_pure' (rg275 4 6) rfl rfl (by first | exact wk_refls _ | (repeat constructor)) ?_
  simp (config := { maxSteps := 2000000 }) only [go_sem, reduceIte, Nat.reduceEqDiff, Nat.reduceAdd, Nat.reduceLT, Nat.reduceLeDiff, Nat.reduceBEq, Nat.reduceMul, Nat.reduceSub, Nat.reduceDiv, Int.reduceNeg, Int.reduceLT, Int.reduceLE, Int.reduceEq, Int.reduceToNat, lk275, lk271, lk277, rgV]
  refine aops_pure (rg275 5 9) rfl rfl (by first | exact wk_refls _ | (repeat constructor)) ?_
  refine aops_buildMs rfl rfl rfl rfl rfl rfl (by decide) (by decide) ?_
  simp (config := { maxSteps := 2000000 }) only [go_sem, reduceIte, Nat.reduceEqDiff, Nat.reduceAdd, Nat.reduceLT, Nat.reduceLeDiff, Nat.reduceBEq, Nat.reduceMul, Nat.reduceSub, Nat.reduceDiv, Int.reduceNeg, Int.reduceLT, Int.reduceLE, Int.reduceEq, Int.reduceToNat, lk275, lk271, lk277, rgV]
  exact ⟨rfl, rfl⟩
def wrF : List C := [.full ([0, 3, 5].map i1), .d (.sl [r2 10 12, r2 13 14, r2 5 9]), .full ([true, false].map bD), .full ([1, 1, 1, 1, 1, 1].map i1)]
set_option maxHeartbeats 1000000 in
theorem wrong277 : Pure Tryz.prog 277 [] wrongV := by
  refine ⟨ACall.wkpost ((ACall.fzagg (ys := wrF) ?_).mono (fun x H' h => ?_)), rfl, rfl⟩
  case refine_2 =>
    subst h
    repeat constructor
  refine acall_fitE (bad := []) (kp := kp277) (X := tx) (nt := 8) (rs := [.cell 0 67]) Tryz.func277 rfl rfl rfl rfl mo (by kernel_rfl) (fun hf => ?_)
  simp (config := { maxSteps := 2000000 }) only [go_sem, reduceIte, Nat.reduceEqDiff, Nat.reduceAdd, Nat.reduceLT, Nat.reduceLeDiff, Nat.reduceBEq, Nat.reduceMul, Nat.reduceSub, Nat.reduceDiv, Int.reduceNeg, Int.reduceLT, Int.reduceLE, Int.reduceEq, Int.reduceToNat, lk275, lk271, lk277]
  refine aops_at lamp271m rfl rfl (by first | exact wk_refls _ | (repeat constructor)) ?_
  simp (config := { maxSteps := 2000000 }) only [go_sem, reduceIte, Nat.reduceEqDiff, Nat.reduceAdd, Nat.reduceLT, Nat.reduceLeDiff, Nat.reduceBEq, Nat.reduceMul, Nat.reduceSub, Nat.reduceDiv, Int.reduceNeg, Int.reduceLT, Int.reduceLE, Int.reduceEq, Int.reduceToNat, lk275, lk271, lk277, exC, zLa, liC, i1, bD, List.map_cons, List.map_nil, List.cons_append, List.nil_append]
  refine dops_pure' (rg275 13 14) rfl rfl (by first | exact wk_refls _ | (repeat constructor)) (by kernel_rfl) ?_
  simp (config := { maxSteps := 2000000 }) only [go_sem, reduceIte, Nat.reduceEqDiff, Nat.reduceAdd, Nat.reduceLT, Nat.reduceLeDiff, Nat.reduceBEq, Nat.reduceMul, Nat.reduceSub, Nat.reduceDiv, Int.reduceNeg, Int.reduceLT, Int.reduceLE, Int.reduceEq, Int.reduceToNat, lk275, lk271, lk277, rgV]
  refine ⟨by decide, 2, _, [.int .i64 10, .int .i64 12, .int .i64 13, .int .i64 14, .int .i64 5, .int .i64 9], _, rfl, rfl, rfl, rfl, fun i x y hx hy => ?_⟩
  match i with
  | 0 => simp [wrF, i1] at hx hy; subst hx; subst hy; exact .same _
  | 1 =>
    simp [wrF] at hx hy; subst hx; subst hy
    have h : FzC 2 [.int .i64 10, .int .i64 12, .int .i64 13, .int .i64 14, .int .i64 5, .int .i64 9] (.ms 2 0 3 3) _ := .ms 0 2 3 3 (by decide) (Nat.le_refl _) (by decide)
    exact h
  | 2 => simp [wrF, bD] at hx hy; subst hx; subst hy; exact .same _
  | 3 => simp [wrF, i1] at hx hy; subst hx; subst hy; exact .same _
  | k + 4 => simp [wrF] at hy
theorem k_wrong : PureG Tryz.prog [] 277 [] wrongV := wrong277
def KN_W3W : List (Nat × List V × List AB × V) := [(277, [], GH0, wrongV)]
theorem kn_W3W : ∀ e ∈ KN_W3W, PureG Tryz.prog e.2.2.1 e.1 e.2.1 e.2.2.2 := kn_cons k_wrong kn_nil
end Go.Proofs.YtfgdbeijjbijnaaGreatDoor

