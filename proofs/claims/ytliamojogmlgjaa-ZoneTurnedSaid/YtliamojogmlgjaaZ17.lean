/- Zones: the example's lamps; searches in a row that is in order; the best of a list. -/
import Derived.Test.YtliamojogmlgjaaZ9
import Derived.Test.YtliamojogmlgjaaAbsL
set_option linter.unusedSimpArgs false
set_option linter.unusedVariables false
set_option maxRecDepth 100000
namespace Go.Proofs.Ytliamojogmlgjaa
open Go Go.Abs Go.Proofs
def kp44 : List (Nat × List Nat) := [(0, [0]), (1, [0])]
theorem lk44 : lookK kp44 0 = some [0] ∧ lookK kp44 1 = some [0] := ⟨rfl, rfl⟩
def kp45 : List (Nat × List Nat) := [(0, [0]), (1, [0, 1]), (2, [0, 1]), (3, [0])]
theorem lk45 : lookK kp45 0 = some [0] ∧ lookK kp45 1 = some [0, 1] ∧ lookK kp45 2 = some [0, 1] ∧ lookK kp45 3 = some [0] := ⟨rfl, rfl, rfl, rfl⟩
def kp79 : List (Nat × List Nat) := [(0, [0, 1]), (1, [4])]
theorem lk79 : lookK kp79 0 = some [0, 1] ∧ lookK kp79 1 = some [4] := ⟨rfl, rfl⟩
def kp80 : List (Nat × List Nat) := [(0, [0]), (1, [2])]
theorem lk80 : lookK kp80 0 = some [0] ∧ lookK kp80 1 = some [2] := ⟨rfl, rfl⟩
def kp82 : List (Nat × List Nat) := [(0, [0]), (1, [2])]
theorem lk82 : lookK kp82 0 = some [0] ∧ lookK kp82 1 = some [2] := ⟨rfl, rfl⟩
def kp74 : List (Nat × List Nat) := [(0, [0, 1]), (1, [0, 1, 6]), (2, [0, 1, 6, 7, 8]), (3, [0, 1, 6, 7, 8, 15]), (4, [0, 1, 6, 7, 8, 9]), (5, [0, 1, 6, 7, 8, 9, 27]), (6, [0, 1, 6, 7, 8]), (7, [0, 1, 6, 7, 8]), (8, [4, 5])]
theorem lk74 : lookK kp74 0 = some [0, 1] ∧ lookK kp74 1 = some [0, 1, 6] ∧ lookK kp74 2 = some [0, 1, 6, 7, 8] ∧ lookK kp74 3 = some [0, 1, 6, 7, 8, 15] ∧ lookK kp74 4 = some [0, 1, 6, 7, 8, 9] ∧ lookK kp74 5 = some [0, 1, 6, 7, 8, 9, 27] ∧ lookK kp74 6 = some [0, 1, 6, 7, 8] ∧ lookK kp74 7 = some [0, 1, 6, 7, 8] ∧ lookK kp74 8 = some [4, 5] := ⟨rfl, rfl, rfl, rfl, rfl, rfl, rfl, rfl, rfl⟩
def kp65 : List (Nat × List Nat) := [(0, [0, 1]), (1, [0, 1, 5]), (2, [0, 1, 5, 8, 9, 10]), (3, [0, 1, 5, 8, 9, 10, 11]), (4, [0, 1, 5, 6, 7, 8, 9, 10]), (5, [0, 1, 5, 6, 8, 9, 10, 21]), (6, [0, 1, 5, 8, 9, 10]), (7, [0, 1, 5, 8, 9, 10]), (8, [4])]
theorem lk65 : lookK kp65 0 = some [0, 1] ∧ lookK kp65 1 = some [0, 1, 5] ∧ lookK kp65 2 = some [0, 1, 5, 8, 9, 10] ∧ lookK kp65 3 = some [0, 1, 5, 8, 9, 10, 11] ∧ lookK kp65 4 = some [0, 1, 5, 6, 7, 8, 9, 10] ∧ lookK kp65 5 = some [0, 1, 5, 6, 8, 9, 10, 21] ∧ lookK kp65 6 = some [0, 1, 5, 8, 9, 10] ∧ lookK kp65 7 = some [0, 1, 5, 8, 9, 10] ∧ lookK kp65 8 = some [4] := ⟨rfl, rfl, rfl, rfl, rfl, rfl, rfl, rfl, rfl⟩
def kp66 : List (Nat × List Nat) := [(0, [0, 1]), (1, [4])]
theorem lk66 : lookK kp66 0 = some [0, 1] ∧ lookK kp66 1 = some [4] := ⟨rfl, rfl⟩
def kp67 : List (Nat × List Nat) := [(0, [0, 1]), (1, [4])]
theorem lk67 : lookK kp67 0 = some [0, 1] ∧ lookK kp67 1 = some [4] := ⟨rfl, rfl⟩

def exL : La := ⟨[0, 3, 5], [⟨10, 12⟩, ⟨4, 6⟩, ⟨5, 9⟩], [true, false], [1, 1, 1, 1, 1, 1]⟩
def wrL : La := ⟨[0, 3, 5], [⟨10, 12⟩, ⟨13, 14⟩, ⟨5, 9⟩], [true, false], [1, 1, 1, 1, 1, 1]⟩
set_option maxHeartbeats 1000000 in
theorem lamp44 : Pure Try.prog 44 [] (laV exL) := by
  refine pure_wkE (bad := []) (kp := kp44) (X := tx) (nt := 9) (rs := [.cell 0 26]) Try.func44 rfl rfl rfl rfl mo (by kernel_rfl) rfl rfl (fun hf => ?_)
  simp (maxSteps := 2000000) only [go_sem, reduceIte, Nat.reduceEqDiff, Nat.reduceAdd, Nat.reduceLeDiff, Nat.reduceBEq, Nat.reduceMul, List.replicate_succ, lk44, lk45, lk79, lk80, lk82, lk74, lk65, lk66, lk67]
  refine aops_pure' (rg43 10 12) rfl rfl (by first | exact wk_refls _ | (repeat constructor)) ?_
  simp (maxSteps := 2000000) only [go_sem, reduceIte, Nat.reduceEqDiff, List.replicate_succ, lk44, lk45, lk79, lk80, lk82, lk74, lk65, lk66, lk67]
  refine aops_pure' (rg43 4 6) rfl rfl (by first | exact wk_refls _ | (repeat constructor)) ?_
  simp (maxSteps := 2000000) only [go_sem, reduceIte, Nat.reduceEqDiff, List.replicate_succ, lk44, lk45, lk79, lk80, lk82, lk74, lk65, lk66, lk67]
  refine aops_pure' (rg43 5 9) rfl rfl (by first | exact wk_refls _ | (repeat constructor)) ?_
  simp (maxSteps := 2000000) only [go_sem, reduceIte, Nat.reduceEqDiff, Nat.reduceAdd, Nat.reduceLeDiff, Nat.reduceBEq, Nat.reduceMul, List.replicate_succ, lk44, lk45, lk79, lk80, lk82, lk74, lk65, lk66, lk67, laV, laC, exL, iD, rgD, bD, rgV, rgC, List.map_cons, List.map_nil]
  all_goals first | exact .refl _ | exact ⟨.refl _, .refl _⟩ | exact ⟨.refl _, .refl _, .refl _⟩ | exact ⟨.refl _, _, rfl⟩ | exact ⟨_, rfl⟩ | exact ⟨.refl _, [], by simp⟩ | exact ⟨[], by simp⟩
def zLa : List C := [.full [], .full [], .full [], .full []]
def exC : List C := [.full (exL.an.map iD), .ms 2 0 3 3, .full (exL.fa.map bD), .full (exL.we.map iD)]
def liC (l : List Rg) : List C := (l.map rgC).flatten
set_option maxHeartbeats 1000000 in
theorem lamp44m : ACall Try.prog 44 [] [.cells zLa] (one (.agg exC) [.cells zLa, .cells exC, .cells (liC exL.li)]) := by
  refine acall_fitE (bad := []) (kp := kp44) (X := tx) (nt := 9) (rs := [.cell 0 26]) Try.func44 rfl rfl rfl rfl mo (by kernel_rfl) (fun hf => ?_)
  simp (maxSteps := 2000000) only [go_sem, reduceIte, Nat.reduceEqDiff, Nat.reduceAdd, Nat.reduceLeDiff, Nat.reduceBEq, Nat.reduceMul, List.replicate_succ, lk44, lk45, lk79, lk80, lk82, lk74, lk65, lk66, lk67, zLa]
  refine aops_pure' (rg43 10 12) rfl rfl (by first | exact wk_refls _ | (repeat constructor)) ?_
  simp (maxSteps := 2000000) only [go_sem, reduceIte, Nat.reduceEqDiff, List.replicate_succ, lk44, lk45, lk79, lk80, lk82, lk74, lk65, lk66, lk67]
  refine aops_pure' (rg43 4 6) rfl rfl (by first | exact wk_refls _ | (repeat constructor)) ?_
  simp (maxSteps := 2000000) only [go_sem, reduceIte, Nat.reduceEqDiff, List.replicate_succ, lk44, lk45, lk79, lk80, lk82, lk74, lk65, lk66, lk67]
  refine aops_pure (rg43 5 9) rfl rfl (by first | exact wk_refls _ | (repeat constructor)) ?_
  refine aops_buildMs rfl rfl rfl rfl rfl rfl (by decide) (by decide) ?_
  simp (maxSteps := 2000000) only [go_sem, reduceIte, Nat.reduceEqDiff, Nat.reduceAdd, Nat.reduceLeDiff, Nat.reduceBEq, Nat.reduceMul, List.replicate_succ, lk44, lk45, lk79, lk80, lk82, lk74, lk65, lk66, lk67]
  exact ⟨rfl, rfl⟩
def wrF : List C := [.full (wrL.an.map iD), .d (.sl (wrL.li.map rgD)), .full (wrL.fa.map bD), .full (wrL.we.map iD)]
set_option maxHeartbeats 1000000 in
theorem wrong45 : Pure Try.prog 45 [] (laV wrL) := by
  refine ⟨ACall.wkpost ((ACall.fzagg (ys := wrF) ?_).mono (fun x H' h => ?_)), rfl, rfl⟩
  case refine_2 =>
    subst h
    repeat constructor
  refine acall_fitE (bad := []) (kp := kp45) (X := tx) (nt := 8) (rs := [.cell 0 26]) Try.func45 rfl rfl rfl rfl mo (by kernel_rfl) (fun hf => ?_)
  simp (maxSteps := 2000000) only [go_sem, reduceIte, Nat.reduceEqDiff, Nat.reduceAdd, List.replicate_succ, lk44, lk45, lk79, lk80, lk82, lk74, lk65, lk66, lk67]
  refine aops_at lamp44m rfl rfl (by first | exact wk_refls _ | (repeat constructor)) ?_
  simp (maxSteps := 2000000) only [go_sem, reduceIte, Nat.reduceEqDiff, Nat.reduceAdd, Nat.reduceLeDiff, Nat.reduceBEq, List.replicate_succ, lk44, lk45, lk79, lk80, lk82, lk74, lk65, lk66, lk67, exC, zLa, liC, exL, iD, bD, rgC, List.map_cons, List.map_nil, List.cons_append, List.nil_append]
  refine dops_pure' (rg43 13 14) rfl rfl (by first | exact wk_refls _ | (repeat constructor)) (by kernel_rfl) ?_
  simp (maxSteps := 2000000) only [go_sem, reduceIte, Nat.reduceEqDiff, Nat.reduceAdd, Nat.reduceLeDiff, Nat.reduceMul, Int.reduceLT, Int.reduceLE, Int.reduceToNat, List.replicate_succ, lk44, lk45, lk79, lk80, lk82, lk74, lk65, lk66, lk67, rgV, rgC]
  refine ⟨2, _, [.int .i64 10, .int .i64 12, .int .i64 13, .int .i64 14, .int .i64 5, .int .i64 9], _, rfl, rfl, rfl, rfl, fun i x y hx hy => ?_⟩
  match i with
  | 0 => simp [wrF] at hx hy; subst hx; subst hy; exact .same _
  | 1 =>
    simp [wrF] at hx hy; subst hx; subst hy
    have h : FzC 2 [.int .i64 10, .int .i64 12, .int .i64 13, .int .i64 14, .int .i64 5, .int .i64 9] (.ms 2 0 3 3) _ := .ms 0 2 3 3 (by decide) (Nat.le_refl _) (by decide)
    exact h
  | 2 => simp [wrF] at hx hy; subst hx; subst hy; exact .same _
  | 3 => simp [wrF] at hx hy; subst hx; subst hy; exact .same _
  | k + 4 => simp [wrF] at hy
theorem inside41 (a b : Rg) : Pure Try.prog 41 [rgV a, rgV b] (B (decide (b.lo ≤ a.lo) && (decide (a.hi ≤ b.hi) && decide (a.lo ≤ a.hi)))) := by
  refine pure_wkE (bad := []) (kp := kp41) (X := tx) (nt := 24) (rs := [.tmp 4]) Try.func41 rfl rfl rfl rfl mo (by kernel_rfl) rfl rfl (fun hf => ?_)
  by_cases h1 : b.lo ≤ a.lo
  · by_cases h2 : a.hi ≤ b.hi
    · simp (maxSteps := 2000000) only [go_sem, reduceIte, Nat.reduceEqDiff, Nat.reduceAdd, Nat.reduceLeDiff, Nat.reduceBEq, List.replicate_succ, lk44, lk45, lk79, lk80, lk82, lk74, lk65, lk66, lk67, lk41, rgV, rgC, h1, h2]
      all_goals first | exact .refl _ | exact ⟨.refl _, .refl _⟩ | exact ⟨.refl _, .refl _, .refl _⟩ | exact ⟨.refl _, _, rfl⟩ | exact ⟨_, rfl⟩ | exact ⟨.refl _, [], by simp⟩ | exact ⟨[], by simp⟩
    · simp (maxSteps := 2000000) only [go_sem, reduceIte, Nat.reduceEqDiff, Nat.reduceAdd, Nat.reduceLeDiff, Nat.reduceBEq, List.replicate_succ, lk44, lk45, lk79, lk80, lk82, lk74, lk65, lk66, lk67, lk41, rgV, rgC, h1, h2]
      all_goals first | exact .refl _ | exact ⟨.refl _, .refl _⟩ | exact ⟨.refl _, .refl _, .refl _⟩ | exact ⟨.refl _, _, rfl⟩ | exact ⟨_, rfl⟩ | exact ⟨.refl _, [], by simp⟩ | exact ⟨[], by simp⟩
  · simp (maxSteps := 2000000) only [go_sem, reduceIte, Nat.reduceEqDiff, Nat.reduceAdd, Nat.reduceLeDiff, Nat.reduceBEq, List.replicate_succ, lk44, lk45, lk79, lk80, lk82, lk74, lk65, lk66, lk67, lk41, rgV, rgC, h1]
    all_goals first | exact .refl _ | exact ⟨.refl _, .refl _⟩ | exact ⟨.refl _, .refl _, .refl _⟩ | exact ⟨.refl _, _, rfl⟩ | exact ⟨_, rfl⟩ | exact ⟨.refl _, [], by simp⟩ | exact ⟨[], by simp⟩
theorem nan80 (x : Int) : Pure Try.prog 80 [I x] (B false) := by
  refine pure_wkE (bad := []) (kp := kp80) (X := tx) (nt := 6) (rs := [.tmp 2]) Try.func80 rfl rfl rfl rfl mo (by kernel_rfl) rfl rfl (fun hf => ?_)
  simp (maxSteps := 2000000) only [go_sem, reduceIte, Nat.reduceEqDiff, Nat.reduceAdd, List.replicate_succ, lk44, lk45, lk79, lk80, lk82, lk74, lk65, lk66, lk67]
theorem nan82 (x : Int) : Pure Try.prog 82 [I x] (B false) := by
  refine pure_wkE (bad := []) (kp := kp82) (X := tx) (nt := 6) (rs := [.tmp 2]) Try.func82 rfl rfl rfl rfl mo (by kernel_rfl) rfl rfl (fun hf => ?_)
  simp (maxSteps := 2000000) only [go_sem, reduceIte, Nat.reduceEqDiff, Nat.reduceAdd, List.replicate_succ, lk44, lk45, lk79, lk80, lk82, lk74, lk65, lk66, lk67]
theorem less79 (x y : Int) : Pure Try.prog 79 [I x, I y] (B (decide (x < y))) := by
  refine pure_wkE (bad := []) (kp := kp79) (X := tx) (nt := 17) (rs := [.tmp 4]) Try.func79 rfl rfl rfl rfl mo (by kernel_rfl) rfl rfl (fun hf => ?_)
  simp (maxSteps := 2000000) only [go_sem, reduceIte, Nat.reduceEqDiff, Nat.reduceAdd, List.replicate_succ, lk44, lk45, lk79, lk80, lk82, lk74, lk65, lk66, lk67]
  refine aops_pure' (nan82 x) rfl rfl (by first | exact wk_refls _ | (repeat constructor)) ?_
  simp (maxSteps := 2000000) only [go_sem, reduceIte, Nat.reduceEqDiff, List.replicate_succ, lk44, lk45, lk79, lk80, lk82, lk74, lk65, lk66, lk67]
theorem gt66 (x y : Int) : Pure Try.prog 66 [I x, I y] (B (decide (y < x))) := by
  refine pure_wkE (bad := []) (kp := kp66) (X := tx) (nt := 8) (rs := [.tmp 4]) Try.func66 rfl rfl rfl rfl mo (by kernel_rfl) rfl rfl (fun hf => ?_)
  simp (maxSteps := 2000000) only [go_sem, reduceIte, Nat.reduceEqDiff, Nat.reduceAdd, List.replicate_succ, lk44, lk45, lk79, lk80, lk82, lk74, lk65, lk66, lk67]
theorem lt67 (x y : Int) : Pure Try.prog 67 [I x, I y] (B (decide (x < y))) := by
  refine pure_wkE (bad := []) (kp := kp67) (X := tx) (nt := 8) (rs := [.tmp 4]) Try.func67 rfl rfl rfl rfl mo (by kernel_rfl) rfl rfl (fun hf => ?_)
  simp (maxSteps := 2000000) only [go_sem, reduceIte, Nat.reduceEqDiff, Nat.reduceAdd, List.replicate_succ, lk44, lk45, lk79, lk80, lk82, lk74, lk65, lk66, lk67]
end Go.Proofs.Ytliamojogmlgjaa
