/- Zones: the examples hold. -/
import Derived.Test.YtliamojogmlgjaaZ24
import Derived.Test.YtliamojogmlgjaaZ15
import Derived.Test.YtliamojogmlgjaaZ16
set_option linter.unusedSimpArgs false
set_option linter.unusedVariables false
set_option maxRecDepth 100000
namespace Go.Proofs.Ytliamojogmlgjaa
open Go Go.Abs Go.Proofs
def kp16 : List (Nat × List Nat) := [(0, []), (1, [1]), (2, [1, 2, 3]), (3, [1, 2, 3, 4, 5]), (4, [1, 2, 3, 4, 5, 6, 7]), (5, [1, 2, 3, 4, 5, 6, 7, 8, 9]), (6, [1, 2, 3, 4, 5, 6, 7, 8, 9, 10, 11]), (7, [1, 2, 3, 4, 5, 6, 7, 8, 9, 10, 11, 12]), (8, [1, 2, 3, 4, 5, 6, 7, 8, 9, 10, 11, 12, 13]), (9, [1, 2, 3, 4, 5, 6, 7, 8, 9, 10, 11, 12, 13, 14, 15, 16]), (10, [1, 2, 3, 4, 5, 6, 7, 8, 9, 10, 11, 12, 13, 14, 15, 16, 17, 18]), (11, [1, 2, 3, 4, 5, 6, 7, 8, 9, 10, 11, 12, 13, 14, 15, 16, 17, 18, 19, 20, 21]), (12, [0])]
theorem lk16 : lookK kp16 0 = some [] ∧ lookK kp16 1 = some [1] ∧ lookK kp16 2 = some [1, 2, 3] ∧ lookK kp16 3 = some [1, 2, 3, 4, 5] ∧ lookK kp16 4 = some [1, 2, 3, 4, 5, 6, 7] ∧ lookK kp16 5 = some [1, 2, 3, 4, 5, 6, 7, 8, 9] ∧ lookK kp16 6 = some [1, 2, 3, 4, 5, 6, 7, 8, 9, 10, 11] ∧ lookK kp16 7 = some [1, 2, 3, 4, 5, 6, 7, 8, 9, 10, 11, 12] ∧ lookK kp16 8 = some [1, 2, 3, 4, 5, 6, 7, 8, 9, 10, 11, 12, 13] ∧ lookK kp16 9 = some [1, 2, 3, 4, 5, 6, 7, 8, 9, 10, 11, 12, 13, 14, 15, 16] ∧ lookK kp16 10 = some [1, 2, 3, 4, 5, 6, 7, 8, 9, 10, 11, 12, 13, 14, 15, 16, 17, 18] ∧ lookK kp16 11 = some [1, 2, 3, 4, 5, 6, 7, 8, 9, 10, 11, 12, 13, 14, 15, 16, 17, 18, 19, 20, 21] ∧ lookK kp16 12 = some [0] := ⟨rfl, rfl, rfl, rfl, rfl, rfl, rfl, rfl, rfl, rfl, rfl, rfl, rfl⟩

theorem w_fl : fxN exL [11, 9, 9, 5, 5, 6] = 45 ∧ ctE exL [11, 9, 9, 5, 5, 6] = 0 := ⟨by kernel_rfl, by kernel_rfl⟩
theorem w_sp : spR exL = ⟨31, 60⟩ ∧ spE exL = 0 := ⟨by kernel_rfl, by kernel_rfl⟩
theorem w_a1 : atR exL 1 = ⟨4, 12⟩ ∧ atE exL 1 = 0 := ⟨by kernel_rfl, by kernel_rfl⟩
theorem w_a4 : atR exL 4 = ⟨4, 9⟩ ∧ atE exL 4 = 0 := ⟨by kernel_rfl, by kernel_rfl⟩
theorem w_co : coR exL ⟨500, 1000⟩ = ⟨15, 60⟩ ∧ coE exL ⟨500, 1000⟩ = 0 := ⟨by kernel_rfl, by kernel_rfl⟩
theorem w_cd : cdE exL 0 1 = 14 ∧ cdE wrL 0 1 = 0 := ⟨by kernel_rfl, by kernel_rfl⟩
theorem w_en : enL exL true = [12, 12, 12, 6, 9, 9] ∧ ctE exL [12, 12, 12, 6, 9, 9] = 0 ∧ sumW (gI exL.we) (gI [12, 12, 12, 6, 9, 9]) exL.we.length = 60 := ⟨by kernel_rfl, by kernel_rfl, by kernel_rfl⟩
theorem w_dt : dtA wrL = 0 ∧ dtB wrL = 1 ∧ dtE wrL = 0 := ⟨by kernel_rfl, by kernel_rfl, by kernel_rfl⟩
theorem w_nx : nxD exL 0 = 1 ∧ nxN exL 0 = 19 ∧ nxE exL 0 = 0 := ⟨by kernel_rfl, by kernel_rfl, by kernel_rfl⟩
set_option maxHeartbeats 8000000 in
theorem works16 : Pure Try.prog 16 [] (B true) := by
  refine pure_wkE (bad := [6]) (kp := kp16) (X := tx) (nt := 161) (rs := [.tmp 0]) Try.func16 rfl rfl rfl rfl mo (by kernel_rfl) rfl rfl (fun hf => ?_)
  have h1 := flux17 exL [11, 9, 9, 5, 5, 6]
  rw [w_fl.1, w_fl.2] at h1
  have h2 := span27 exL
  rw [w_sp.1, w_sp.2] at h2
  have h3 := at29 exL 1
  rw [w_a1.1, w_a1.2] at h3
  have h4 := at29 exL 4
  rw [w_a4.1, w_a4.2] at h4
  have h5 := coated31 exL ⟨500, 1000⟩
  rw [w_co.1, w_co.2] at h5
  have h6 := cdoubt23 exL 0 1
  rw [w_cd.1] at h6
  have h7 := cdoubt23 wrL 0 1
  rw [w_cd.2] at h7
  have h8 := next35 exL 0
  rw [w_nx.1, w_nx.2.1, w_nx.2.2] at h8
  have h9 := end33 exL true
  rw [w_en.1, w_sp.2] at h9
  have h10 := doubt25 wrL
  rw [w_dt.1, w_dt.2.1, w_dt.2.2] at h10
  have h11 := true22 exL [12, 12, 12, 6, 9, 9]
  rw [w_en.2.1] at h11
  have h12 := sum38 exL.we [12, 12, 12, 6, 9, 9] (by decide) (by decide) (fun k hk => by
    match k, hk with
    | 0, _ | 1, _ | 2, _ | 3, _ | 4, _ | 5, _ => decide) (fun k hk => by
    match k, hk with
    | 0, _ | 1, _ | 2, _ | 3, _ | 4, _ | 5, _ => decide)
  rw [w_en.2.2] at h12
  have h13 := cdoubt24 wrL 0 1
  rw [w_cd.2] at h13
  have hx := lamp44
  have hw := wrong45
  simp (maxSteps := 2000000) only [go_sem, reduceIte, Nat.reduceEqDiff, Nat.reduceAdd, Nat.reduceLeDiff, Nat.reduceBEq, Nat.reduceMul, List.replicate_succ, lk16]
  refine aops_pure' (hx) rfl rfl (by first | exact wk_refls _ | (repeat constructor)) ?_
  simp (maxSteps := 2000000) only [go_sem, reduceIte, Nat.reduceEqDiff, Nat.reduceAdd, List.replicate_succ, lk16, laV, laC]
  refine aops_pure' (h1) rfl rfl (by first | exact wk_refls _ | (repeat constructor)) ?_
  simp (maxSteps := 2000000) only [go_sem, reduceIte, Nat.reduceEqDiff, Nat.reduceAdd, List.replicate_succ, lk16]
  refine aops_pure' (h2) rfl rfl (by first | exact wk_refls _ | (repeat constructor)) ?_
  simp (maxSteps := 2000000) only [go_sem, reduceIte, Nat.reduceEqDiff, Nat.reduceAdd, List.replicate_succ, lk16, rgV, rgC]
  refine aops_pure' (h3) rfl rfl (by first | exact wk_refls _ | (repeat constructor)) ?_
  simp (maxSteps := 2000000) only [go_sem, reduceIte, Nat.reduceEqDiff, Nat.reduceAdd, List.replicate_succ, lk16, rgV, rgC]
  refine aops_pure' (h4) rfl rfl (by first | exact wk_refls _ | (repeat constructor)) ?_
  simp (maxSteps := 2000000) only [go_sem, reduceIte, Nat.reduceEqDiff, Nat.reduceAdd, List.replicate_succ, lk16, rgV, rgC]
  refine de_pure (rg43 500 1000) rfl rfl (by first | exact wk_refls _ | (repeat constructor)) ?_
  simp (maxSteps := 2000000) only [go_sem, reduceIte, Nat.reduceEqDiff, Nat.reduceAdd, List.replicate_succ, lk16, rgV, rgC]
  refine de_pure (h5) rfl rfl (by first | exact wk_refls _ | (repeat constructor)) ?_
  simp (maxSteps := 2000000) only [go_sem, reduceIte, Nat.reduceEqDiff, Nat.reduceAdd, List.replicate_succ, lk16, rgV, rgC]
  refine ⟨pairsOk_ord (by kernel_rfl), ?_⟩
  refine aops_pure' (h6) rfl rfl (by first | exact wk_refls _ | (repeat constructor)) ?_
  simp (maxSteps := 2000000) only [go_sem, reduceIte, Nat.reduceEqDiff, List.replicate_succ, lk16]
  refine aops_pure' (hw) rfl rfl (by first | exact wk_refls _ | (repeat constructor)) ?_
  simp (maxSteps := 2000000) only [go_sem, reduceIte, Nat.reduceEqDiff, List.replicate_succ, lk16, laV, laC]
  refine aops_pure' (h7) rfl rfl (by first | exact wk_refls _ | (repeat constructor)) ?_
  simp (maxSteps := 2000000) only [go_sem, reduceIte, Nat.reduceEqDiff, Nat.reduceAdd, List.replicate_succ, lk16]
  refine aops_pure' (h8) rfl rfl (by first | exact wk_refls _ | (repeat constructor)) ?_
  simp (maxSteps := 2000000) only [go_sem, reduceIte, Nat.reduceEqDiff, Nat.reduceAdd, List.replicate_succ, lk16]
  refine aops_pure' (h9) rfl rfl (by first | exact wk_refls _ | (repeat constructor)) ?_
  simp (maxSteps := 2000000) only [go_sem, reduceIte, Nat.reduceEqDiff, List.replicate_succ, lk16]
  refine aops_pure' (hw) rfl rfl (by first | exact wk_refls _ | (repeat constructor)) ?_
  simp (maxSteps := 2000000) only [go_sem, reduceIte, Nat.reduceEqDiff, List.replicate_succ, lk16, laV, laC]
  refine aops_pure' (h10) rfl rfl (by first | exact wk_refls _ | (repeat constructor)) ?_
  simp (maxSteps := 2000000) only [go_sem, reduceIte, Nat.reduceEqDiff, Nat.reduceAdd, List.replicate_succ, lk16, List.append_eq, List.cons_append, List.nil_append]
  refine dops_pure' (rg43 31 60) rfl rfl (by first | exact wk_refls _ | (repeat constructor)) (by kernel_rfl) ?_
  simp (maxSteps := 2000000) only [go_sem, reduceIte, Nat.reduceEqDiff, Nat.reduceAdd, List.replicate_succ, lk16, rgV, rgC]
  refine dops_pure' (rg43 4 12) rfl rfl (by first | exact wk_refls _ | (repeat constructor)) (by kernel_rfl) ?_
  simp (maxSteps := 2000000) only [go_sem, reduceIte, Nat.reduceEqDiff, Nat.reduceAdd, List.replicate_succ, lk16, rgV, rgC]
  refine dops_pure' (rg43 4 9) rfl rfl (by first | exact wk_refls _ | (repeat constructor)) (by kernel_rfl) ?_
  simp (maxSteps := 2000000) only [go_sem, reduceIte, Nat.reduceEqDiff, Nat.reduceAdd, List.replicate_succ, lk16, rgV, rgC]
  refine dops_pure' (rg43 15 60) rfl rfl (by first | exact wk_refls _ | (repeat constructor)) (by kernel_rfl) ?_
  simp (maxSteps := 2000000) only [go_sem, reduceIte, Nat.reduceEqDiff, Nat.reduceAdd, List.replicate_succ, lk16, rgV, rgC]
  refine dops_pure' (h11) rfl rfl (by first | exact wk_refls _ | (repeat constructor)) (by kernel_rfl) ?_
  simp (maxSteps := 2000000) only [go_sem, reduceIte, Nat.reduceEqDiff, Nat.reduceAdd, Nat.reduceBEq, List.replicate_succ, lk16]
  refine dops_pure' (h12) rfl rfl (by first | exact wk_refls _ | (repeat constructor)) (by kernel_rfl) ?_
  simp (maxSteps := 2000000) only [go_sem, reduceIte, Nat.reduceEqDiff, Nat.reduceAdd, List.replicate_succ, lk16]
  refine dops_pure' (hw) rfl rfl (by first | exact wk_refls _ | (repeat constructor)) (by kernel_rfl) ?_
  simp (maxSteps := 2000000) only [go_sem, reduceIte, Nat.reduceEqDiff, Nat.reduceAdd, List.replicate_succ, lk16, laV, laC]
  refine dops_pure' (h13) rfl rfl (by first | exact wk_refls _ | (repeat constructor)) (by kernel_rfl) ?_
  simp (maxSteps := 2000000) only [go_sem, reduceIte, Nat.reduceEqDiff, Nat.reduceAdd, List.replicate_succ, lk16]
  all_goals first | exact .refl _ | exact ⟨.refl _, .refl _⟩ | exact ⟨.refl _, .refl _, .refl _⟩ | exact ⟨.refl _, _, rfl⟩ | exact ⟨_, rfl⟩ | exact ⟨.refl _, [], by simp⟩ | exact ⟨[], by simp⟩
end Go.Proofs.Ytliamojogmlgjaa
