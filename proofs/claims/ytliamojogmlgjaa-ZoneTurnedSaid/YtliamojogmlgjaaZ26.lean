/- Zones: the statements Lamps, Doubts, Spans, Nexts. -/
import Derived.Test.YtliamojogmlgjaaZ25
set_option linter.unusedSimpArgs false
set_option linter.unusedVariables false
set_option maxRecDepth 100000
namespace Go.Proofs.Ytliamojogmlgjaa
open Go Go.Abs Go.Proofs
def kp3 : List (Nat × List Nat) := [(0, [1, 2]), (1, [1, 2, 15]), (2, [4]), (3, [1, 2, 5, 6]), (4, [1, 2, 5, 6, 7, 8]), (5, [4])]
theorem lk3 : lookK kp3 0 = some [1, 2] ∧ lookK kp3 1 = some [1, 2, 15] ∧ lookK kp3 2 = some [4] ∧ lookK kp3 3 = some [1, 2, 5, 6] ∧ lookK kp3 4 = some [1, 2, 5, 6, 7, 8] ∧ lookK kp3 5 = some [4] := ⟨rfl, rfl, rfl, rfl, rfl, rfl⟩
def kp4 : List (Nat × List Nat) := [(0, [1, 2, 3]), (1, [1, 2, 3, 11]), (2, [6]), (3, [3, 21]), (4, [6]), (5, [3, 7, 8, 9]), (6, [3, 7, 8, 9, 30]), (7, [6]), (8, [3, 7, 8, 9, 47]), (9, [6]), (10, [6])]
theorem lk4 : lookK kp4 0 = some [1, 2, 3] ∧ lookK kp4 1 = some [1, 2, 3, 11] ∧ lookK kp4 2 = some [6] ∧ lookK kp4 3 = some [3, 21] ∧ lookK kp4 4 = some [6] ∧ lookK kp4 5 = some [3, 7, 8, 9] ∧ lookK kp4 6 = some [3, 7, 8, 9, 30] ∧ lookK kp4 7 = some [6] ∧ lookK kp4 8 = some [3, 7, 8, 9, 47] ∧ lookK kp4 9 = some [6] ∧ lookK kp4 10 = some [6] := ⟨rfl, rfl, rfl, rfl, rfl, rfl, rfl, rfl, rfl, rfl, rfl⟩
def kp5 : List (Nat × List Nat) := [(0, [1, 3, 4, 6]), (1, [1, 3, 4, 6, 26]), (2, [8]), (3, [1, 3, 4, 6, 9, 10]), (4, [1, 3, 4, 6, 9, 10, 11, 12]), (5, [1, 3, 4, 6, 9, 10, 11, 12, 13, 14]), (6, [3, 4, 6, 9, 10, 11, 12, 13, 14, 15, 16]), (7, [3, 4, 6, 9, 10, 11, 12, 13, 14, 15, 16, 17, 18]), (8, [3, 4, 9, 10, 11, 12, 13, 14, 15, 16, 17, 18, 19, 20]), (9, [3, 4, 9, 10, 11, 12, 13, 14, 15, 16, 17, 18, 19, 20, 21, 22]), (10, [3, 4, 11, 21, 22, 100]), (11, [8]), (12, [3, 4, 11, 21, 102]), (13, [8]), (14, [3, 11, 23, 24]), (15, [8])]
theorem lk5 : lookK kp5 0 = some [1, 3, 4, 6] ∧ lookK kp5 1 = some [1, 3, 4, 6, 26] ∧ lookK kp5 2 = some [8] ∧ lookK kp5 3 = some [1, 3, 4, 6, 9, 10] ∧ lookK kp5 4 = some [1, 3, 4, 6, 9, 10, 11, 12] ∧ lookK kp5 5 = some [1, 3, 4, 6, 9, 10, 11, 12, 13, 14] ∧ lookK kp5 6 = some [3, 4, 6, 9, 10, 11, 12, 13, 14, 15, 16] ∧ lookK kp5 7 = some [3, 4, 6, 9, 10, 11, 12, 13, 14, 15, 16, 17, 18] ∧ lookK kp5 8 = some [3, 4, 9, 10, 11, 12, 13, 14, 15, 16, 17, 18, 19, 20] ∧ lookK kp5 9 = some [3, 4, 9, 10, 11, 12, 13, 14, 15, 16, 17, 18, 19, 20, 21, 22] ∧ lookK kp5 10 = some [3, 4, 11, 21, 22, 100] ∧ lookK kp5 11 = some [8] ∧ lookK kp5 12 = some [3, 4, 11, 21, 102] ∧ lookK kp5 13 = some [8] ∧ lookK kp5 14 = some [3, 11, 23, 24] ∧ lookK kp5 15 = some [8] := ⟨rfl, rfl, rfl, rfl, rfl, rfl, rfl, rfl, rfl, rfl, rfl, rfl, rfl, rfl, rfl, rfl⟩
def kp6 : List (Nat × List Nat) := [(0, [1, 2]), (1, [1, 2, 24]), (2, [4]), (3, [1, 2, 5, 6, 7]), (4, [5, 6, 7, 8, 9, 10]), (5, [4])]
theorem lk6 : lookK kp6 0 = some [1, 2] ∧ lookK kp6 1 = some [1, 2, 24] ∧ lookK kp6 2 = some [4] ∧ lookK kp6 3 = some [1, 2, 5, 6, 7] ∧ lookK kp6 4 = some [5, 6, 7, 8, 9, 10] ∧ lookK kp6 5 = some [4] := ⟨rfl, rfl, rfl, rfl, rfl, rfl⟩

set_option maxHeartbeats 4000000 in
theorem lampsLaw (l : La) (x : List Int) : Pure Try.prog 3 [laV l, ints x] (B true) := by
  refine pure_wkE (bad := []) (kp := kp3) (X := tx) (nt := 56) (rs := [.tmp 4]) Try.func3 rfl rfl rfl rfl mo (by kernel_rfl) rfl rfl (fun hf => ?_)
  have hg := great15 l
  have h1 := flux17 l x
  have h2 := flux18 l x
  have h3 := lamp19 l
  have h4 := lamp20 l
  have h5 := true21 l x
  have h6 := true22 l x
  unfold laV laC at hg h3 h4
  unfold laV laC ints at h1 h2 h5 h6
  simp (maxSteps := 2000000) only [go_sem, reduceIte, Nat.reduceEqDiff, Nat.reduceAdd, List.replicate_succ, lk3, lk4, lk5, lk6, laV, laC, ints]
  refine aops_pure' (hg) rfl rfl (by first | exact wk_refls _ | (repeat constructor)) ?_
  cases hgb : greatB l with
  | true =>
    simp (maxSteps := 2000000) only [go_sem, reduceIte, Nat.reduceEqDiff, Nat.reduceAdd, List.replicate_succ, lk3, lk4, lk5, lk6]
    refine aops_pure' (works16) rfl rfl (by first | exact wk_refls _ | (repeat constructor)) ?_
    simp (maxSteps := 2000000) only [go_sem, reduceIte, Nat.reduceEqDiff, List.replicate_succ, lk3, lk4, lk5, lk6]
  | false =>
  by_cases hx : 100 < x.length
  · have hx' : (100 : Int) < x.length := by omega
    simp (maxSteps := 2000000) only [go_sem, reduceIte, Nat.reduceEqDiff, Nat.reduceAdd, List.replicate_succ, lk3, lk4, lk5, lk6, hx']
    refine aops_pure' (works16) rfl rfl (by first | exact wk_refls _ | (repeat constructor)) ?_
    simp (maxSteps := 2000000) only [go_sem, reduceIte, Nat.reduceEqDiff, List.replicate_succ, lk3, lk4, lk5, lk6]
  · have hx' : ¬ (100 : Int) < x.length := by omega
    simp (maxSteps := 2000000) only [go_sem, reduceIte, Nat.reduceEqDiff, Nat.reduceAdd, List.replicate_succ, lk3, lk4, lk5, lk6, hx']
    refine aops_pure' (h1) rfl rfl (by first | exact wk_refls _ | (repeat constructor)) ?_
    simp (maxSteps := 2000000) only [go_sem, reduceIte, Nat.reduceEqDiff, Nat.reduceAdd, List.replicate_succ, lk3, lk4, lk5, lk6]
    refine aops_pure' (h2) rfl rfl (by first | exact wk_refls _ | (repeat constructor)) ?_
    simp (maxSteps := 2000000) only [go_sem, reduceIte, Nat.reduceEqDiff, Nat.reduceAdd, List.replicate_succ, lk3, lk4, lk5, lk6]
    refine dops_pure' (h3) rfl rfl (by first | exact wk_refls _ | (repeat constructor)) (by kernel_rfl) ?_
    simp (maxSteps := 2000000) only [go_sem, reduceIte, Nat.reduceEqDiff, Nat.reduceAdd, List.replicate_succ, lk3, lk4, lk5, lk6]
    refine dops_pure' (h4) rfl rfl (by first | exact wk_refls _ | (repeat constructor)) (by kernel_rfl) ?_
    simp (maxSteps := 2000000) only [go_sem, reduceIte, Nat.reduceEqDiff, Nat.reduceAdd, List.replicate_succ, lk3, lk4, lk5, lk6]
    refine dops_pure' (h5) rfl rfl (by first | exact wk_refls _ | (repeat constructor)) (by kernel_rfl) ?_
    simp (maxSteps := 2000000) only [go_sem, reduceIte, Nat.reduceEqDiff, Nat.reduceAdd, List.replicate_succ, lk3, lk4, lk5, lk6]
    refine dops_pure' (h6) rfl rfl (by first | exact wk_refls _ | (repeat constructor)) (by kernel_rfl) ?_
    simp (maxSteps := 2000000) only [go_sem, reduceIte, Nat.reduceEqDiff, Nat.reduceAdd, List.replicate_succ, lk3, lk4, lk5, lk6]
    refine dops_pure' (works16) rfl rfl (by first | exact wk_refls _ | (repeat constructor)) (by kernel_rfl) ?_
    simp (maxSteps := 2000000) only [go_sem, reduceIte, Nat.reduceEqDiff, Nat.reduceAdd, List.replicate_succ, lk3, lk4, lk5, lk6]
set_option maxHeartbeats 4000000 in
theorem doubtsLaw (l : La) (i k : Int) : Pure Try.prog 4 [laV l, I i, I k] (B true) := by
  refine pure_wkE (bad := []) (kp := kp4) (X := tx) (nt := 73) (rs := [.tmp 6]) Try.func4 rfl rfl rfl rfl mo (by kernel_rfl) rfl rfl (fun hf => ?_)
  have hg := great15 l
  have h1 := cdoubt23 l i k
  have h2 := cdoubt24 l i k
  have h3 := doubt25 l
  have h4 := lamp20 l
  have h6 := cdoubt24 l (dtA l) (dtB l)
  unfold laV laC at hg h1 h2 h3 h4 h6
  simp (maxSteps := 2000000) only [go_sem, reduceIte, Nat.reduceEqDiff, Nat.reduceAdd, List.replicate_succ, lk3, lk4, lk5, lk6, laV, laC]
  refine aops_pure' (hg) rfl rfl (by first | exact wk_refls _ | (repeat constructor)) ?_
  cases hgb : greatB l with
  | true =>
    simp (maxSteps := 2000000) only [go_sem, reduceIte, Nat.reduceEqDiff, Nat.reduceAdd, List.replicate_succ, lk3, lk4, lk5, lk6]
    refine aops_pure' (works16) rfl rfl (by first | exact wk_refls _ | (repeat constructor)) ?_
    simp (maxSteps := 2000000) only [go_sem, reduceIte, Nat.reduceEqDiff, List.replicate_succ, lk3, lk4, lk5, lk6]
  | false =>
  simp (maxSteps := 2000000) only [go_sem, reduceIte, Nat.reduceEqDiff, Nat.reduceAdd, List.replicate_succ, lk3, lk4, lk5, lk6]
  refine dops_pure' (h1) rfl rfl (by first | exact wk_refls _ | (repeat constructor)) (by kernel_rfl) ?_
  simp (maxSteps := 2000000) only [go_sem, reduceIte, Nat.reduceEqDiff, Nat.reduceAdd, List.replicate_succ, lk3, lk4, lk5, lk6]
  refine dops_pure' (h2) rfl rfl (by first | exact wk_refls _ | (repeat constructor)) (by kernel_rfl) ?_
  simp (maxSteps := 2000000) only [go_sem, reduceIte, Nat.reduceEqDiff, Nat.reduceAdd, List.replicate_succ, lk3, lk4, lk5, lk6]
  refine aops_pure' (h3) rfl rfl (by first | exact wk_refls _ | (repeat constructor)) ?_
  simp (maxSteps := 2000000) only [go_sem, reduceIte, Nat.reduceEqDiff, Nat.reduceAdd, List.replicate_succ, lk3, lk4, lk5, lk6]
  refine aops_pure' (h4) rfl rfl (by first | exact wk_refls _ | (repeat constructor)) ?_
  by_cases h0 : okLa l = 0
  case neg =>
    have e1 : dtE l = okLa l := by unfold dtE; rw [if_neg h0]
    have e2 : dtA l = 0 := by unfold dtA; rw [if_neg h0]
    have e3 : dtB l = 0 := by unfold dtB; rw [if_neg h0]
    simp (maxSteps := 2000000) only [go_sem, reduceIte, Nat.reduceEqDiff, Nat.reduceAdd, List.replicate_succ, lk3, lk4, lk5, lk6, h0]
    refine aops_pure' (h4) rfl rfl (by first | exact wk_refls _ | (repeat constructor)) ?_
    simp (maxSteps := 2000000) only [go_sem, reduceIte, Nat.reduceEqDiff, List.replicate_succ, lk3, lk4, lk5, lk6, e1, e2, e3]
    refine aops_pure' (works16) rfl rfl (by first | exact wk_refls _ | (repeat constructor)) ?_
    simp (maxSteps := 2000000) only [go_sem, reduceIte, Nat.reduceEqDiff, List.replicate_succ, lk3, lk4, lk5, lk6]
  have ok := okLa_n h0
  have h5 := doubted26 l ok
  unfold laV laC at h5
  have e2 : dtA l = (clashF l).1 := by unfold dtA; rw [if_pos h0]
  have e3 : dtB l = (clashF l).2 := by unfold dtB; rw [if_pos h0]
  simp (maxSteps := 2000000) only [go_sem, reduceIte, Nat.reduceEqDiff, Nat.reduceAdd, List.replicate_succ, lk3, lk4, lk5, lk6, h0]
  refine aops_pure' (h5) rfl rfl (by first | exact wk_refls _ | (repeat constructor)) ?_
  cases hd : dbB l with
  | false =>
    have e1 : dtE l = 5 := by unfold dtE; rw [if_pos h0, hd]; rfl
    have hp := (clash_zero ok).2 hd
    rw [hp] at e2 e3
    simp (maxSteps := 2000000) only [go_sem, reduceIte, Nat.reduceEqDiff, Nat.reduceAdd, List.replicate_succ, lk3, lk4, lk5, lk6, e1, e2, e3]
    refine aops_pure' (works16) rfl rfl (by first | exact wk_refls _ | (repeat constructor)) ?_
    simp (maxSteps := 2000000) only [go_sem, reduceIte, Nat.reduceEqDiff, List.replicate_succ, lk3, lk4, lk5, lk6]
  | true =>
    have e1 : dtE l = 0 := by unfold dtE; rw [if_pos h0, hd]; rfl
    obtain ⟨s1, s2, s3⟩ := clash_some ((clash_iff ok).1 hd)
    have e4 : cdE l (dtA l) (dtB l) = 0 := by rw [e2, e3, cdE_in h0 s1 s2, s3]; rfl
    rw [e4] at h6
    simp (maxSteps := 2000000) only [go_sem, reduceIte, Nat.reduceEqDiff, Nat.reduceAdd, List.replicate_succ, lk3, lk4, lk5, lk6, e1]
    refine aops_pure' (h6) rfl rfl (by first | exact wk_refls _ | (repeat constructor)) ?_
    simp (maxSteps := 2000000) only [go_sem, reduceIte, Nat.reduceEqDiff, List.replicate_succ, lk3, lk4, lk5, lk6]
    refine aops_pure' (works16) rfl rfl (by first | exact wk_refls _ | (repeat constructor)) ?_
    simp (maxSteps := 2000000) only [go_sem, reduceIte, Nat.reduceEqDiff, List.replicate_succ, lk3, lk4, lk5, lk6]
theorem enL_true {l : La} (h : spE l = 0) (b : Bool) : ctE l (enL l b) = 0 ∧ fxN l (enL l b) = if b then spHi l else spLo l := by
  obtain ⟨h0, hd⟩ := sp_ok h
  have ok := okLa_n h0
  have e := enL_0 h b
  have hle : ∀ k, k < l.we.length → bl l k ≤ bh l k := fun k hk => dbB_no hd hk
  obtain ⟨f, ef, ht⟩ : ∃ f, (if b then bh l else bl l) = f ∧ True' l.we.length (dir l) (L0 l) (H0 l) f := by
    cases b with
    | true => exact ⟨bh l, rfl, hi_true hle⟩
    | false => exact ⟨bl l, rfl, lo_true hle⟩
  rw [ef] at e
  have g : ∀ k, k < l.we.length → gI (enL l b) k = f k := fun k hk => by rw [e]; exact fl_get f hk
  have hlen : (enL l b).length = l.we.length := by rw [e]; exact fl_len _ _
  have c : ctE l (enL l b) = 0 := ctE_0 h0 hlen (fun j hj => by
    have hP := (lay ok).lt hj
    have a := ht.l _ hP
    have a2 := ht.h _ hP
    rw [L0_at ok hj] at a
    rw [H0_at ok hj] at a2
    unfold badL
    rw [g _ hP, decide_eq_false (by omega), decide_eq_false (by omega)]; rfl) (fun j hj => by
    have m := ht.m j hj
    unfold badS
    rw [g _ (by omega), g _ hj]
    split
    · rename_i hdd
      rw [hdd, if_pos rfl] at m
      exact decide_eq_false (by omega)
    · rename_i hdd
      rw [if_neg hdd] at m
      exact decide_eq_false (by omega))
  refine ⟨c, ?_⟩
  unfold fxN
  rw [if_pos c, sumW_congr (g := f) g]
  cases b with
  | true => rw [← ef]; rfl
  | false => rw [← ef]; rfl
set_option maxHeartbeats 8000000 in
theorem spansLaw (l : La) (d : Int) (r : Rg) (b : Bool) : Pure Try.prog 5 [laV l, I d, rgV r, B b] (B true) := by
  refine pure_wkE (bad := []) (kp := kp5) (X := tx) (nt := 139) (rs := [.tmp 8]) Try.func5 rfl rfl rfl rfl mo (by kernel_rfl) rfl rfl (fun hf => ?_)
  have hg := great15 l
  have h1 := span27 l
  have h2 := span28 l
  have h3 := at29 l d
  have h4 := at30 l d
  have h5 := coated31 l r
  have h6 := coated32 l r
  have h7 := end33 l b
  have h8 := flux18 l (enL l b)
  unfold laV laC at hg
  unfold laV laC rgV rgC at h1 h2 h3 h4 h5 h6
  unfold laV laC ints at h7 h8
  simp (maxSteps := 2000000) only [go_sem, reduceIte, Nat.reduceEqDiff, Nat.reduceAdd, List.replicate_succ, lk3, lk4, lk5, lk6, laV, laC, rgV, rgC]
  refine aops_pure' (hg) rfl rfl (by first | exact wk_refls _ | (repeat constructor)) ?_
  cases hgb : greatB l with
  | true =>
    simp (maxSteps := 2000000) only [go_sem, reduceIte, Nat.reduceEqDiff, Nat.reduceAdd, List.replicate_succ, lk3, lk4, lk5, lk6]
    refine aops_pure' (works16) rfl rfl (by first | exact wk_refls _ | (repeat constructor)) ?_
    simp (maxSteps := 2000000) only [go_sem, reduceIte, Nat.reduceEqDiff, List.replicate_succ, lk3, lk4, lk5, lk6]
  | false =>
  simp (maxSteps := 2000000) only [go_sem, reduceIte, Nat.reduceEqDiff, Nat.reduceAdd, List.replicate_succ, lk3, lk4, lk5, lk6]
  refine aops_pure' (h1) rfl rfl (by first | exact wk_refls _ | (repeat constructor)) ?_
  simp (maxSteps := 2000000) only [go_sem, reduceIte, Nat.reduceEqDiff, Nat.reduceAdd, List.replicate_succ, lk3, lk4, lk5, lk6]
  refine aops_pure' (h2) rfl rfl (by first | exact wk_refls _ | (repeat constructor)) ?_
  simp (maxSteps := 2000000) only [go_sem, reduceIte, Nat.reduceEqDiff, Nat.reduceAdd, List.replicate_succ, lk3, lk4, lk5, lk6]
  refine aops_pure' (h3) rfl rfl (by first | exact wk_refls _ | (repeat constructor)) ?_
  simp (maxSteps := 2000000) only [go_sem, reduceIte, Nat.reduceEqDiff, Nat.reduceAdd, List.replicate_succ, lk3, lk4, lk5, lk6]
  refine aops_pure' (h4) rfl rfl (by first | exact wk_refls _ | (repeat constructor)) ?_
  simp (maxSteps := 2000000) only [go_sem, reduceIte, Nat.reduceEqDiff, Nat.reduceAdd, List.replicate_succ, lk3, lk4, lk5, lk6]
  refine aops_pure' (h5) rfl rfl (by first | exact wk_refls _ | (repeat constructor)) ?_
  simp (maxSteps := 2000000) only [go_sem, reduceIte, Nat.reduceEqDiff, Nat.reduceAdd, List.replicate_succ, lk3, lk4, lk5, lk6]
  refine aops_pure' (h6) rfl rfl (by first | exact wk_refls _ | (repeat constructor)) ?_
  simp (maxSteps := 2000000) only [go_sem, reduceIte, Nat.reduceEqDiff, Nat.reduceAdd, List.replicate_succ, lk3, lk4, lk5, lk6]
  refine aops_pure' (h7) rfl rfl (by first | exact wk_refls _ | (repeat constructor)) ?_
  by_cases h : spE l = 0
  case neg =>
    have e := enL_bad h b
    simp (maxSteps := 2000000) only [go_sem, reduceIte, Nat.reduceEqDiff, Nat.reduceAdd, List.replicate_succ, lk3, lk4, lk5, lk6, h, e]
    refine aops_pure' (works16) rfl rfl (by first | exact wk_refls _ | (repeat constructor)) ?_
    simp (maxSteps := 2000000) only [go_sem, reduceIte, Nat.reduceEqDiff, List.replicate_succ, lk3, lk4, lk5, lk6]
  obtain ⟨c1, c2⟩ := enL_true h b
  have e2 := spR_0 h
  rw [c1, c2] at h8
  cases b with
  | true =>
    simp (maxSteps := 2000000) only [go_sem, reduceIte, Nat.reduceEqDiff, Nat.reduceAdd, List.replicate_succ, lk3, lk4, lk5, lk6, h]
    refine aops_pure' (h8) rfl rfl (by first | exact wk_refls _ | (repeat constructor)) ?_
    simp (maxSteps := 2000000) only [go_sem, reduceIte, Nat.reduceEqDiff, Nat.reduceAdd, Nat.reduceBEq, List.replicate_succ, lk3, lk4, lk5, lk6, e2]
    refine aops_pure' (works16) rfl rfl (by first | exact wk_refls _ | (repeat constructor)) ?_
    simp (maxSteps := 2000000) only [go_sem, reduceIte, Nat.reduceEqDiff, List.replicate_succ, lk3, lk4, lk5, lk6]
  | false =>
    simp (maxSteps := 2000000) only [go_sem, reduceIte, Nat.reduceEqDiff, Nat.reduceAdd, List.replicate_succ, lk3, lk4, lk5, lk6, h]
    refine aops_pure' (h8) rfl rfl (by first | exact wk_refls _ | (repeat constructor)) ?_
    simp (maxSteps := 2000000) only [go_sem, reduceIte, Nat.reduceEqDiff, Nat.reduceAdd, Nat.reduceLeDiff, Nat.reduceBEq, List.replicate_succ, lk3, lk4, lk5, lk6, e2]
    refine aops_pure' (works16) rfl rfl (by first | exact wk_refls _ | (repeat constructor)) ?_
    simp (maxSteps := 2000000) only [go_sem, reduceIte, Nat.reduceEqDiff, List.replicate_succ, lk3, lk4, lk5, lk6]
set_option maxHeartbeats 4000000 in
theorem nextsLaw (l : La) (off : Int) : Pure Try.prog 6 [laV l, I off] (B true) := by
  refine pure_wkE (bad := []) (kp := kp6) (X := tx) (nt := 56) (rs := [.tmp 4]) Try.func6 rfl rfl rfl rfl mo (by kernel_rfl) rfl rfl (fun hf => ?_)
  have hg := great15 l
  have h1 := slow34 l
  have h2 := next35 l off
  have h3 := next36 l off
  unfold laV laC at hg h1 h2 h3
  simp (maxSteps := 2000000) only [go_sem, reduceIte, Nat.reduceEqDiff, Nat.reduceAdd, List.replicate_succ, lk3, lk4, lk5, lk6, laV, laC]
  refine aops_pure' (hg) rfl rfl (by first | exact wk_refls _ | (repeat constructor)) ?_
  cases hgb : greatB l with
  | true =>
    simp (maxSteps := 2000000) only [go_sem, reduceIte, Nat.reduceEqDiff, Nat.reduceAdd, List.replicate_succ, lk3, lk4, lk5, lk6]
    refine aops_pure' (works16) rfl rfl (by first | exact wk_refls _ | (repeat constructor)) ?_
    simp (maxSteps := 2000000) only [go_sem, reduceIte, Nat.reduceEqDiff, List.replicate_succ, lk3, lk4, lk5, lk6]
  | false =>
  simp (maxSteps := 2000000) only [go_sem, reduceIte, Nat.reduceEqDiff, Nat.reduceAdd, List.replicate_succ, lk3, lk4, lk5, lk6]
  refine aops_pure' (h1) rfl rfl (by first | exact wk_refls _ | (repeat constructor)) ?_
  cases hsb : slowB l with
  | true =>
    simp (maxSteps := 2000000) only [go_sem, reduceIte, Nat.reduceEqDiff, Nat.reduceAdd, List.replicate_succ, lk3, lk4, lk5, lk6]
    refine aops_pure' (works16) rfl rfl (by first | exact wk_refls _ | (repeat constructor)) ?_
    simp (maxSteps := 2000000) only [go_sem, reduceIte, Nat.reduceEqDiff, List.replicate_succ, lk3, lk4, lk5, lk6]
  | false =>
  by_cases c : 20 < off
  · by_cases c2 : off ≤ 200
    · simp (maxSteps := 2000000) only [go_sem, reduceIte, Nat.reduceEqDiff, Nat.reduceAdd, List.replicate_succ, lk3, lk4, lk5, lk6, c, c2]
      refine aops_pure' (works16) rfl rfl (by first | exact wk_refls _ | (repeat constructor)) ?_
      simp (maxSteps := 2000000) only [go_sem, reduceIte, Nat.reduceEqDiff, List.replicate_succ, lk3, lk4, lk5, lk6]
    · simp (maxSteps := 2000000) only [go_sem, reduceIte, Nat.reduceEqDiff, Nat.reduceAdd, List.replicate_succ, lk3, lk4, lk5, lk6, c, c2]
      refine aops_pure' (h2) rfl rfl (by first | exact wk_refls _ | (repeat constructor)) ?_
      simp (maxSteps := 2000000) only [go_sem, reduceIte, Nat.reduceEqDiff, Nat.reduceAdd, List.replicate_succ, lk3, lk4, lk5, lk6]
      refine aops_pure' (h3) rfl rfl (by first | exact wk_refls _ | (repeat constructor)) ?_
      simp (maxSteps := 2000000) only [go_sem, reduceIte, Nat.reduceEqDiff, List.replicate_succ, lk3, lk4, lk5, lk6]
      refine aops_pure' (works16) rfl rfl (by first | exact wk_refls _ | (repeat constructor)) ?_
      simp (maxSteps := 2000000) only [go_sem, reduceIte, Nat.reduceEqDiff, List.replicate_succ, lk3, lk4, lk5, lk6]
  · simp (maxSteps := 2000000) only [go_sem, reduceIte, Nat.reduceEqDiff, Nat.reduceAdd, List.replicate_succ, lk3, lk4, lk5, lk6, c]
    refine aops_pure' (h2) rfl rfl (by first | exact wk_refls _ | (repeat constructor)) ?_
    simp (maxSteps := 2000000) only [go_sem, reduceIte, Nat.reduceEqDiff, Nat.reduceAdd, List.replicate_succ, lk3, lk4, lk5, lk6]
    refine aops_pure' (h3) rfl rfl (by first | exact wk_refls _ | (repeat constructor)) ?_
    simp (maxSteps := 2000000) only [go_sem, reduceIte, Nat.reduceEqDiff, List.replicate_succ, lk3, lk4, lk5, lk6]
    refine aops_pure' (works16) rfl rfl (by first | exact wk_refls _ | (repeat constructor)) ?_
    simp (maxSteps := 2000000) only [go_sem, reduceIte, Nat.reduceEqDiff, List.replicate_succ, lk3, lk4, lk5, lk6]
end Go.Proofs.Ytliamojogmlgjaa
