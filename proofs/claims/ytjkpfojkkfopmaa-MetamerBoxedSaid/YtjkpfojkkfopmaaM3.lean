/- Metamers: which cases and chips are valid, and newMatcher. -/
import Derived.Test.YtjkpfojkkfopmaaMR
set_option linter.unusedSimpArgs false
set_option linter.unusedVariables false
set_option maxRecDepth 100000
namespace Go.Proofs.Ytjkpfojkkfopmaa
open Go Go.Abs Go.Proofs
def kp20 : List (Nat × List Nat) := [(0, [1]), (1, [1, 3]), (2, [1, 3, 15]), (3, [2]), (4, [1, 25]), (5, [2]), (6, [1, 4]), (7, [4, 30, 31, 32]), (8, [4, 30, 31, 32, 33]), (9, [4, 6, 30, 31, 32]), (10, [4, 30, 31, 32]), (11, [4, 30, 31, 32]), (12, [43]), (13, [2]), (14, [2])]
theorem lk20 : lookK kp20 0 = some [1] ∧ lookK kp20 1 = some [1, 3] ∧ lookK kp20 2 = some [1, 3, 15] ∧ lookK kp20 3 = some [2] ∧ lookK kp20 4 = some [1, 25] ∧ lookK kp20 5 = some [2] ∧ lookK kp20 6 = some [1, 4] ∧ lookK kp20 7 = some [4, 30, 31, 32] ∧ lookK kp20 8 = some [4, 30, 31, 32, 33] ∧ lookK kp20 9 = some [4, 6, 30, 31, 32] ∧ lookK kp20 10 = some [4, 30, 31, 32] ∧ lookK kp20 11 = some [4, 30, 31, 32] ∧ lookK kp20 12 = some [43] ∧ lookK kp20 13 = some [2] ∧ lookK kp20 14 = some [2] := ⟨rfl, rfl, rfl, rfl, rfl, rfl, rfl, rfl, rfl, rfl, rfl, rfl, rfl, rfl, rfl⟩
def kp21 : List (Nat × List Nat) := [(0, [1]), (1, [1, 3]), (2, [1, 3, 15]), (3, [2]), (4, [1, 3, 19]), (5, [2]), (6, [1, 3, 4]), (7, [1, 3, 4, 21]), (8, [1, 3, 4]), (9, [1, 3, 4, 31]), (10, [2]), (11, [1, 3, 5]), (12, [1, 3, 5, 34]), (13, [1, 3, 5]), (14, [1, 3, 5, 43]), (15, [2]), (16, [1, 3, 5, 6]), (17, [1, 3, 5, 6, 45]), (18, [1, 3, 5, 6]), (19, [1, 3, 5, 6, 57]), (20, [2]), (21, [2])]
theorem lk21 : lookK kp21 0 = some [1] ∧ lookK kp21 1 = some [1, 3] ∧ lookK kp21 2 = some [1, 3, 15] ∧ lookK kp21 3 = some [2] ∧ lookK kp21 4 = some [1, 3, 19] ∧ lookK kp21 5 = some [2] ∧ lookK kp21 6 = some [1, 3, 4] ∧ lookK kp21 7 = some [1, 3, 4, 21] ∧ lookK kp21 8 = some [1, 3, 4] ∧ lookK kp21 9 = some [1, 3, 4, 31] ∧ lookK kp21 10 = some [2] ∧ lookK kp21 11 = some [1, 3, 5] ∧ lookK kp21 12 = some [1, 3, 5, 34] ∧ lookK kp21 13 = some [1, 3, 5] ∧ lookK kp21 14 = some [1, 3, 5, 43] ∧ lookK kp21 15 = some [2] ∧ lookK kp21 16 = some [1, 3, 5, 6] ∧ lookK kp21 17 = some [1, 3, 5, 6, 45] ∧ lookK kp21 18 = some [1, 3, 5, 6] ∧ lookK kp21 19 = some [1, 3, 5, 6, 57] ∧ lookK kp21 20 = some [2] ∧ lookK kp21 21 = some [2] := ⟨rfl, rfl, rfl, rfl, rfl, rfl, rfl, rfl, rfl, rfl, rfl, rfl, rfl, rfl, rfl, rfl, rfl, rfl, rfl, rfl, rfl, rfl⟩
def kp56 : List (Nat × List Nat) := [(0, [1, 2]), (1, [1, 11]), (2, [4]), (3, [1, 5]), (4, [1, 5, 15]), (5, [1, 5]), (6, [1, 5, 29]), (7, [4]), (8, [4])]
theorem lk56 : lookK kp56 0 = some [1, 2] ∧ lookK kp56 1 = some [1, 11] ∧ lookK kp56 2 = some [4] ∧ lookK kp56 3 = some [1, 5] ∧ lookK kp56 4 = some [1, 5, 15] ∧ lookK kp56 5 = some [1, 5] ∧ lookK kp56 6 = some [1, 5, 29] ∧ lookK kp56 7 = some [4] ∧ lookK kp56 8 = some [4] := ⟨rfl, rfl, rfl, rfl, rfl, rfl, rfl, rfl, rfl⟩
def kp58 : List (Nat × List Nat) := [(0, [1, 2, 3]), (1, [1, 2, 3, 9]), (2, [6]), (3, [1, 2, 3, 15]), (4, [6]), (5, [6])]
theorem lk58 : lookK kp58 0 = some [1, 2, 3] ∧ lookK kp58 1 = some [1, 2, 3, 9] ∧ lookK kp58 2 = some [6] ∧ lookK kp58 3 = some [1, 2, 3, 15] ∧ lookK kp58 4 = some [6] ∧ lookK kp58 5 = some [6] := ⟨rfl, rfl, rfl, rfl, rfl, rfl⟩
def kp78 : List (Nat × List Nat) := [(0, [1, 2]), (1, [1, 5]), (2, [4]), (3, [13]), (4, [4]), (5, [4])]
theorem lk78 : lookK kp78 0 = some [1, 2] ∧ lookK kp78 1 = some [1, 5] ∧ lookK kp78 2 = some [4] ∧ lookK kp78 3 = some [13] ∧ lookK kp78 4 = some [4] ∧ lookK kp78 5 = some [4] := ⟨rfl, rfl, rfl, rfl, rfl, rfl⟩
def kp51 : List (Nat × List Nat) := [(0, [1, 2, 4]), (1, [1, 2, 4, 6]), (2, [1, 4, 6, 7]), (3, [1, 4, 6, 7, 17]), (4, [4, 5]), (5, [1, 4, 6, 8]), (6, [4, 6, 8, 22, 23, 24]), (7, [4, 6, 8, 22, 23, 24, 25]), (8, [4, 6, 8, 10, 22, 23, 24]), (9, [4, 6, 8, 11, 22, 23, 24]), (10, [4, 6, 8, 11, 22, 23, 24, 32]), (11, [4, 5]), (12, [4, 6, 8, 22, 23, 24]), (13, [4, 5])]
theorem lk51 : lookK kp51 0 = some [1, 2, 4] ∧ lookK kp51 1 = some [1, 2, 4, 6] ∧ lookK kp51 2 = some [1, 4, 6, 7] ∧ lookK kp51 3 = some [1, 4, 6, 7, 17] ∧ lookK kp51 4 = some [4, 5] ∧ lookK kp51 5 = some [1, 4, 6, 8] ∧ lookK kp51 6 = some [4, 6, 8, 22, 23, 24] ∧ lookK kp51 7 = some [4, 6, 8, 22, 23, 24, 25] ∧ lookK kp51 8 = some [4, 6, 8, 10, 22, 23, 24] ∧ lookK kp51 9 = some [4, 6, 8, 11, 22, 23, 24] ∧ lookK kp51 10 = some [4, 6, 8, 11, 22, 23, 24, 32] ∧ lookK kp51 11 = some [4, 5] ∧ lookK kp51 12 = some [4, 6, 8, 22, 23, 24] ∧ lookK kp51 13 = some [4, 5] := ⟨rfl, rfl, rfl, rfl, rfl, rfl, rfl, rfl, rfl, rfl, rfl, rfl, rfl, rfl⟩

/-- The errors of a case. -/
def okLens (c : Cs) : Bool := decide (c.eye.length = 3) && c.eye.all (fun r => decide (r.length = c.lamp.length))
def okRgs (c : Cs) : Bool := c.lamp.all (rgOk 100) && c.eye.all (fun r => r.all (rgOk 100))
def okCase (c : Cs) : Int := if c.lamp.length = 0 ∨ 8 < c.lamp.length then 6 else if okLens c then (if okRgs c then 0 else 2) else 15
structure OkC (c : Cs) : Prop where
  n1 : 0 < c.lamp.length
  n8 : c.lamp.length ≤ 8
  e3 : c.eye.length = 3
  er : ∀ r ∈ c.eye, r.length = c.lamp.length
  lr : ∀ r ∈ c.lamp, rgOk 100 r = true
  rr : ∀ l ∈ c.eye, ∀ r ∈ l, rgOk 100 r = true
theorem okLens_iff (c : Cs) : okLens c = true ↔ c.eye.length = 3 ∧ ∀ r ∈ c.eye, r.length = c.lamp.length := by
  simp [okLens]
theorem okRgs_iff (c : Cs) : okRgs c = true ↔ (∀ r ∈ c.lamp, rgOk 100 r = true) ∧ ∀ l ∈ c.eye, ∀ r ∈ l, rgOk 100 r = true := by
  simp [okRgs]
theorem okCase_iff (c : Cs) : okCase c = 0 ↔ OkC c := by
  unfold okCase
  constructor
  · intro h
    by_cases h1 : c.lamp.length = 0 ∨ 8 < c.lamp.length
    · rw [if_pos h1] at h; cases h
    rw [if_neg h1] at h
    by_cases h2 : okLens c = true
    · rw [if_pos h2] at h
      by_cases h3 : okRgs c = true
      · exact ⟨by omega, by omega, ((okLens_iff c).1 h2).1, ((okLens_iff c).1 h2).2, ((okRgs_iff c).1 h3).1, ((okRgs_iff c).1 h3).2⟩
      · rw [if_neg h3] at h; cases h
    · rw [if_neg h2] at h; cases h
  · intro h
    have h1 : ¬ (c.lamp.length = 0 ∨ 8 < c.lamp.length) := by have := h.n1; have := h.n8; omega
    have h2 := (okLens_iff c).2 ⟨h.e3, h.er⟩
    have h3 := (okRgs_iff c).2 ⟨h.lr, h.rr⟩
    rw [if_neg h1, if_pos h2, if_pos h3]
theorem nn (i : Nat) : (0 ≤ (i : Int)) = True := by simp
theorem okCase_6 {c : Cs} (h : c.lamp.length = 0 ∨ 8 < c.lamp.length) : okCase c = 6 := by simp only [okCase, if_pos h]
theorem okCase_15 {c : Cs} (h : ¬ (c.lamp.length = 0 ∨ 8 < c.lamp.length)) (h2 : okLens c = false) : okCase c = 15 := by simp only [okCase, if_neg h, h2, Bool.false_eq_true, if_false]
theorem okCase_r {c : Cs} (h : ¬ (c.lamp.length = 0 ∨ 8 < c.lamp.length)) (h2 : okLens c = true) : okCase c = if okRgs c then 0 else 2 := by simp only [okCase, if_neg h, if_pos h2]
theorem all_take_succ {α : Type} {l : List α} {p : α → Bool} {i : Nat} {x : α} (h : l[i]? = some x) : (l.take (i + 1)).all p = ((l.take i).all p && p x) := by
  rw [take_succ_eq h, List.all_append]; simp
theorem all_of_take {α : Type} {l : List α} {p : α → Bool} {i : Nat} (h : l.length ≤ i) : (l.take i).all p = l.all p := by rw [List.take_of_length_le h]

set_option maxHeartbeats 4000000 in
theorem checkCase20 (c : Cs) : Pure Try.prog 20 [csV c] (I (okCase c)) := by
  refine pure_wkE (bad := []) (kp := kp20) (X := tx) (nt := 44) (rs := [.tmp 2]) Try.func20 rfl rfl rfl rfl mo (by kernel_rfl) rfl rfl (fun hf => ?_)
  have hfit := fit_cs (hf (csV c) (by simp))
  by_cases h0 : c.lamp.length = 0
  · have h0' : (c.lamp.length : Int) = 0 := by omega
    have e := okCase_6 (Or.inl h0)
    simp (maxSteps := 2000000) only [go_sem, reduceIte, Nat.reduceEqDiff, Nat.reduceAdd, Nat.reduceBEq, lk20, lk21, lk56, lk58, lk78, lk51, csV, csC, h0', e]
  have h0' : ¬ (c.lamp.length : Int) = 0 := by omega
  by_cases h8 : 8 < c.lamp.length
  · have h8' : (8 : Int) < c.lamp.length := by omega
    have e := okCase_6 (Or.inr h8)
    simp (maxSteps := 2000000) only [go_sem, reduceIte, Nat.reduceEqDiff, Nat.reduceAdd, Nat.reduceBEq, lk20, lk21, lk56, lk58, lk78, lk51, csV, csC, h0', h8', e]
  have h8' : ¬ (8 : Int) < c.lamp.length := by omega
  have hn : ¬ (c.lamp.length = 0 ∨ 8 < c.lamp.length) := by omega
  by_cases h3 : c.eye.length = 3
  case neg =>
    have h3' : ¬ (c.eye.length : Int) = 3 := by omega
    have e := okCase_15 hn (by simp [okLens, h3])
    simp (maxSteps := 2000000) only [go_sem, reduceIte, Nat.reduceEqDiff, Nat.reduceAdd, Nat.reduceLeDiff, Nat.reduceBEq, lk20, lk21, lk56, lk58, lk78, lk51, csV, csC, h0', h8', h3', e]
  have h3' : (c.eye.length : Int) = 3 := by omega
  simp (maxSteps := 2000000) only [go_sem, reduceIte, Nat.reduceEqDiff, Nat.reduceAdd, Nat.reduceLeDiff, Nat.reduceBEq, lk20, lk21, lk56, lk58, lk78, lk51, csV, csC, h0', h8', h3']
  refine aops_at (has60 c.eye 61 [.ptr 1 0] (fun r => !decide ((r.length : Int) = c.lamp.length)) [.cells (csC c), .cells [.d (.int .i64 c.lamp.length)]] rfl rfl (fun x _ => len61 c.lamp.length x _ 1 rfl rfl)) rfl rfl (by first | exact wk_refls _ | (repeat constructor)) ?_
  simp (maxSteps := 2000000) only [go_sem, reduceIte, Nat.reduceEqDiff, lk20, lk21, lk56, lk58, lk78, lk51, csC]
  have eany : c.eye.any (fun r => !decide ((r.length : Int) = c.lamp.length)) = !okLens c := by
    rw [Bool.eq_iff_iff]; simp [okLens, h3]; constructor <;> (rintro ⟨x, hx, h⟩; exact ⟨x, hx, by omega⟩)
  rw [eany]
  cases hl : okLens c with
  | false =>
    have e := okCase_15 hn hl
    simp (maxSteps := 2000000) only [go_sem, reduceIte, Nat.reduceEqDiff, Nat.reduceAdd, lk20, lk21, lk56, lk58, lk78, lk51, e]
  | true =>
  have e := okCase_r hn hl
  simp (maxSteps := 2000000) only [go_sem, reduceIte, Nat.reduceEqDiff, Nat.reduceAdd, Nat.reduceBEq, lk20, lk21, lk56, lk58, lk78, lk51, csC]
  refine aops_pure' (known62 100 c.lamp) rfl rfl (by first | exact wk_refls _ | (repeat constructor)) ?_
  simp (maxSteps := 2000000) only [go_sem, reduceIte, Nat.reduceEqDiff, Nat.reduceAdd, Nat.reduceLeDiff, Nat.reduceBEq, lk20, lk21, lk56, lk58, lk78, lk51, csC]
  refine goE_loop (bad := []) (kp := kp20) (fun i : Nat => { slots := [(4, B (c.lamp.all (rgOk 100) && (c.eye.take i).all (fun r => r.all (rgOk 100)))), (30, rgss c.eye), (31, I c.eye.length), (32, I i)], heap := [], marks := [] }) (fun i => i ≤ c.eye.length) (fun i => c.eye.length - i) 0 mo (by kernel_rfl) ?_ (Nat.zero_le _) ?_
  · refine ent_weaken [.cells (csC c), .cells [.d (.int .i64 c.lamp.length)]] rfl rfl (Nat.zero_le _) rfl rfl ?_
    simp (maxSteps := 2000000) only [go_sem, reduceIte, Nat.reduceEqDiff, lk20, lk21, lk56, lk58, lk78, lk51, List.take_zero, List.all_nil, Bool.and_true, h3', rgss]
    all_goals first | exact .refl _ | exact ⟨.refl _, .refl _⟩ | exact ⟨.refl _, .refl _, .refl _⟩ | exact ⟨.refl _, _, rfl⟩ | exact ⟨_, rfl⟩ | exact ⟨.refl _, [], by simp⟩ | exact ⟨[], by simp⟩
  rintro i hi
  simp (maxSteps := 2000000) only [go_sem, reduceIte, Nat.reduceEqDiff, Nat.reduceAdd, lk20, lk21, lk56, lk58, lk78, lk51, rgss]
  refine goE_if (fun h => ?_) (fun h => ?_)
  · have hlt : i < c.eye.length := by simpa using h
    obtain ⟨x, hx⟩ := get_of_lt hlt
    cases hg : (c.lamp.all (rgOk 100) && (c.eye.take i).all (fun r => r.all (rgOk 100))) with
    | true =>
      simp (maxSteps := 2000000) only [go_sem, reduceIte, Nat.reduceEqDiff, Nat.reduceAdd, lk20, lk21, lk56, lk58, lk78, lk51, hx, rowR, bnd hlt]
      refine aops_pure' (known62 100 x) rfl rfl (by first | exact wk_refls _ | (repeat constructor)) ?_
      simp (maxSteps := 2000000) only [go_sem, reduceIte, Nat.reduceEqDiff, lk20, lk21, lk56, lk58, lk78, lk51, wr_succ hlt hfit.1]
      refine ⟨i + 1, hlt, by omega, ?_⟩
      refine ent_weaken [] rfl rfl (Nat.zero_le _) rfl rfl ?_
      have e2 := all_take_succ (p := fun r : List Rg => r.all (rgOk 100)) hx
      rw [e2, ← Bool.and_assoc, hg]
      simp (maxSteps := 2000000) only [go_sem, reduceIte, Nat.reduceEqDiff, lk20, lk21, lk56, lk58, lk78, lk51]
    | false =>
      simp (maxSteps := 2000000) only [go_sem, reduceIte, Nat.reduceEqDiff, Nat.reduceAdd, lk20, lk21, lk56, lk58, lk78, lk51, hx, rowR, bnd hlt, wr_succ hlt hfit.1]
      refine ⟨i + 1, hlt, by omega, ?_⟩
      refine ent_weaken [] rfl rfl (Nat.zero_le _) rfl rfl ?_
      have e2 := all_take_succ (p := fun r : List Rg => r.all (rgOk 100)) hx
      rw [e2, ← Bool.and_assoc, hg]
      simp (maxSteps := 2000000) only [go_sem, reduceIte, Nat.reduceEqDiff, lk20, lk21, lk56, lk58, lk78, lk51]
  · have hi2 : c.eye.length ≤ i := by simpa using h
    rw [all_of_take hi2]
    have e3 : (c.lamp.all (rgOk 100) && c.eye.all (fun r => r.all (rgOk 100))) = okRgs c := rfl
    rw [e3]
    cases hr : okRgs c with
    | true =>
      have e4 : okCase c = 0 := by rw [e, hr]; rfl
      simp (maxSteps := 2000000) only [go_sem, reduceIte, Nat.reduceEqDiff, Nat.reduceAdd, lk20, lk21, lk56, lk58, lk78, lk51, e4]
    | false =>
      have e4 : okCase c = 2 := by rw [e, hr]; rfl
      simp (maxSteps := 2000000) only [go_sem, reduceIte, Nat.reduceEqDiff, Nat.reduceAdd, lk20, lk21, lk56, lk58, lk78, lk51, e4]

theorem okLens_bad {c : Cs} {i : Nat} {x : List Rg} (hx : c.eye[i]? = some x) (h : ¬ x.length = c.lamp.length) : okLens c = false := by
  rw [← Bool.not_eq_true, okLens_iff]; rintro ⟨_, h2⟩; exact h (h2 x (List.mem_of_getElem? hx))
theorem okRgs_lamp {c : Cs} {i : Nat} {x : Rg} (hx : c.lamp[i]? = some x) (h : rgOk 100 x = false) : okRgs c = false := by
  rw [← Bool.not_eq_true, okRgs_iff]; rintro ⟨h2, _⟩; rw [h2 x (List.mem_of_getElem? hx)] at h; cases h
theorem okRgs_eye {c : Cs} {i j : Nat} {l : List Rg} {x : Rg} (hl : c.eye[i]? = some l) (hx : l[j]? = some x) (h : rgOk 100 x = false) : okRgs c = false := by
  rw [← Bool.not_eq_true, okRgs_iff]; rintro ⟨_, h2⟩; rw [h2 l (List.mem_of_getElem? hl) x (List.mem_of_getElem? hx)] at h; cases h

set_option maxHeartbeats 4000000 in
theorem checkCase21 (c : Cs) : Pure Try.prog 21 [csV c] (I (okCase c)) := by
  refine pure_wkE (bad := []) (kp := kp21) (X := tx) (nt := 58) (rs := [.tmp 2]) Try.func21 rfl rfl rfl rfl mo (by kernel_rfl) rfl rfl (fun hf => ?_)
  have hfit := fit_cs (hf (csV c) (by simp))
  by_cases h0 : c.lamp.length = 0
  · have h0' : (c.lamp.length : Int) < 1 := by omega
    have e := okCase_6 (Or.inl h0)
    simp (maxSteps := 2000000) only [go_sem, reduceIte, Nat.reduceEqDiff, Nat.reduceAdd, Nat.reduceBEq, lk20, lk21, lk56, lk58, lk78, lk51, csV, csC, h0', e]
  have h0' : ¬ (c.lamp.length : Int) < 1 := by omega
  by_cases h8 : 8 < c.lamp.length
  · have h8' : (8 : Int) < c.lamp.length := by omega
    have e := okCase_6 (Or.inr h8)
    simp (maxSteps := 2000000) only [go_sem, reduceIte, Nat.reduceEqDiff, Nat.reduceAdd, Nat.reduceBEq, lk20, lk21, lk56, lk58, lk78, lk51, csV, csC, h0', h8', e]
  have h8' : ¬ (8 : Int) < c.lamp.length := by omega
  have hn : ¬ (c.lamp.length = 0 ∨ 8 < c.lamp.length) := by omega
  by_cases h3 : c.eye.length = 3
  case neg =>
    have h3' : ¬ (c.eye.length : Int) = 3 := by omega
    have e := okCase_15 hn (by simp [okLens, h3])
    simp (maxSteps := 2000000) only [go_sem, reduceIte, Nat.reduceEqDiff, Nat.reduceAdd, Nat.reduceLeDiff, Nat.reduceBEq, lk20, lk21, lk56, lk58, lk78, lk51, csV, csC, h0', h8', h3', e]
  have h3' : (c.eye.length : Int) = 3 := by omega
  simp (maxSteps := 2000000) only [go_sem, reduceIte, Nat.reduceEqDiff, Nat.reduceAdd, Nat.reduceLeDiff, Nat.reduceBEq, lk20, lk21, lk56, lk58, lk78, lk51, csV, csC, h0', h8', h3']
  refine goE_loop (bad := []) (kp := kp21) (fun i : Nat => { slots := [(1, .c (.ptr 0 0)), (3, I c.lamp.length), (4, I i)], heap := [.cells (csC c)], marks := [] }) (fun i => i ≤ 3 ∧ ∀ j x, j < i → c.eye[j]? = some x → x.length = c.lamp.length) (fun i => 3 - i) 0 mo (by kernel_rfl) ?_ ⟨Nat.zero_le _, by intro j r h; omega⟩ ?_
  · refine ent_weaken [] rfl rfl (Nat.zero_le _) rfl rfl ?_
    simp (maxSteps := 2000000) only [go_sem, reduceIte, Nat.reduceEqDiff, Nat.reduceLT, lk20, lk21, lk56, lk58, lk78, lk51, csC]
    all_goals first | exact .refl _ | exact ⟨.refl _, .refl _⟩ | exact ⟨.refl _, .refl _, .refl _⟩ | exact ⟨.refl _, _, rfl⟩ | exact ⟨_, rfl⟩ | exact ⟨.refl _, [], by simp⟩ | exact ⟨[], by simp⟩
  rintro i ⟨hi, hall⟩
  simp (maxSteps := 2000000) only [go_sem, reduceIte, Nat.reduceEqDiff, Nat.reduceAdd, lk20, lk21, lk56, lk58, lk78, lk51, csC]
  by_cases hlt : i < 3
  · have hlt' : (i : Int) < 3 := by omega
    obtain ⟨x, hx⟩ := get_of_lt (show i < c.eye.length by omega)
    simp (maxSteps := 2000000) only [go_sem, reduceIte, Nat.reduceEqDiff, Nat.reduceAdd, Nat.reduceLeDiff, Nat.reduceBEq, lk20, lk21, lk56, lk58, lk78, lk51, hx, rowR, bnd (show i < c.eye.length by omega), hlt']
    by_cases hxl : x.length = c.lamp.length
    · have hxl' : (x.length : Int) = c.lamp.length := by omega
      have w : wr .i64 ((i : Int) + 1) = ((i + 1 : Nat) : Int) := wr_succ hlt (by omega)
      simp (maxSteps := 2000000) only [go_sem, reduceIte, Nat.reduceEqDiff, Nat.reduceAdd, lk20, lk21, lk56, lk58, lk78, lk51, hxl', w]
      refine ⟨i + 1, ⟨hlt, upto_succ hall hx hxl⟩, by omega, ?_⟩
      refine ent_weaken [] rfl rfl (Nat.zero_le _) rfl rfl ?_
      simp (maxSteps := 2000000) only [go_sem, reduceIte, Nat.reduceEqDiff, Nat.reduceLT, lk20, lk21, lk56, lk58, lk78, lk51]
    · have hxl' : ¬ (x.length : Int) = c.lamp.length := by omega
      have e := okCase_15 hn (okLens_bad hx hxl)
      simp (maxSteps := 2000000) only [go_sem, reduceIte, Nat.reduceEqDiff, Nat.reduceAdd, lk20, lk21, lk56, lk58, lk78, lk51, hxl', e]
  have hlt' : ¬ (i : Int) < 3 := by omega
  have hl : okLens c = true := (okLens_iff c).2 ⟨h3, fun r hr => by
    obtain ⟨j, hj⟩ := List.getElem?_of_mem hr
    exact hall j r (by have := (List.getElem?_eq_some_iff.1 hj).1; omega) hj⟩
  have e := okCase_r hn hl
  have her := ((okLens_iff c).1 hl).2
  clear hall
  simp (maxSteps := 2000000) only [go_sem, reduceIte, Nat.reduceEqDiff, Nat.reduceAdd, lk20, lk21, lk56, lk58, lk78, lk51, hlt']
  refine goE_loop (bad := []) (kp := kp21) (fun b : Nat => { slots := [(1, .c (.ptr 0 0)), (3, I c.lamp.length), (5, I b)], heap := [.cells (csC c)], marks := [] }) (fun b => b ≤ c.lamp.length ∧ (∀ j x, j < b → c.lamp[j]? = some x → rgOk 100 x = true) ∧ ∀ (l : List Rg), l ∈ c.eye → ∀ (j : Nat) (x : Rg), j < b → l[j]? = some x → rgOk 100 x = true) (fun b => c.lamp.length - b) 0 mo (by kernel_rfl) ?_ ⟨Nat.zero_le _, by intro j r h; omega, by intro l _ j r h; omega⟩ ?_
  · refine ent_weaken [] rfl rfl (Nat.zero_le _) rfl rfl ?_
    simp (maxSteps := 2000000) only [go_sem, reduceIte, Nat.reduceEqDiff, Nat.reduceLT, lk20, lk21, lk56, lk58, lk78, lk51, csC]
    all_goals first | exact .refl _ | exact ⟨.refl _, .refl _⟩ | exact ⟨.refl _, .refl _, .refl _⟩ | exact ⟨.refl _, _, rfl⟩ | exact ⟨_, rfl⟩ | exact ⟨.refl _, [], by simp⟩ | exact ⟨[], by simp⟩
  rintro b ⟨hb, hlb, heb⟩
  simp (maxSteps := 2000000) only [go_sem, reduceIte, Nat.reduceEqDiff, Nat.reduceAdd, lk20, lk21, lk56, lk58, lk78, lk51, csC]
  refine goE_if (fun h => ?_) (fun h => ?_)
  · have hbl : b < c.lamp.length := by simpa using h
    clear h
    obtain ⟨y, hy⟩ := get_of_lt hbl
    simp (maxSteps := 2000000) only [go_sem, reduceIte, Nat.reduceEqDiff, Nat.reduceAdd, Nat.reduceBEq, lk20, lk21, lk56, lk58, lk78, lk51, hy, rgD, bnd hbl]
    refine aops_pure' (valid63 100 y) rfl rfl (by first | exact wk_refls _ | (repeat constructor)) ?_
    simp (maxSteps := 2000000) only [go_sem, reduceIte, Nat.reduceEqDiff, lk20, lk21, lk56, lk58, lk78, lk51]
    cases hyo : rgOk 100 y with
    | false =>
      have e4 : okCase c = 2 := by rw [e, okRgs_lamp hy hyo]; rfl
      simp (maxSteps := 2000000) only [go_sem, reduceIte, Nat.reduceEqDiff, Nat.reduceAdd, lk20, lk21, lk56, lk58, lk78, lk51, e4]
    | true =>
    simp (maxSteps := 2000000) only [go_sem, reduceIte, Nat.reduceEqDiff, Nat.reduceAdd, lk20, lk21, lk56, lk58, lk78, lk51]
    refine goE_loop (bad := []) (kp := kp21) (fun i : Nat => { slots := [(1, .c (.ptr 0 0)), (3, I c.lamp.length), (5, I b), (6, I i)], heap := [.cells (csC c)], marks := [] }) (fun i => i ≤ 3 ∧ ∀ j l, j < i → c.eye[j]? = some l → ∀ x, l[b]? = some x → rgOk 100 x = true) (fun i => 3 - i) 0 mo (by kernel_rfl) ?_ ⟨Nat.zero_le _, by intro j r h; omega⟩ ?_
    · refine ent_weaken [] rfl rfl (Nat.zero_le _) rfl rfl ?_
      simp (maxSteps := 2000000) only [go_sem, reduceIte, Nat.reduceEqDiff, Nat.reduceLT, lk20, lk21, lk56, lk58, lk78, lk51, csC]
      all_goals first | exact .refl _ | exact ⟨.refl _, .refl _⟩ | exact ⟨.refl _, .refl _, .refl _⟩ | exact ⟨.refl _, _, rfl⟩ | exact ⟨_, rfl⟩ | exact ⟨.refl _, [], by simp⟩ | exact ⟨[], by simp⟩
    rintro i ⟨hi, hall⟩
    simp (maxSteps := 2000000) only [go_sem, reduceIte, Nat.reduceEqDiff, Nat.reduceAdd, lk20, lk21, lk56, lk58, lk78, lk51, csC]
    by_cases hlt : i < 3
    · have hlt' : (i : Int) < 3 := by omega
      obtain ⟨l, hl2⟩ := get_of_lt (show i < c.eye.length by omega)
      have hll := her l (List.mem_of_getElem? hl2)
      obtain ⟨x, hx⟩ := get_of_lt (show b < l.length by omega)
      simp (maxSteps := 2000000) only [go_sem, reduceIte, Nat.reduceEqDiff, Nat.reduceAdd, Nat.reduceLeDiff, Nat.reduceBEq, lk20, lk21, lk56, lk58, lk78, lk51, hl2, hx, rowR, rgD, bnd (show i < c.eye.length by omega), bnd (show b < l.length by omega), hlt']
      refine aops_pure' (valid63 100 x) rfl rfl (by first | exact wk_refls _ | (repeat constructor)) ?_
      simp (maxSteps := 2000000) only [go_sem, reduceIte, Nat.reduceEqDiff, lk20, lk21, lk56, lk58, lk78, lk51]
      cases hxo : rgOk 100 x with
      | false =>
        have e4 : okCase c = 2 := by rw [e, okRgs_eye hl2 hx hxo]; rfl
        simp (maxSteps := 2000000) only [go_sem, reduceIte, Nat.reduceEqDiff, Nat.reduceAdd, lk20, lk21, lk56, lk58, lk78, lk51, e4]
      | true =>
      have w : wr .i64 ((i : Int) + 1) = ((i + 1 : Nat) : Int) := wr_succ hlt (by omega)
      simp (maxSteps := 2000000) only [go_sem, reduceIte, Nat.reduceEqDiff, Nat.reduceAdd, lk20, lk21, lk56, lk58, lk78, lk51, w]
      refine ⟨i + 1, ⟨hlt, upto_succ (P := fun l : List Rg => ∀ x, l[b]? = some x → rgOk 100 x = true) hall hl2 (fun z hz => by rw [hx] at hz; cases hz; exact hxo)⟩, by omega, ?_⟩
      refine ent_weaken [] rfl rfl (Nat.zero_le _) rfl rfl ?_
      simp (maxSteps := 2000000) only [go_sem, reduceIte, Nat.reduceEqDiff, Nat.reduceLT, lk20, lk21, lk56, lk58, lk78, lk51]
    · have hlt2' : ¬ (i : Int) < 3 := by omega
      have hi3 : i = 3 := by omega
      simp (maxSteps := 2000000) only [go_sem, reduceIte, Nat.reduceEqDiff, Nat.reduceAdd, lk20, lk21, lk56, lk58, lk78, lk51, hlt2', wr_succ hbl hfit.2]
      refine ⟨b + 1, ⟨hbl, upto_succ hlb hy hyo, fun l hl3 => ?_⟩, by omega, ?_⟩
      · intro j x hj hx
        rcases Nat.lt_succ_iff_lt_or_eq.1 hj with h1 | h1
        · exact heb l hl3 j x h1 hx
        · obtain ⟨k, hk⟩ := List.getElem?_of_mem hl3
          rw [h1] at hx
          exact hall k l (by have := (List.getElem?_eq_some_iff.1 hk).1; omega) hk x hx
      · refine ent_weaken [] rfl rfl (Nat.zero_le _) rfl rfl ?_
        simp (maxSteps := 2000000) only [go_sem, reduceIte, Nat.reduceEqDiff, Nat.reduceLT, lk20, lk21, lk56, lk58, lk78, lk51]
  · have hbl : c.lamp.length ≤ b := by simpa using h
    have e4 : okCase c = 0 := by
      rw [e, (okRgs_iff c).2 ⟨fun r hr => ?_, fun l hl3 r hr => ?_⟩]; rfl
      · obtain ⟨j, hj⟩ := List.getElem?_of_mem hr
        exact hlb j r (by have := (List.getElem?_eq_some_iff.1 hj).1; omega) hj
      · obtain ⟨j, hj⟩ := List.getElem?_of_mem hr
        exact heb l hl3 j r (by have := (List.getElem?_eq_some_iff.1 hj).1; have := her l hl3; omega) hj
    simp (maxSteps := 2000000) only [go_sem, reduceIte, Nat.reduceEqDiff, Nat.reduceAdd, lk20, lk21, lk56, lk58, lk78, lk51, e4]

/-- The errors of a chip. -/
def okChip (c : Cs) (l : List Int) : Int := if l.length = c.lamp.length then (if inR 0 1000 l then 0 else 2) else 15
theorem okChip_iff (c : Cs) (l : List Int) : okChip c l = 0 ↔ l.length = c.lamp.length ∧ ∀ x ∈ l, 0 ≤ x ∧ x ≤ 1000 := by
  unfold okChip
  by_cases h : l.length = c.lamp.length
  · rw [if_pos h]
    by_cases h2 : inR 0 1000 l = true
    · simp only [h2, if_true, h, true_and, true_iff]; exact (inR_iff _ _ _).1 h2
    · have h3 := h2; rw [inR_iff] at h3; simp only [h2, h, true_and]; simp only [Bool.false_eq_true, if_false]; constructor
      · intro h; cases h
      · intro h; exact absurd h h3
  · simp [h]
theorem okChip_cases (c : Cs) (l : List Int) : okChip c l = 0 ∨ okChip c l = 2 ∨ okChip c l = 15 := by
  unfold okChip; split; split <;> simp; simp
set_option maxHeartbeats 1000000 in
theorem check78 (c : Cs) (l : List Int) : Pure Try.prog 78 [csV c, ints l] (I (okChip c l)) := by
  refine pure_wkE (bad := []) (kp := kp78) (X := tx) (nt := 17) (rs := [.tmp 4]) Try.func78 rfl rfl rfl rfl mo (by kernel_rfl) rfl rfl (fun hf => ?_)
  by_cases h : l.length = c.lamp.length
  · have h' : (l.length : Int) = c.lamp.length := by omega
    have e : okChip c l = if inR 0 1000 l then 0 else 2 := by simp only [okChip, if_pos h]
    simp (maxSteps := 2000000) only [go_sem, reduceIte, Nat.reduceEqDiff, Nat.reduceAdd, Nat.reduceBEq, lk20, lk21, lk56, lk58, lk78, lk51, csV, csC, ints, h']
    refine aops_pure' (within73 0 1000 l) rfl rfl (by first | exact wk_refls _ | (repeat constructor)) ?_
    simp (maxSteps := 2000000) only [go_sem, reduceIte, Nat.reduceEqDiff, lk20, lk21, lk56, lk58, lk78, lk51]
    cases hi : inR 0 1000 l with
    | true =>
      have e4 : okChip c l = 0 := by rw [e, hi]; rfl
      simp (maxSteps := 2000000) only [go_sem, reduceIte, Nat.reduceEqDiff, Nat.reduceAdd, lk20, lk21, lk56, lk58, lk78, lk51, e4]
    | false =>
      have e4 : okChip c l = 2 := by rw [e, hi]; rfl
      simp (maxSteps := 2000000) only [go_sem, reduceIte, Nat.reduceEqDiff, Nat.reduceAdd, lk20, lk21, lk56, lk58, lk78, lk51, e4]
  · have h' : ¬ (l.length : Int) = c.lamp.length := by omega
    have e : okChip c l = 15 := by simp only [okChip, if_neg h]
    simp (maxSteps := 2000000) only [go_sem, reduceIte, Nat.reduceEqDiff, Nat.reduceAdd, Nat.reduceBEq, lk20, lk21, lk56, lk58, lk78, lk51, csV, csC, ints, h', e]

set_option maxHeartbeats 2000000 in
theorem chip56 (c : Cs) (l : List Int) : Pure Try.prog 56 [csV c, ints l] (I (okChip c l)) := by
  refine pure_wkE (bad := []) (kp := kp56) (X := tx) (nt := 30) (rs := [.tmp 4]) Try.func56 rfl rfl rfl rfl mo (by kernel_rfl) rfl rfl (fun hf => ?_)
  have hfit := fit_ints (hf (ints l) (by simp))
  by_cases h : l.length = c.lamp.length
  case neg =>
    have h' : ¬ (l.length : Int) = c.lamp.length := by omega
    have e : okChip c l = 15 := by simp only [okChip, if_neg h]
    simp (maxSteps := 2000000) only [go_sem, reduceIte, Nat.reduceEqDiff, Nat.reduceAdd, Nat.reduceBEq, lk20, lk21, lk56, lk58, lk78, lk51, csV, csC, ints, h', e]
  have h' : (l.length : Int) = c.lamp.length := by omega
  have e : okChip c l = if inR 0 1000 l then 0 else 2 := by simp only [okChip, if_pos h]
  simp (maxSteps := 2000000) only [go_sem, reduceIte, Nat.reduceEqDiff, Nat.reduceAdd, Nat.reduceBEq, lk20, lk21, lk56, lk58, lk78, lk51, csV, csC, ints, h']
  refine goE_loop (bad := []) (kp := kp56) (fun i : Nat => { slots := [(1, ints l), (5, I i)], heap := [], marks := [] }) (fun i => i ≤ l.length ∧ ∀ j x, j < i → l[j]? = some x → (decide (x < 0) || decide (1000 < x)) = false) (fun i => l.length - i) 0 mo (by kernel_rfl) ?_ ⟨Nat.zero_le _, by intro j r h; omega⟩ ?_
  · refine ent_weaken [.cells (csC c)] rfl rfl (Nat.zero_le _) rfl rfl ?_
    simp (maxSteps := 2000000) only [go_sem, reduceIte, Nat.reduceEqDiff, lk20, lk21, lk56, lk58, lk78, lk51, ints]
    all_goals first | exact .refl _ | exact ⟨.refl _, .refl _⟩ | exact ⟨.refl _, .refl _, .refl _⟩ | exact ⟨.refl _, _, rfl⟩ | exact ⟨_, rfl⟩ | exact ⟨.refl _, [], by simp⟩ | exact ⟨[], by simp⟩
  rintro i ⟨hi, hall⟩
  simp (maxSteps := 2000000) only [go_sem, reduceIte, Nat.reduceEqDiff, Nat.reduceAdd, lk20, lk21, lk56, lk58, lk78, lk51, ints]
  by_cases hlt : i < l.length
  · have hlt' : (i : Int) < l.length := by omega
    obtain ⟨x, hx⟩ := get_of_lt hlt
    by_cases h1 : x < 0
    · have hin : inR 0 1000 l = false := by
        have := any_of_get (p := fun n : Int => decide (n < 0) || decide (1000 < n)) hx (by simp [h1])
        simp only [inR, this, Bool.not_true]
      have e4 : okChip c l = 2 := by rw [e, hin]; rfl
      simp (maxSteps := 2000000) only [go_sem, reduceIte, Nat.reduceEqDiff, Nat.reduceAdd, lk20, lk21, lk56, lk58, lk78, lk51, hlt', hx, iD, nn, h1, e4]
    by_cases h2 : 1000 < x
    · have hin : inR 0 1000 l = false := by
        have := any_of_get (p := fun n : Int => decide (n < 0) || decide (1000 < n)) hx (by simp [h2])
        simp only [inR, this, Bool.not_true]
      have e4 : okChip c l = 2 := by rw [e, hin]; rfl
      simp (maxSteps := 2000000) only [go_sem, reduceIte, Nat.reduceEqDiff, Nat.reduceAdd, lk20, lk21, lk56, lk58, lk78, lk51, hlt', hx, iD, nn, h1, h2, e4]
    simp (maxSteps := 2000000) only [go_sem, reduceIte, Nat.reduceEqDiff, Nat.reduceAdd, lk20, lk21, lk56, lk58, lk78, lk51, hlt', hx, iD, nn, h1, h2, wr_succ hlt hfit]
    refine ⟨i + 1, ⟨hlt, upto_succ hall hx (by simp [h1, h2])⟩, by omega, ?_⟩
    refine ent_weaken [] rfl rfl (Nat.zero_le _) rfl rfl ?_
    simp (maxSteps := 2000000) only [go_sem, reduceIte, Nat.reduceEqDiff, lk20, lk21, lk56, lk58, lk78, lk51]
  · have hlt' : ¬ (i : Int) < l.length := by omega
    have hin : inR 0 1000 l = true := by
      have := any_none (l := l) (p := fun n : Int => decide (n < 0) || decide (1000 < n)) (fun j x hj hx => hall j x (by omega) hx)
      simp only [inR, this, Bool.not_false]
    have e4 : okChip c l = 0 := by rw [e, hin]; rfl
    simp (maxSteps := 2000000) only [go_sem, reduceIte, Nat.reduceEqDiff, Nat.reduceAdd, lk20, lk21, lk56, lk58, lk78, lk51, hlt', e4]

/-- The errors of a case and two chips. -/
def okChips (c : Cs) (a b : List Int) : Int := if okCase c = 0 then (if okChip c a = 0 then okChip c b else okChip c a) else okCase c
set_option maxHeartbeats 1000000 in
theorem chips58 (c : Cs) (a b : List Int) : Pure Try.prog 58 [csV c, ints a, ints b] (I (okChips c a b)) := by
  refine pure_wkE (bad := []) (kp := kp58) (X := tx) (nt := 22) (rs := [.tmp 6]) Try.func58 rfl rfl rfl rfl mo (by kernel_rfl) rfl rfl (fun hf => ?_)
  simp (maxSteps := 2000000) only [go_sem, reduceIte, Nat.reduceEqDiff, Nat.reduceAdd, lk20, lk21, lk56, lk58, lk78, lk51, csV, csC, ints]
  refine aops_pure' (checkCase21 c) rfl rfl (by first | exact wk_refls _ | (repeat constructor)) ?_
  by_cases h : okCase c = 0
  · simp (maxSteps := 2000000) only [go_sem, reduceIte, Nat.reduceEqDiff, Nat.reduceAdd, lk20, lk21, lk56, lk58, lk78, lk51, h, csC]
    refine aops_pure' (chip56 c a) rfl rfl (by first | exact wk_refls _ | (repeat constructor)) ?_
    by_cases h2 : okChip c a = 0
    · simp (maxSteps := 2000000) only [go_sem, reduceIte, Nat.reduceEqDiff, Nat.reduceAdd, lk20, lk21, lk56, lk58, lk78, lk51, h2, csC]
      refine aops_pure' (chip56 c b) rfl rfl (by first | exact wk_refls _ | (repeat constructor)) ?_
      have e : okChips c a b = okChip c b := by simp only [okChips, h, h2, if_true]
      simp (maxSteps := 2000000) only [go_sem, reduceIte, Nat.reduceEqDiff, lk20, lk21, lk56, lk58, lk78, lk51, e]
    · simp (maxSteps := 2000000) only [go_sem, reduceIte, Nat.reduceEqDiff, Nat.reduceAdd, lk20, lk21, lk56, lk58, lk78, lk51, h2, csC]
      refine aops_pure' (chip56 c a) rfl rfl (by first | exact wk_refls _ | (repeat constructor)) ?_
      have e : okChips c a b = okChip c a := by simp only [okChips, h, h2, if_true, if_false]
      simp (maxSteps := 2000000) only [go_sem, reduceIte, Nat.reduceEqDiff, lk20, lk21, lk56, lk58, lk78, lk51, e]
  · simp (maxSteps := 2000000) only [go_sem, reduceIte, Nat.reduceEqDiff, Nat.reduceAdd, lk20, lk21, lk56, lk58, lk78, lk51, h, csC]
    refine aops_pure' (checkCase21 c) rfl rfl (by first | exact wk_refls _ | (repeat constructor)) ?_
    have e : okChips c a b = okCase c := by simp only [okChips, h, if_false]
    simp (maxSteps := 2000000) only [go_sem, reduceIte, Nat.reduceEqDiff, lk20, lk21, lk56, lk58, lk78, lk51, e]

/-- newMatcher: the first error. -/
def firstE (c : Cs) : List (List Int) → Int
  | [] => 0
  | x :: l => if okChip c x = 0 then firstE c l else okChip c x
def newE (c : Cs) (l : List (List Int)) : Int := if okCase c = 0 then firstE c l else okCase c
theorem firstE_at {c : Cs} : ∀ {l : List (List Int)} {i : Nat} {x : List Int}, (∀ (j : Nat) y, j < i → l[j]? = some y → okChip c y = 0) → l[i]? = some x → okChip c x ≠ 0 → firstE c l = okChip c x
  | y :: l, 0, x, _, hx, hp => by simp at hx; subst hx; simp only [firstE, if_neg hp]
  | y :: l, i + 1, x, h, hx, hp => by
    have h0 := h 0 y (by omega) rfl
    have ih := firstE_at (l := l) (i := i) (fun j z hj hz => h (j + 1) z (by omega) (by simpa using hz)) (by simpa using hx) hp
    simp only [firstE, h0, ih, if_true]
theorem firstE_none {c : Cs} : ∀ {l : List (List Int)}, (∀ (j : Nat) y, j < l.length → l[j]? = some y → okChip c y = 0) → firstE c l = 0
  | [], _ => rfl
  | y :: l, h => by
    have h0 := h 0 y (by simp) rfl
    have ih := firstE_none (l := l) (fun j z hj hz => h (j + 1) z (by simpa using hj) (by simpa using hz))
    simp only [firstE, h0, ih, if_true]

set_option maxHeartbeats 2000000 in
theorem new51 (c : Cs) (l : List (List Int)) : Pure Try.prog 51 [csV c, intss l] (.tup [csV c, I (newE c l)]) := by
  refine pure_wkE (bad := []) (kp := kp51) (X := tx) (nt := 37) (rs := [.cell 4 81, .tmp 5]) Try.func51 rfl rfl rfl rfl mo (by kernel_rfl) rfl rfl (fun hf => ?_)
  have hfit := fit_intss (hf (intss l) (by simp))
  simp (maxSteps := 2000000) only [go_sem, reduceIte, Nat.reduceEqDiff, Nat.reduceAdd, Nat.reduceBEq, lk20, lk21, lk56, lk58, lk78, lk51, csV, csC, intss]
  refine aops_pure' (checkCase20 c) rfl rfl (by first | exact wk_refls _ | (repeat constructor)) ?_
  by_cases h : okCase c = 0
  · simp (maxSteps := 2000000) only [go_sem, reduceIte, Nat.reduceEqDiff, Nat.reduceAdd, lk20, lk21, lk56, lk58, lk78, lk51, h, csC, List.isEmpty_cons]
    refine goE_loop (bad := []) (kp := kp51) (fun i : Nat => { slots := [(4, .c (.ptr 1 0)), (6, .c (.ptr 2 0)), (8, .c (.ma (.func 78) (csC c))), (22, intss l), (23, I l.length), (24, I i)], heap := [.cells (csC c), .cells [.full [], .full []], .cells (csC c)], marks := [] }) (fun i => i ≤ l.length ∧ ∀ j x, j < i → l[j]? = some x → okChip c x = 0) (fun i => l.length - i) 0 mo (by kernel_rfl) ?_ ⟨Nat.zero_le _, by intro j r h; omega⟩ ?_
    · refine ent_weaken [] rfl rfl (Nat.zero_le _) rfl rfl ?_
      simp (maxSteps := 2000000) only [go_sem, reduceIte, Nat.reduceEqDiff, Nat.reduceAdd, Nat.reduceLT, lk20, lk21, lk56, lk58, lk78, lk51, csC, intss]
      all_goals first | exact .refl _ | exact ⟨.refl _, .refl _⟩ | exact ⟨.refl _, .refl _, .refl _⟩ | exact ⟨.refl _, _, rfl⟩ | exact ⟨_, rfl⟩ | exact ⟨.refl _, [], by simp⟩ | exact ⟨[], by simp⟩
    rintro i ⟨hi, hall⟩
    simp (maxSteps := 2000000) only [go_sem, reduceIte, Nat.reduceEqDiff, Nat.reduceAdd, lk20, lk21, lk56, lk58, lk78, lk51, intss, csC]
    by_cases hlt : i < l.length
    · have hlt' : (i : Int) < l.length := by omega
      obtain ⟨x, hx⟩ := get_of_lt hlt
      simp (maxSteps := 2000000) only [go_sem, reduceIte, Nat.reduceEqDiff, Nat.reduceAdd, lk20, lk21, lk56, lk58, lk78, lk51, hlt', hx, rowI, nn]
      refine aops_pure' (check78 c x) rfl rfl (by first | exact wk_refls _ | (repeat constructor)) ?_
      by_cases h2 : okChip c x = 0
      · simp (maxSteps := 2000000) only [go_sem, reduceIte, Nat.reduceEqDiff, Nat.reduceAdd, lk20, lk21, lk56, lk58, lk78, lk51, h2, wr_succ hlt hfit]
        refine ⟨i + 1, ⟨hlt, upto_succ hall hx h2⟩, by omega, ?_⟩
        refine ent_weaken [] rfl rfl (Nat.zero_le _) rfl rfl ?_
        simp (maxSteps := 2000000) only [go_sem, reduceIte, Nat.reduceEqDiff, Nat.reduceAdd, Nat.reduceLT, lk20, lk21, lk56, lk58, lk78, lk51, csC]
        all_goals first | exact .refl _ | exact ⟨.refl _, .refl _⟩ | exact ⟨.refl _, .refl _, .refl _⟩ | exact ⟨.refl _, _, rfl⟩ | exact ⟨_, rfl⟩ | exact ⟨.refl _, [], by simp⟩ | exact ⟨[], by simp⟩
      · have e : newE c l = okChip c x := by simp only [newE, h, if_true, firstE_at hall hx h2]
        simp (maxSteps := 2000000) only [go_sem, reduceIte, Nat.reduceEqDiff, Nat.reduceAdd, lk20, lk21, lk56, lk58, lk78, lk51, h2, csC, e]
        all_goals first | exact .refl _ | exact ⟨.refl _, .refl _⟩ | exact ⟨.refl _, .refl _, .refl _⟩ | exact ⟨.refl _, _, rfl⟩ | exact ⟨_, rfl⟩ | exact ⟨.refl _, [], by simp⟩ | exact ⟨[], by simp⟩
    · have hlt' : ¬ (i : Int) < l.length := by omega
      have e2 := firstE_none (c := c) (l := l) (fun j y hj hy => hall j y (by omega) hy)
      have e : newE c l = 0 := by simp only [newE, h, if_true, e2]
      simp (maxSteps := 2000000) only [go_sem, reduceIte, Nat.reduceEqDiff, Nat.reduceAdd, lk20, lk21, lk56, lk58, lk78, lk51, hlt', csC, e]
      all_goals first | exact .refl _ | exact ⟨.refl _, .refl _⟩ | exact ⟨.refl _, .refl _, .refl _⟩ | exact ⟨.refl _, _, rfl⟩ | exact ⟨_, rfl⟩ | exact ⟨.refl _, [], by simp⟩ | exact ⟨[], by simp⟩
  · have e : newE c l = okCase c := by simp only [newE, h, if_false]
    simp (maxSteps := 2000000) only [go_sem, reduceIte, Nat.reduceEqDiff, Nat.reduceAdd, lk20, lk21, lk56, lk58, lk78, lk51, h, csC, e]
end Go.Proofs.Ytjkpfojkkfopmaa
