/- Metamers: palettes, and the spectra of sets of pigments. -/
import Derived.Test.YtjkpfojkkfopmaaM9
set_option linter.unusedSimpArgs false
set_option linter.unusedVariables false
set_option maxRecDepth 100000
namespace Go.Proofs.Ytjkpfojkkfopmaa
open Go Go.Abs Go.Proofs
def kp37 : List (Nat × List Nat) := [(0, [1]), (1, [1, 13]), (2, [2]), (3, [1, 3]), (4, [1, 3, 19]), (5, [2]), (6, [1, 26]), (7, [2]), (8, [31]), (9, [2]), (10, [2])]
theorem lk37 : lookK kp37 0 = some [1] ∧ lookK kp37 1 = some [1, 13] ∧ lookK kp37 2 = some [2] ∧ lookK kp37 3 = some [1, 3] ∧ lookK kp37 4 = some [1, 3, 19] ∧ lookK kp37 5 = some [2] ∧ lookK kp37 6 = some [1, 26] ∧ lookK kp37 7 = some [2] ∧ lookK kp37 8 = some [31] ∧ lookK kp37 9 = some [2] ∧ lookK kp37 10 = some [2] := ⟨rfl, rfl, rfl, rfl, rfl, rfl, rfl, rfl, rfl, rfl, rfl⟩
def kp38 : List (Nat × List Nat) := [(0, [1]), (1, [1, 31]), (2, [2]), (3, [1, 3]), (4, [1, 3, 36]), (5, [1, 3]), (6, [1, 3, 50]), (7, [2]), (8, [1, 58]), (9, [2]), (10, [1, 4]), (11, [1, 4, 63]), (12, [1, 4]), (13, [1, 4, 5]), (14, [1, 4, 5, 73]), (15, [1, 4, 5]), (16, [1, 4, 5, 95]), (17, [2]), (18, [2])]
theorem lk38 : lookK kp38 0 = some [1] ∧ lookK kp38 1 = some [1, 31] ∧ lookK kp38 2 = some [2] ∧ lookK kp38 3 = some [1, 3] ∧ lookK kp38 4 = some [1, 3, 36] ∧ lookK kp38 5 = some [1, 3] ∧ lookK kp38 6 = some [1, 3, 50] ∧ lookK kp38 7 = some [2] ∧ lookK kp38 8 = some [1, 58] ∧ lookK kp38 9 = some [2] ∧ lookK kp38 10 = some [1, 4] ∧ lookK kp38 11 = some [1, 4, 63] ∧ lookK kp38 12 = some [1, 4] ∧ lookK kp38 13 = some [1, 4, 5] ∧ lookK kp38 14 = some [1, 4, 5, 73] ∧ lookK kp38 15 = some [1, 4, 5] ∧ lookK kp38 16 = some [1, 4, 5, 95] ∧ lookK kp38 17 = some [2] ∧ lookK kp38 18 = some [2] := ⟨rfl, rfl, rfl, rfl, rfl, rfl, rfl, rfl, rfl, rfl, rfl, rfl, rfl, rfl, rfl, rfl, rfl, rfl, rfl⟩
def kp68 : List (Nat × List Nat) := [(0, [1]), (1, [2])]
theorem lk68 : lookK kp68 0 = some [1] ∧ lookK kp68 1 = some [2] := ⟨rfl, rfl⟩
def kp46 : List (Nat × List Nat) := [(0, [1, 2]), (1, [1, 2, 5]), (2, [1, 2, 5, 6]), (3, [1, 2, 5, 6, 18]), (4, [1, 2, 5, 6]), (5, [1, 2, 5, 6, 7]), (6, [1, 2, 5, 6, 7, 24]), (7, [1, 2, 5, 6, 7]), (8, [1, 2, 5, 6, 7, 31]), (9, [1, 2, 5, 6, 7]), (10, [4])]
theorem lk46 : lookK kp46 0 = some [1, 2] ∧ lookK kp46 1 = some [1, 2, 5] ∧ lookK kp46 2 = some [1, 2, 5, 6] ∧ lookK kp46 3 = some [1, 2, 5, 6, 18] ∧ lookK kp46 4 = some [1, 2, 5, 6] ∧ lookK kp46 5 = some [1, 2, 5, 6, 7] ∧ lookK kp46 6 = some [1, 2, 5, 6, 7, 24] ∧ lookK kp46 7 = some [1, 2, 5, 6, 7] ∧ lookK kp46 8 = some [1, 2, 5, 6, 7, 31] ∧ lookK kp46 9 = some [1, 2, 5, 6, 7] ∧ lookK kp46 10 = some [4] := ⟨rfl, rfl, rfl, rfl, rfl, rfl, rfl, rfl, rfl, rfl, rfl⟩

/-- The errors of a palette. -/
def Pal.n (p : Pal) : Nat := (p.pig.getD 0 []).length
def okLenP (p : Pal) : Bool := p.pig.all (fun r => decide (r.length = p.n))
def okValP (p : Pal) : Bool := decide (0 ≤ p.err ∧ p.err ≤ 100) && p.pig.all (inR 0 1000)
def okPal (p : Pal) : Int := if p.pig.length = 0 ∨ 12 < p.pig.length then 6 else if p.n = 0 ∨ 8 < p.n then 6 else if okLenP p then (if okValP p then 0 else 2) else 15
structure OkP (p : Pal) : Prop where
  k1 : 0 < p.pig.length
  k12 : p.pig.length ≤ 12
  n1 : 0 < p.n
  n8 : p.n ≤ 8
  row : ∀ r ∈ p.pig, r.length = p.n
  e0 : 0 ≤ p.err
  e1 : p.err ≤ 100
  v : ∀ r ∈ p.pig, ∀ x ∈ r, 0 ≤ x ∧ x ≤ 1000
theorem okLenP_iff (p : Pal) : okLenP p = true ↔ ∀ r ∈ p.pig, r.length = p.n := by simp [okLenP]
theorem okValP_iff (p : Pal) : okValP p = true ↔ (0 ≤ p.err ∧ p.err ≤ 100) ∧ ∀ r ∈ p.pig, ∀ x ∈ r, 0 ≤ x ∧ x ≤ 1000 := by
  simp only [okValP, Bool.and_eq_true, decide_eq_true_eq, List.all_eq_true]
  constructor
  · rintro ⟨h1, h2⟩; exact ⟨h1, fun r hr => (inR_iff _ _ _).1 (h2 r hr)⟩
  · rintro ⟨h1, h2⟩; exact ⟨h1, fun r hr => (inR_iff _ _ _).2 (h2 r hr)⟩
theorem okPal_iff (p : Pal) : okPal p = 0 ↔ OkP p := by
  unfold okPal
  constructor
  · intro h
    by_cases h1 : p.pig.length = 0 ∨ 12 < p.pig.length
    · rw [if_pos h1] at h; cases h
    rw [if_neg h1] at h
    by_cases h2 : p.n = 0 ∨ 8 < p.n
    · rw [if_pos h2] at h; cases h
    rw [if_neg h2] at h
    by_cases h3 : okLenP p = true
    · rw [if_pos h3] at h
      by_cases h4 : okValP p = true
      · obtain ⟨⟨a1, a2⟩, a3⟩ := (okValP_iff p).1 h4
        exact ⟨by omega, by omega, by omega, by omega, (okLenP_iff p).1 h3, a1, a2, a3⟩
      · rw [if_neg h4] at h; cases h
    · rw [if_neg h3] at h; cases h
  · intro h
    have h1 : ¬ (p.pig.length = 0 ∨ 12 < p.pig.length) := by have := h.k1; have := h.k12; omega
    have h2 : ¬ (p.n = 0 ∨ 8 < p.n) := by have := h.n1; have := h.n8; omega
    rw [if_neg h1, if_neg h2, if_pos ((okLenP_iff p).2 h.row), if_pos ((okValP_iff p).2 ⟨⟨h.e0, h.e1⟩, h.v⟩)]
theorem okPal_6a {p : Pal} (h : p.pig.length = 0 ∨ 12 < p.pig.length) : okPal p = 6 := by simp only [okPal, if_pos h]
theorem okPal_6b {p : Pal} (h : p.n = 0 ∨ 8 < p.n) : okPal p = 6 := by unfold okPal; split <;> simp only [if_pos h]
theorem okPal_15 {p : Pal} (h : ¬ (p.pig.length = 0 ∨ 12 < p.pig.length)) (h2 : ¬ (p.n = 0 ∨ 8 < p.n)) (h3 : okLenP p = false) : okPal p = 15 := by simp only [okPal, if_neg h, if_neg h2, h3, Bool.false_eq_true, if_false]
theorem okPal_r {p : Pal} (h : ¬ (p.pig.length = 0 ∨ 12 < p.pig.length)) (h2 : ¬ (p.n = 0 ∨ 8 < p.n)) (h3 : okLenP p = true) : okPal p = if okValP p then 0 else 2 := by simp only [okPal, if_neg h, if_neg h2, if_pos h3]
theorem pig0 {p : Pal} (h : ¬ (p.pig.length = 0 ∨ 12 < p.pig.length)) : p.pig[0]? = some (p.pig.getD 0 []) := by
  obtain ⟨x, hx⟩ := get_of_lt (show 0 < p.pig.length by omega)
  rw [getD_of hx, hx]

set_option maxHeartbeats 4000000 in
theorem checkPal37 (p : Pal) : Pure Try.prog 37 [palV p] (I (okPal p)) := by
  refine pure_wkE (bad := []) (kp := kp37) (X := tx) (nt := 42) (rs := [.tmp 2]) Try.func37 rfl rfl rfl rfl mo (by kernel_rfl) rfl rfl (fun hf => ?_)
  by_cases h0 : p.pig.length = 0
  · have h0' : (p.pig.length : Int) = 0 := by omega
    have e := okPal_6a (Or.inl h0)
    simp (maxSteps := 2000000) only [go_sem, reduceIte, Nat.reduceEqDiff, Nat.reduceAdd, Nat.reduceLeDiff, Nat.reduceBEq, lk37, lk38, lk68, lk46, palV, palC, h0', e]
  have h0' : ¬ (p.pig.length : Int) = 0 := by omega
  by_cases h12 : 12 < p.pig.length
  · have h12' : (12 : Int) < p.pig.length := by omega
    have e := okPal_6a (Or.inr h12)
    simp (maxSteps := 2000000) only [go_sem, reduceIte, Nat.reduceEqDiff, Nat.reduceAdd, Nat.reduceLeDiff, Nat.reduceBEq, lk37, lk38, lk68, lk46, palV, palC, h0', h12', e]
  have h12' : ¬ (12 : Int) < p.pig.length := by omega
  have hk : ¬ (p.pig.length = 0 ∨ 12 < p.pig.length) := by omega
  have g0 := pig0 hk
  have en : (p.pig.getD 0 []).length = p.n := rfl
  have k0 : (0 : Int) < p.pig.length := by omega
  by_cases hn0 : p.n = 0
  · have hn0' : (p.n : Int) = 0 := by omega
    have e := okPal_6b (Or.inl hn0)
    simp (maxSteps := 2000000) only [go_sem, reduceIte, Nat.reduceEqDiff, Nat.reduceAdd, Nat.reduceLeDiff, Nat.reduceBEq, Int.reduceLE, Int.reduceToNat, lk37, lk38, lk68, lk46, palV, palC, h0', h12', g0, rowI, k0, en, hn0', e]
  have hn0' : ¬ (p.n : Int) = 0 := by omega
  by_cases hn8 : 8 < p.n
  · have hn8' : (8 : Int) < p.n := by omega
    have e := okPal_6b (Or.inr hn8)
    simp (maxSteps := 2000000) only [go_sem, reduceIte, Nat.reduceEqDiff, Nat.reduceAdd, Nat.reduceLeDiff, Nat.reduceBEq, Int.reduceLE, Int.reduceToNat, lk37, lk38, lk68, lk46, palV, palC, h0', h12', g0, rowI, k0, en, hn0', hn8', e]
  have hn8' : ¬ (8 : Int) < p.n := by omega
  have hn : ¬ (p.n = 0 ∨ 8 < p.n) := by omega
  simp (maxSteps := 2000000) only [go_sem, reduceIte, Nat.reduceEqDiff, Nat.reduceAdd, Nat.reduceLeDiff, Nat.reduceBEq, Int.reduceLE, Int.reduceToNat, lk37, lk38, lk68, lk46, palV, palC, h0', h12', g0, rowI, k0, en, hn0', hn8']
  refine aops_at (has71 p.pig 72 [.ptr 1 0] (fun r => !decide ((r.length : Int) = p.n)) [.cells (palC p), .cells [.d (.int .i64 p.n)]] rfl rfl (fun x _ => len72 p.n x _ 1 rfl rfl)) rfl rfl (by first | exact wk_refls _ | (repeat constructor)) ?_
  have eany : p.pig.any (fun r => !decide ((r.length : Int) = p.n)) = !okLenP p := by
    rw [Bool.eq_iff_iff]; simp [okLenP]; constructor <;> (rintro ⟨x, hx, h⟩; exact ⟨x, hx, by omega⟩)
  rw [eany]
  cases hl : okLenP p with
  | false =>
    have e := okPal_15 hk hn hl
    simp (maxSteps := 2000000) only [go_sem, reduceIte, Nat.reduceEqDiff, Nat.reduceAdd, lk37, lk38, lk68, lk46, e]
  | true =>
  have e := okPal_r hk hn hl
  simp (maxSteps := 2000000) only [go_sem, reduceIte, Nat.reduceEqDiff, Nat.reduceAdd, Nat.reduceLeDiff, Nat.reduceBEq, Nat.reduceMul, lk37, lk38, lk68, lk46, palC]
  refine aops_pure' (within73 0 100 [p.err]) rfl rfl (by first | exact wk_refls _ | (repeat constructor)) ?_
  rw [inR1]
  by_cases he : 0 ≤ p.err ∧ p.err ≤ 100
  · simp (maxSteps := 2000000) only [go_sem, reduceIte, Nat.reduceEqDiff, Nat.reduceAdd, Nat.reduceLeDiff, Nat.reduceBEq, lk37, lk38, lk68, lk46, he, and_self, decide_true, palC]
    refine aops_at (has71 p.pig 74 [] (fun r => !inR 0 1000 r) [.cells (palC p), .cells [.d (.int .i64 p.n)]] rfl rfl (fun x _ => (chip74 x).at _)) rfl rfl (by first | exact wk_refls _ | (repeat constructor)) ?_
    have ev : p.pig.any (fun r => !inR 0 1000 r) = !okValP p := by
      rw [okValP, decide_eq_true he, Bool.true_and, List.not_all_eq_any_not]
    rw [ev]
    cases hv : okValP p with
    | true =>
      have e4 : okPal p = 0 := by rw [e, hv]; rfl
      simp (maxSteps := 2000000) only [go_sem, reduceIte, Nat.reduceEqDiff, Nat.reduceAdd, lk37, lk38, lk68, lk46, e4]
    | false =>
      have e4 : okPal p = 2 := by rw [e, hv]; rfl
      simp (maxSteps := 2000000) only [go_sem, reduceIte, Nat.reduceEqDiff, Nat.reduceAdd, lk37, lk38, lk68, lk46, e4]
  · have hv : okValP p = false := by rw [okValP, decide_eq_false he, Bool.false_and]
    have e4 : okPal p = 2 := by rw [e, hv]; rfl
    simp (maxSteps := 2000000) only [go_sem, reduceIte, Nat.reduceEqDiff, Nat.reduceAdd, lk37, lk38, lk68, lk46, he, decide_false, e4]

theorem okLenP_bad {p : Pal} {i : Nat} {r : List Int} (h : p.pig[i]? = some r) (hr : ¬ r.length = p.n) : okLenP p = false := by
  rw [← Bool.not_eq_true, okLenP_iff]; intro h2; exact hr (h2 r (List.mem_of_getElem? h))
theorem okValP_bad {p : Pal} {i j : Nat} {r : List Int} {x : Int} (h : p.pig[i]? = some r) (hx : r[j]? = some x) (hb : ¬ (0 ≤ x ∧ x ≤ 1000)) : okValP p = false := by
  rw [← Bool.not_eq_true, okValP_iff]; rintro ⟨_, h2⟩; exact hb (h2 r (List.mem_of_getElem? h) x (List.mem_of_getElem? hx))
set_option maxHeartbeats 4000000 in
theorem checkPal38 (p : Pal) : Pure Try.prog 38 [palV p] (I (okPal p)) := by
  refine pure_wkE (bad := []) (kp := kp38) (X := tx) (nt := 96) (rs := [.tmp 2]) Try.func38 rfl rfl rfl rfl mo (by kernel_rfl) rfl rfl (fun hf => ?_)
  have hfit := fit_pal (hf (palV p) (by simp))
  by_cases h0 : p.pig.length = 0
  · have h0' : (p.pig.length : Int) < 1 := by omega
    have e := okPal_6a (Or.inl h0)
    simp (maxSteps := 2000000) only [go_sem, reduceIte, Nat.reduceEqDiff, Nat.reduceAdd, Nat.reduceLeDiff, Nat.reduceBEq, lk37, lk38, lk68, lk46, palV, palC, h0', e]
  have h0' : ¬ (p.pig.length : Int) < 1 := by omega
  by_cases h12 : 12 < p.pig.length
  · have h12' : (12 : Int) < p.pig.length := by omega
    have e := okPal_6a (Or.inr h12)
    simp (maxSteps := 2000000) only [go_sem, reduceIte, Nat.reduceEqDiff, Nat.reduceAdd, Nat.reduceLeDiff, Nat.reduceBEq, lk37, lk38, lk68, lk46, palV, palC, h0', h12', e]
  have h12' : ¬ (12 : Int) < p.pig.length := by omega
  have hk : ¬ (p.pig.length = 0 ∨ 12 < p.pig.length) := by omega
  have g0 := pig0 hk
  have en : (p.pig.getD 0 []).length = p.n := rfl
  have k0 : (0 : Int) < p.pig.length := by omega
  by_cases hn0 : p.n = 0
  · have hn0' : (p.n : Int) < 1 := by omega
    have e := okPal_6b (Or.inl hn0)
    simp (maxSteps := 2000000) only [go_sem, reduceIte, Nat.reduceEqDiff, Nat.reduceAdd, Nat.reduceLeDiff, Nat.reduceBEq, Int.reduceLE, Int.reduceToNat, lk37, lk38, lk68, lk46, palV, palC, h0', h12', g0, rowI, k0, en, hn0', e]
  have hn0' : ¬ (p.n : Int) < 1 := by omega
  by_cases hn8 : 8 < p.n
  · have hn8' : (8 : Int) < p.n := by omega
    have e := okPal_6b (Or.inr hn8)
    simp (maxSteps := 2000000) only [go_sem, reduceIte, Nat.reduceEqDiff, Nat.reduceAdd, Nat.reduceLeDiff, Nat.reduceBEq, Int.reduceLE, Int.reduceToNat, lk37, lk38, lk68, lk46, palV, palC, h0', h12', g0, rowI, k0, en, hn0', hn8', e]
  have hn8' : ¬ (8 : Int) < p.n := by omega
  have hn : ¬ (p.n = 0 ∨ 8 < p.n) := by omega
  simp (maxSteps := 2000000) only [go_sem, reduceIte, Nat.reduceEqDiff, Nat.reduceAdd, Nat.reduceLeDiff, Nat.reduceBEq, Int.reduceLE, Int.reduceToNat, lk37, lk38, lk68, lk46, palV, palC, h0', h12', g0, rowI, k0, en, hn0', hn8']
  refine goE_loop (bad := []) (kp := kp38) (fun i : Nat => { slots := [(1, .c (.ptr 0 0)), (3, I i)], heap := [.cells (palC p)], marks := [] }) (fun i => i ≤ p.pig.length ∧ ∀ j r, j < i → p.pig[j]? = some r → r.length = p.n) (fun i => p.pig.length - i) 0 mo (by kernel_rfl) ?_ ⟨Nat.zero_le _, by intro j r h; omega⟩ ?_
  · refine ent_weaken [] rfl rfl (Nat.zero_le _) rfl rfl ?_
    simp (maxSteps := 2000000) only [go_sem, reduceIte, Nat.reduceEqDiff, Nat.reduceLT, lk37, lk38, lk68, lk46, palC]
    all_goals first | exact .refl _ | exact ⟨.refl _, .refl _⟩ | exact ⟨.refl _, .refl _, .refl _⟩ | exact ⟨.refl _, _, rfl⟩ | exact ⟨_, rfl⟩ | exact ⟨.refl _, [], by simp⟩ | exact ⟨[], by simp⟩
  rintro i ⟨hi, hall⟩
  simp (maxSteps := 2000000) only [go_sem, reduceIte, Nat.reduceEqDiff, Nat.reduceAdd, Nat.reduceLeDiff, Nat.reduceBEq, lk37, lk38, lk68, lk46, palC]
  by_cases hlt : i < p.pig.length
  · have hlt' : (i : Int) < p.pig.length := by omega
    obtain ⟨r, hr⟩ := get_of_lt hlt
    by_cases hxl : r.length = p.n
    · have hxl' : (r.length : Int) = p.n := by omega
      simp (maxSteps := 2000000) only [go_sem, reduceIte, Nat.reduceEqDiff, Nat.reduceAdd, Nat.reduceLeDiff, Nat.reduceBEq, Int.reduceLE, Int.reduceToNat, lk37, lk38, lk68, lk46, hlt', hr, rowI, nn, g0, k0, en, hxl', wr_succ hlt hfit]
      refine ⟨i + 1, ⟨hlt, upto_succ hall hr hxl⟩, by omega, ?_⟩
      refine ent_weaken [] rfl rfl (Nat.zero_le _) rfl rfl ?_
      simp (maxSteps := 2000000) only [go_sem, reduceIte, Nat.reduceEqDiff, Nat.reduceLT, lk37, lk38, lk68, lk46, palC]
      all_goals first | exact .refl _ | exact ⟨.refl _, .refl _⟩ | exact ⟨.refl _, .refl _, .refl _⟩ | exact ⟨.refl _, _, rfl⟩ | exact ⟨_, rfl⟩ | exact ⟨.refl _, [], by simp⟩ | exact ⟨[], by simp⟩
    · have hxl' : ¬ (r.length : Int) = p.n := by omega
      have e := okPal_15 hk hn (okLenP_bad hr hxl)
      simp (maxSteps := 2000000) only [go_sem, reduceIte, Nat.reduceEqDiff, Nat.reduceAdd, Nat.reduceLeDiff, Nat.reduceBEq, Int.reduceLE, Int.reduceToNat, lk37, lk38, lk68, lk46, hlt', hr, rowI, nn, g0, k0, en, hxl', e]
  have hlt' : ¬ (i : Int) < p.pig.length := by omega
  have hl : okLenP p = true := (okLenP_iff p).2 fun r hr => by
    obtain ⟨j, hj⟩ := List.getElem?_of_mem hr
    exact hall j r (by have := (List.getElem?_eq_some_iff.1 hj).1; omega) hj
  have e := okPal_r hk hn hl
  have hrow := (okLenP_iff p).1 hl
  clear hall
  by_cases e0 : p.err < 0
  · have hv : okValP p = false := by rw [← Bool.not_eq_true, okValP_iff]; rintro ⟨h1, _⟩; omega
    have e4 : okPal p = 2 := by rw [e, hv]; rfl
    simp (maxSteps := 2000000) only [go_sem, reduceIte, Nat.reduceEqDiff, Nat.reduceAdd, Nat.reduceBEq, lk37, lk38, lk68, lk46, hlt', e0, e4]
  by_cases e1 : 100 < p.err
  · have hv : okValP p = false := by rw [← Bool.not_eq_true, okValP_iff]; rintro ⟨h1, _⟩; omega
    have e4 : okPal p = 2 := by rw [e, hv]; rfl
    simp (maxSteps := 2000000) only [go_sem, reduceIte, Nat.reduceEqDiff, Nat.reduceAdd, Nat.reduceBEq, lk37, lk38, lk68, lk46, hlt', e0, e1, e4]
  simp (maxSteps := 2000000) only [go_sem, reduceIte, Nat.reduceEqDiff, Nat.reduceAdd, Nat.reduceBEq, lk37, lk38, lk68, lk46, hlt', e0, e1]
  refine goE_loop (bad := []) (kp := kp38) (fun i : Nat => { slots := [(1, .c (.ptr 0 0)), (4, I i)], heap := [.cells (palC p)], marks := [] }) (fun i => i ≤ p.pig.length ∧ ∀ j r, j < i → p.pig[j]? = some r → ∀ x ∈ r, 0 ≤ x ∧ x ≤ 1000) (fun i => p.pig.length - i) 0 mo (by kernel_rfl) ?_ ⟨Nat.zero_le _, by intro j r h; omega⟩ ?_
  · refine ent_weaken [] rfl rfl (Nat.zero_le _) rfl rfl ?_
    simp (maxSteps := 2000000) only [go_sem, reduceIte, Nat.reduceEqDiff, Nat.reduceLT, lk37, lk38, lk68, lk46, palC]
    all_goals first | exact .refl _ | exact ⟨.refl _, .refl _⟩ | exact ⟨.refl _, .refl _, .refl _⟩ | exact ⟨.refl _, _, rfl⟩ | exact ⟨_, rfl⟩ | exact ⟨.refl _, [], by simp⟩ | exact ⟨[], by simp⟩
  rintro i2 ⟨hi2, hall⟩
  simp (maxSteps := 2000000) only [go_sem, reduceIte, Nat.reduceEqDiff, Nat.reduceAdd, Nat.reduceLeDiff, Nat.reduceBEq, lk37, lk38, lk68, lk46, palC]
  by_cases hlt2 : i2 < p.pig.length
  case neg =>
    have hlt2' : ¬ (i2 : Int) < p.pig.length := by omega
    have hv : okValP p = true := by
      rw [okValP_iff]
      refine ⟨by omega, fun r hr => ?_⟩
      obtain ⟨j, hj⟩ := List.getElem?_of_mem hr
      exact hall j r (by have := (List.getElem?_eq_some_iff.1 hj).1; omega) hj
    have e4 : okPal p = 0 := by rw [e, hv]; rfl
    simp (maxSteps := 2000000) only [go_sem, reduceIte, Nat.reduceEqDiff, Nat.reduceAdd, lk37, lk38, lk68, lk46, hlt2', e4]
  have hlt2' : (i2 : Int) < p.pig.length := by omega
  obtain ⟨r, hr⟩ := get_of_lt hlt2
  have hrl := hrow r (List.mem_of_getElem? hr)
  have m1 : p.pig.length - (i2 + 1) < p.pig.length - i2 := by omega
  have hr8 : r.length ≤ 140737488355328 := by omega
  simp (maxSteps := 2000000) only [go_sem, reduceIte, Nat.reduceEqDiff, Nat.reduceAdd, lk37, lk38, lk68, lk46, hlt2', hr, rowI, nn]
  refine goE_loop (bad := []) (kp := kp38) (fun b : Nat => { slots := [(1, .c (.ptr 0 0)), (4, I i2), (5, I b)], heap := [.cells (palC p)], marks := [] }) (fun b => b ≤ r.length ∧ ∀ j x, j < b → r[j]? = some x → 0 ≤ x ∧ x ≤ 1000) (fun b => r.length - b) 0 mo (by kernel_rfl) ?_ ⟨Nat.zero_le _, by intro j r h; omega⟩ ?_
  · refine ent_weaken [] rfl rfl (Nat.zero_le _) rfl rfl ?_
    simp (maxSteps := 2000000) only [go_sem, reduceIte, Nat.reduceEqDiff, Nat.reduceLT, lk37, lk38, lk68, lk46, palC]
    all_goals first | exact .refl _ | exact ⟨.refl _, .refl _⟩ | exact ⟨.refl _, .refl _, .refl _⟩ | exact ⟨.refl _, _, rfl⟩ | exact ⟨_, rfl⟩ | exact ⟨.refl _, [], by simp⟩ | exact ⟨[], by simp⟩
  rintro b ⟨hb, hallb⟩
  simp (maxSteps := 2000000) only [go_sem, reduceIte, Nat.reduceEqDiff, Nat.reduceAdd, Nat.reduceLeDiff, Nat.reduceBEq, lk37, lk38, lk68, lk46, palC]
  by_cases hltb : b < r.length
  case neg =>
    have hltb' : ¬ (b : Int) < r.length := by omega
    have key : ∀ x ∈ r, 0 ≤ x ∧ x ≤ 1000 := fun x hx => by
      obtain ⟨j, hj⟩ := List.getElem?_of_mem hx
      exact hallb j x (by have := (List.getElem?_eq_some_iff.1 hj).1; omega) hj
    simp (maxSteps := 2000000) only [go_sem, reduceIte, Nat.reduceEqDiff, Nat.reduceAdd, lk37, lk38, lk68, lk46, hlt2', hr, rowI, nn, hltb', wr_succ hlt2 hfit]
    refine ⟨i2 + 1, ⟨hlt2, upto_succ (P := fun r : List Int => ∀ x ∈ r, 0 ≤ x ∧ x ≤ 1000) hall hr key⟩, m1, ?_⟩
    refine ent_weaken [] rfl rfl (Nat.zero_le _) rfl rfl ?_
    simp (maxSteps := 2000000) only [go_sem, reduceIte, Nat.reduceEqDiff, Nat.reduceLT, lk37, lk38, lk68, lk46, palC]
    all_goals first | exact .refl _ | exact ⟨.refl _, .refl _⟩ | exact ⟨.refl _, .refl _, .refl _⟩ | exact ⟨.refl _, _, rfl⟩ | exact ⟨_, rfl⟩ | exact ⟨.refl _, [], by simp⟩ | exact ⟨[], by simp⟩
  have hltb' : (b : Int) < r.length := by omega
  obtain ⟨x, hx⟩ := get_of_lt hltb
  by_cases q1 : x < 0
  · have hv := okValP_bad hr hx (by omega)
    have e4 : okPal p = 2 := by rw [e, hv]; rfl
    simp (maxSteps := 2000000) only [go_sem, reduceIte, Nat.reduceEqDiff, Nat.reduceAdd, Nat.reduceLeDiff, Nat.reduceBEq, lk37, lk38, lk68, lk46, hlt2', hr, rowI, nn, hltb', hx, iD, q1, e4]
  by_cases q2 : 1000 < x
  · have hv := okValP_bad hr hx (by omega)
    have e4 : okPal p = 2 := by rw [e, hv]; rfl
    simp (maxSteps := 2000000) only [go_sem, reduceIte, Nat.reduceEqDiff, Nat.reduceAdd, Nat.reduceLeDiff, Nat.reduceBEq, lk37, lk38, lk68, lk46, hlt2', hr, rowI, nn, hltb', hx, iD, q1, q2, e4]
  have m2 : r.length - (b + 1) < r.length - b := by omega
  have q3 : 0 ≤ x ∧ x ≤ 1000 := by omega
  simp (maxSteps := 2000000) only [go_sem, reduceIte, Nat.reduceEqDiff, Nat.reduceAdd, Nat.reduceLeDiff, Nat.reduceBEq, lk37, lk38, lk68, lk46, hlt2', hr, rowI, nn, hltb', hx, iD, q1, q2, wr_succ hltb hr8]
  refine ⟨b + 1, ⟨hltb, upto_succ hallb hx q3⟩, m2, ?_⟩
  refine ent_weaken [] rfl rfl (Nat.zero_le _) rfl rfl ?_
  simp (maxSteps := 2000000) only [go_sem, reduceIte, Nat.reduceEqDiff, Nat.reduceLT, lk37, lk38, lk68, lk46, palC]
  all_goals first | exact .refl _ | exact ⟨.refl _, .refl _⟩ | exact ⟨.refl _, .refl _, .refl _⟩ | exact ⟨.refl _, _, rfl⟩ | exact ⟨_, rfl⟩ | exact ⟨.refl _, [], by simp⟩ | exact ⟨[], by simp⟩

/-- How many sets there are. -/
theorem pow12 {k : Nat} (h : k ≤ 12) : 2 ^ k ≤ 4096 := Nat.le_trans (Nat.pow_le_pow_right (by decide) h) (by decide)
theorem shl12 {k : Nat} (h : k ≤ 12) : wr .i64 (1 * 2 ^ min k 64) = ((2 ^ k : Nat) : Int) := by
  have h1 : min k 64 = k := by omega
  have h2 := pow12 h
  have h3 : (1 : Int) * 2 ^ k = ((2 ^ k : Nat) : Int) := by rw [Int.one_mul, Int.natCast_pow]; rfl
  rw [h1, h3]
  generalize 2 ^ k = m at h2
  rw [wr_i64] <;> omega
theorem shrB (s : Nat) {i : Nat} (h : i ≤ 12) : decide ((((s : Int)).fdiv (2 ^ min i 64)).tmod 2 = 1) = s.testBit i := by
  have h1 : min i 64 = i := by omega
  have h3 : ((2 : Int) ^ i) = ((2 ^ i : Nat) : Int) := by rw [Int.natCast_pow]; rfl
  rw [h1, h3, Nat.testBit_eq_decide_div_mod_eq, decide_eq_decide]
  rw [Int.fdiv_eq_ediv_of_nonneg _ (Int.natCast_nonneg _), ← Int.natCast_ediv]
  generalize s / 2 ^ i = q
  rw [Int.tmod_eq_emod_of_nonneg (by omega)]
  omega
theorem z2 (k : Nat) : decide (0 ≤ (k : Int)) = true := by simp
set_option maxHeartbeats 1000000 in
theorem sets68 (p : Pal) (hp : OkP p) : Pure Try.prog 68 [palV p] (I ((2 ^ p.pig.length : Nat) : Int)) := by
  refine pure_wkE (bad := []) (kp := kp68) (X := tx) (nt := 7) (rs := [.tmp 2]) Try.func68 rfl rfl rfl rfl mo (by kernel_rfl) rfl rfl (fun hf => ?_)
  simp (maxSteps := 2000000) only [go_sem, reduceIte, Nat.reduceEqDiff, Nat.reduceAdd, Nat.reduceLeDiff, Nat.reduceBEq, lk37, lk38, lk68, lk46, palV, palC, shl12 hp.k12, z2]

/-- The spectrum of a set. -/
def Pal.row (p : Pal) (i : Nat) : List Int := p.pig.getD i []
def sumB (p : Pal) (s k b : Nat) : Int := sumF (fun i => if s.testBit i then gI (p.row i) b else 0) k
def sumL (p : Pal) (s : Nat) : List Int := (List.range p.n).map (sumB p s p.pig.length)
theorem OkP.at' {p : Pal} (h : OkP p) {i : Nat} (hi : i < p.pig.length) : p.pig[i]? = some (p.row i) ∧ (p.row i).length = p.n := by
  obtain ⟨r, hr⟩ := get_of_lt hi
  have e : p.row i = r := getD_of hr
  rw [e]; exact ⟨hr, h.row r (List.mem_of_getElem? hr)⟩
theorem OkP.val {p : Pal} (h : OkP p) (i b : Nat) : 0 ≤ gI (p.row i) b ∧ gI (p.row i) b ≤ 1000 := by
  by_cases hi : i < p.pig.length
  · obtain ⟨h1, h2⟩ := h.at' hi
    by_cases hb : b < p.n
    · exact h.v _ (List.mem_of_getElem? h1) _ (List.mem_of_getElem? (gI_lt (by omega)))
    · have : gI (p.row i) b = 0 := by rw [gI, List.getD, List.getElem?_eq_none (by omega)]; rfl
      omega
  · have : gI (p.row i) b = 0 := by
      have e : p.row i = [] := by rw [Pal.row, List.getD, List.getElem?_eq_none (by omega)]; rfl
      rw [e]; rfl
    omega
theorem sumB_bound {p : Pal} (h : OkP p) (s b : Nat) : ∀ k : Nat, 0 ≤ sumB p s k b ∧ sumB p s k b ≤ 1000 * k
  | 0 => by simp [sumB, sumF]
  | k + 1 => by
    have ih := sumB_bound h s b k
    have := h.val k b
    have e : sumB p s (k + 1) b = sumB p s k b + if s.testBit k then gI (p.row k) b else 0 := rfl
    rw [e]
    split <;> omega
theorem sumL_len (p : Pal) (s : Nat) : (sumL p s).length = p.n := by simp [sumL]
def sumM (p : Pal) (s i b : Nat) : Nat → Int := fun k => if k < b then sumB p s (i + 1) k else sumB p s i k
theorem sumM_zero (p : Pal) (s i : Nat) : sumM p s i 0 = sumB p s i := by funext k; simp [sumM]
theorem sumM_at (p : Pal) (s i b : Nat) : sumM p s i b b = sumB p s i b := by simp [sumM]
theorem sumM_upd {p : Pal} {s i b : Nat} {v : Int} (h : v = sumB p s (i + 1) b) : upd (sumM p s i b) b v = sumM p s i (b + 1) := by
  funext k
  by_cases e : k = b
  · subst e; rw [upd_same, h]; simp [sumM]
  · rw [upd_ne _ _ e]
    simp only [sumM]
    have : k < b + 1 ↔ k < b := by omega
    simp only [this]
theorem sumM_skip {p : Pal} {s i b : Nat} (h : sumB p s (i + 1) b = sumB p s i b) : sumM p s i b = sumM p s i (b + 1) := by
  funext k
  simp only [sumM]
  by_cases e : k = b
  · subst e; simp [h]
  · have : k < b + 1 ↔ k < b := by omega
    simp only [this]
theorem numsD_congr {n : Nat} {f g : Nat → Int} (h : ∀ k, k < n → f k = g k) : numsD n f = numsD n g := List.map_congr_left fun k hk => by simp at hk; rw [h k hk]
theorem sumM_all (p : Pal) (s i : Nat) : numsD p.n (sumM p s i p.n) = numsD p.n (sumB p s (i + 1)) := numsD_congr fun k hk => by simp [sumM, hk]

set_option maxHeartbeats 4000000 in
theorem sum46 (p : Pal) (s : Nat) (hp : OkP p) (hs : s < 2 ^ p.pig.length) : Pure Try.prog 46 [palV p, I s] (ints (sumL p s)) := by
  refine pure_fzE (bad := []) (kp := kp46) (X := tx) (nt := 47) (rs := [.tmp 4]) Try.func46 rfl rfl rfl rfl mo (by kernel_rfl) rfl rfl (fun hf => ?_)
  have h8 := hp.n8
  have h12 := hp.k12
  have hk1 := hp.k1
  have g0 := (hp.at' hp.k1).1
  have en : (p.row 0).length = p.n := rfl
  have k0 : (0 : Int) < p.pig.length := by omega
  simp (maxSteps := 2000000) only [go_sem, reduceIte, Nat.reduceEqDiff, Nat.reduceAdd, Nat.reduceLeDiff, Nat.reduceBEq, Int.reduceLE, Int.reduceToNat, lk37, lk38, lk68, lk46, palV, palC, g0, k0, rowI, en, rep_nums, nn, Int.toNat_natCast]
  refine ⟨by rw [Bool.and_eq_true, Bool.and_eq_true]; exact ⟨⟨decide_eq_true (Int.le_refl _), decide_eq_true (by show (8 : Int) * _ ≤ _; omega)⟩, decide_eq_true (by show (_ : Int) ≤ 140737488355328; omega)⟩, ?_⟩
  refine goE_loop (bad := []) (kp := kp46) (fun i : Nat => { slots := [(1, I s), (2, .c (.ptr 0 0)), (5, .c (.ms 1 0 p.n p.n)), (6, I i)], heap := [.cells (palC p), .cells (numsC p.n (sumB p s i))], marks := [] }) (fun i => i ≤ p.pig.length) (fun i => p.pig.length - i) 0 mo (by kernel_rfl) ?_ (Nat.zero_le _) ?_
  · refine ent_weaken [] rfl rfl (Nat.zero_le _) (by simp [AB.low, numsC_low, palC, C.lowL, C.low]) rfl ?_
    simp (maxSteps := 2000000) only [go_sem, reduceIte, Nat.reduceEqDiff, Nat.reduceAdd, Nat.reduceLT, lk37, lk38, lk68, lk46, palC]
    all_goals first | exact .refl _ | exact ⟨.refl _, .refl _⟩ | exact ⟨.refl _, .refl _, .refl _⟩ | exact ⟨.refl _, _, rfl⟩ | exact ⟨_, rfl⟩ | exact ⟨.refl _, [], by simp⟩ | exact ⟨[], by simp⟩
  rintro i hi
  simp (maxSteps := 2000000) only [go_sem, reduceIte, Nat.reduceEqDiff, Nat.reduceAdd, Nat.reduceLeDiff, Nat.reduceBEq, lk37, lk38, lk68, lk46, palC]
  by_cases hlt : i < p.pig.length
  · have hlt' : (i : Int) < p.pig.length := by omega
    obtain ⟨g1, gl⟩ := hp.at' hlt
    have m1 : p.pig.length - (i + 1) < p.pig.length - i := by omega
    have w3 : wr .i64 ((i : Int) + 1) = ((i + 1 : Nat) : Int) := wr_succ hlt (by omega)
    simp (maxSteps := 2000000) only [go_sem, reduceIte, Nat.reduceEqDiff, Nat.reduceAdd, lk37, lk38, lk68, lk46, hlt']
    refine goE_loop (bad := []) (kp := kp46) (fun b : Nat => { slots := [(1, I s), (2, .c (.ptr 0 0)), (5, .c (.ms 1 0 p.n p.n)), (6, I i), (7, I b)], heap := [.cells (palC p), .cells (numsC p.n (sumM p s i b))], marks := [] }) (fun b => b ≤ p.n) (fun b => p.n - b) 0 mo (by kernel_rfl) ?_ (Nat.zero_le _) ?_
    · refine ent_weaken [] (by rw [sumM_zero]; rfl) rfl (Nat.zero_le _) (by simp [AB.low, numsC_low, palC, C.lowL, C.low]) rfl ?_
      simp (maxSteps := 2000000) only [go_sem, reduceIte, Nat.reduceEqDiff, Nat.reduceAdd, Nat.reduceLT, lk37, lk38, lk68, lk46, palC]
      all_goals first | exact .refl _ | exact ⟨.refl _, .refl _⟩ | exact ⟨.refl _, .refl _, .refl _⟩ | exact ⟨.refl _, _, rfl⟩ | exact ⟨_, rfl⟩ | exact ⟨.refl _, [], by simp⟩ | exact ⟨[], by simp⟩
    rintro b hb
    simp (maxSteps := 2000000) only [go_sem, reduceIte, Nat.reduceEqDiff, Nat.reduceAdd, lk37, lk38, lk68, lk46, palC]
    by_cases hlb : b < p.n
    · have hlb' : (b : Int) < p.n := by omega
      have m2 : p.n - (b + 1) < p.n - b := by omega
      have g3 := gI_lt (l := p.row i) (b := b) (by omega)
      have g4 := numsC_get (sumM p s i b) hlb
      rw [sumM_at] at g4
      have c1 : (b : Int) < (p.row i).length := by omega
      have c3 : decide (b + 1 ≤ p.n) = true := by simp; omega
      have b1 := sumB_bound hp s b i
      have b2 := hp.val i b
      have w4 : wr .i64 ((b : Int) + 1) = ((b + 1 : Nat) : Int) := wr_succ hlb (by omega)
      have ee : sumB p s (i + 1) b = sumB p s i b + if s.testBit i then gI (p.row i) b else 0 := rfl
      cases ht : s.testBit i with
      | true =>
        rw [ht, if_pos rfl] at ee
        have w1 : wr .i64 (sumB p s i b + gI (p.row i) b) = sumB p s (i + 1) b := by rw [ee]; exact wr_in (by omega)
        clear b1 b2 ee
        simp (maxSteps := 2000000) only [go_sem, reduceIte, Nat.reduceEqDiff, Nat.reduceAdd, Nat.reduceLeDiff, Nat.reduceBEq, Int.reduceEq, lk37, lk38, lk68, lk46, hlb', z2, shrB s (show i ≤ 12 by omega), ht]
        simp (maxSteps := 2000000) only [go_sem, reduceIte, lk37, lk38, lk68, lk46, hlt', hlb', g1, rowI, iD, g3, g4, c1, c3, nn, w1, w4, numsC_len, Nat.mul_one, Nat.zero_add]
        refine ⟨b + 1, hlb, m2, ?_⟩
        refine ent_weaken [] (by simp only [numsC_set, sumM_upd rfl, List.append_nil, palC, rowI, iD]) rfl (Nat.zero_le _) (by simp [AB.low, numsC_low, palC, C.lowL, C.low]) rfl ?_
        simp (maxSteps := 2000000) only [go_sem, reduceIte, Nat.reduceEqDiff, Nat.reduceAdd, Nat.reduceLT, lk37, lk38, lk68, lk46, palC]
        all_goals first | exact .refl _ | exact ⟨.refl _, .refl _⟩ | exact ⟨.refl _, .refl _, .refl _⟩ | exact ⟨.refl _, _, rfl⟩ | exact ⟨_, rfl⟩ | exact ⟨.refl _, [], by simp⟩ | exact ⟨[], by simp⟩
      | false =>
        rw [ht] at ee
        have e2 : sumB p s (i + 1) b = sumB p s i b := by rw [ee]; simp
        clear b1 b2 ee
        simp (maxSteps := 2000000) only [go_sem, reduceIte, Nat.reduceEqDiff, Nat.reduceAdd, Int.reduceEq, lk37, lk38, lk68, lk46, hlb', z2, shrB s (show i ≤ 12 by omega), ht, w4]
        refine ⟨b + 1, hlb, m2, ?_⟩
        refine ent_weaken [] (by simp only [sumM_skip e2, List.append_nil, palC]) rfl (Nat.zero_le _) (by simp [AB.low, numsC_low, palC, C.lowL, C.low]) rfl ?_
        simp (maxSteps := 2000000) only [go_sem, reduceIte, Nat.reduceEqDiff, Nat.reduceAdd, Nat.reduceLT, lk37, lk38, lk68, lk46, palC]
        all_goals first | exact .refl _ | exact ⟨.refl _, .refl _⟩ | exact ⟨.refl _, .refl _, .refl _⟩ | exact ⟨.refl _, _, rfl⟩ | exact ⟨_, rfl⟩ | exact ⟨.refl _, [], by simp⟩ | exact ⟨[], by simp⟩
    · have hlb' : ¬ (b : Int) < p.n := by omega
      have e : b = p.n := by omega
      subst e
      simp (maxSteps := 2000000) only [go_sem, reduceIte, Nat.reduceEqDiff, Nat.reduceAdd, lk37, lk38, lk68, lk46, hlb', w3]
      refine ⟨i + 1, hlt, m1, ?_⟩
      refine ent_weaken [] (by simp only [numsC, sumM_all, List.append_nil, palC]) rfl (Nat.zero_le _) (by simp [AB.low, numsC_low, palC, C.lowL, C.low]) rfl ?_
      simp (maxSteps := 2000000) only [go_sem, reduceIte, Nat.reduceEqDiff, Nat.reduceAdd, Nat.reduceLT, lk37, lk38, lk68, lk46, palC]
      all_goals first | exact .refl _ | exact ⟨.refl _, .refl _⟩ | exact ⟨.refl _, .refl _, .refl _⟩ | exact ⟨.refl _, _, rfl⟩ | exact ⟨_, rfl⟩ | exact ⟨.refl _, [], by simp⟩ | exact ⟨[], by simp⟩
  · have hlt' : ¬ (i : Int) < p.pig.length := by omega
    have e : i = p.pig.length := by omega
    subst e
    simp (maxSteps := 2000000) only [go_sem, reduceIte, Nat.reduceEqDiff, Nat.reduceAdd, lk37, lk38, lk68, lk46, hlt']
    refine ⟨1, numsC p.n (sumB p s p.pig.length), numsD p.n (sumB p s p.pig.length), _, rfl, toDs_d _, .v (.c (.ms 0 1 p.n p.n (by rw [numsD_len]; omega) (Nat.le_refl _) (by unfold lim; omega))), ?_⟩
    rw [List.drop_zero, chunk_nums, ints_nums, ← sumL]
    exact .refl _
end Go.Proofs.Ytjkpfojkkfopmaa
