/- atlas.CheckPlan. -/
import Derived.Test.YtklmpopomokglaaU3
set_option linter.unusedSimpArgs false
set_option linter.unusedVariables false
namespace Go.Proofs.Ytklmpopomokglaa
open Go Go.Abs Go.Proofs

set_option maxHeartbeats 1000000 in
theorem sum_pure (l : List Int) (hl : ∀ x ∈ l, -1 ≤ x ∧ x ≤ 1) : Pure Try.prog 48 [ints l] (I l.sum) := by
  refine pure_wk (X := tx) (nt := 17) (rs := [.tmp 2]) Try.func48 rfl rfl rfl rfl mo (by kernel_rfl) rfl rfl (fun hf => ?_)
  have hfit := fit_ints (hf (ints l) (by simp))
  simp only [go_sem, reduceIte, Nat.reduceEqDiff, Nat.reduceAdd, Nat.reduceLT, Nat.reduceLeDiff, Nat.reduceBEq, Nat.reduceMul, Nat.reduceSub, Int.reduceNeg, Int.reduceLT, Int.reduceLE, Int.reduceEq, Int.reduceToNat, tt3, tt4, tt22, tt24, tt29, tt26, tt30, tt36, ti3, ti22, ti29, ti26, ints]
  refine go_loop (fun i : Nat => { slots := [(3, I (l.take i).sum), (6, ints l), (7, I l.length), (8, I i)], heap := [], marks := [] }) (fun i => i ≤ l.length) (fun i => l.length - i) 0 mo (by kernel_rfl) ?_ (Nat.zero_le _) ?_
  · refine ent_weaken [] rfl rfl (Nat.zero_le _) rfl rfl ?_
    simp only [go_sem, reduceIte, Nat.reduceEqDiff, Nat.reduceAdd, Nat.reduceLT, Nat.reduceLeDiff, Nat.reduceBEq, Nat.reduceMul, Nat.reduceSub, Int.reduceNeg, Int.reduceLT, Int.reduceLE, Int.reduceEq, Int.reduceToNat, tt3, tt4, tt22, tt24, tt29, tt26, tt30, tt36, ti3, ti22, ti29, ti26, ints]
    exact ⟨.refl _, .refl _⟩
  rintro i hi
  simp only [go_sem, reduceIte, Nat.reduceEqDiff, Nat.reduceAdd, Nat.reduceLT, Nat.reduceLeDiff, Nat.reduceBEq, Nat.reduceMul, Nat.reduceSub, Int.reduceNeg, Int.reduceLT, Int.reduceLE, Int.reduceEq, Int.reduceToNat, tt3, tt4, tt22, tt24, tt29, tt26, tt30, tt36, ti3, ti22, ti29, ti26, ints]
  refine go_if (fun h => ?_) (fun h => ?_)
  · have hlt : i < l.length := by simpa using h
    obtain ⟨x, hx⟩ := get_of_lt hlt
    have hb := sum_bound l i hl
    have hxb := hl x (List.mem_of_getElem? hx)
    have hw : wr .i64 ((l.take i).sum + x) = (l.take (i + 1)).sum := by rw [sum_take hx, wr_i64] <;> omega
    simp only [go_sem, reduceIte, Nat.reduceEqDiff, Nat.reduceAdd, Nat.reduceLT, Nat.reduceLeDiff, Nat.reduceBEq, Nat.reduceMul, Nat.reduceSub, Int.reduceNeg, Int.reduceLT, Int.reduceLE, Int.reduceEq, Int.reduceToNat, tt3, tt4, tt22, tt24, tt29, tt26, tt30, tt36, ti3, ti22, ti29, ti26, hx, iD, wr_succ hlt hfit, hw]
    refine ⟨by simp [hlt], i + 1, hlt, by omega, ?_⟩
    refine ent_weaken [] rfl rfl (Nat.zero_le _) rfl rfl ?_
    simp only [go_sem, reduceIte, Nat.reduceEqDiff, Nat.reduceAdd, Nat.reduceLT, Nat.reduceLeDiff, Nat.reduceBEq, Nat.reduceMul, Nat.reduceSub, Int.reduceNeg, Int.reduceLT, Int.reduceLE, Int.reduceEq, Int.reduceToNat, tt3, tt4, tt22, tt24, tt29, tt26, tt30, tt36, ti3, ti22, ti29, ti26, ints]
  · have hi' : i = l.length := by simp at h; omega
    subst hi'
    simp only [go_sem, reduceIte, Nat.reduceEqDiff, Nat.reduceAdd, Nat.reduceLT, Nat.reduceLeDiff, Nat.reduceBEq, Nat.reduceMul, Nat.reduceSub, Int.reduceNeg, Int.reduceLT, Int.reduceLE, Int.reduceEq, Int.reduceToNat, tt3, tt4, tt22, tt24, tt29, tt26, tt30, tt36, ti3, ti22, ti29, ti26, List.take_length]

def minF (x : Int) (l : List Int) : Int := l.foldl min x
def maxF (x : Int) (l : List Int) : Int := l.foldl max x

set_option maxHeartbeats 1000000 in
theorem min_pure (x : Int) (l : List Int) : Pure Try.prog 45 [ints (x :: l)] (I (minF x l)) := by
  refine pure_wk (X := tx) (nt := 25) (rs := [.tmp 2]) Try.func45 rfl rfl rfl rfl mo (by kernel_rfl) rfl rfl (fun hf => ?_)
  have hfit := fit_ints (hf (ints (x :: l)) (by simp))
  simp only [go_sem, reduceIte, Nat.reduceEqDiff, Nat.reduceAdd, Nat.reduceLT, Nat.reduceLeDiff, Nat.reduceBEq, Nat.reduceMul, Nat.reduceSub, Int.reduceNeg, Int.reduceLT, Int.reduceLE, Int.reduceEq, Int.reduceToNat, tt3, tt4, tt22, tt24, tt29, tt26, tt30, tt36, ti3, ti22, ti29, ti26, ints]
  refine go_if (fun h => ?_) (fun h => ?_)
  · simp at h; try omega
  simp only [go_sem, reduceIte, Nat.reduceEqDiff, Nat.reduceAdd, Nat.reduceLT, Nat.reduceLeDiff, Nat.reduceBEq, Nat.reduceMul, Nat.reduceSub, Int.reduceNeg, Int.reduceLT, Int.reduceLE, Int.reduceEq, Int.reduceToNat, tt3, tt4, tt22, tt24, tt29, tt26, tt30, tt36, ti3, ti22, ti29, ti26, iD]
  refine ⟨by simp; try omega, ?_⟩
  refine go_loop (fun i : Nat => { slots := [(0, ints (x :: l)), (3, I (minF x (l.take i))), (4, I ((i + 1 : Nat) : Int))], heap := [], marks := [] }) (fun i => i ≤ l.length) (fun i => l.length - i) 0 mo (by kernel_rfl) ?_ (Nat.zero_le _) ?_
  · refine ent_weaken [] rfl rfl (Nat.zero_le _) rfl rfl ?_
    simp only [go_sem, reduceIte, Nat.reduceEqDiff, Nat.reduceAdd, Nat.reduceLT, Nat.reduceLeDiff, Nat.reduceBEq, Nat.reduceMul, Nat.reduceSub, Int.reduceNeg, Int.reduceLT, Int.reduceLE, Int.reduceEq, Int.reduceToNat, tt3, tt4, tt22, tt24, tt29, tt26, tt30, tt36, ti3, ti22, ti29, ti26, ints, minF]
    exact ⟨.refl _, .refl _, .refl _⟩
  rintro i hi
  simp only [go_sem, reduceIte, Nat.reduceEqDiff, Nat.reduceAdd, Nat.reduceLT, Nat.reduceLeDiff, Nat.reduceBEq, Nat.reduceMul, Nat.reduceSub, Int.reduceNeg, Int.reduceLT, Int.reduceLE, Int.reduceEq, Int.reduceToNat, tt3, tt4, tt22, tt24, tt29, tt26, tt30, tt36, ti3, ti22, ti29, ti26, ints]
  refine go_if (fun h => ?_) (fun h => ?_)
  · have hlt : i < l.length := by simp at h; omega
    obtain ⟨y, hy⟩ := get_of_lt hlt
    have hy' : (x :: l)[i + 1]? = some y := by simpa using hy
    have hw := wr_succ (i := i + 1) (n := (x :: l).length) (by simp; omega) hfit
    have hm : minF x (l.take (i + 1)) = min (minF x (l.take i)) y := by rw [take_succ_eq hy]; simp [minF]
    simp only [go_sem, reduceIte, Nat.reduceEqDiff, Nat.reduceAdd, Nat.reduceLT, Nat.reduceLeDiff, Nat.reduceBEq, Nat.reduceMul, Nat.reduceSub, Int.reduceNeg, Int.reduceLT, Int.reduceLE, Int.reduceEq, Int.reduceToNat, tt3, tt4, tt22, tt24, tt29, tt26, tt30, tt36, ti3, ti22, ti29, ti26, hy', iD, hw, minL, hy]
    refine ⟨by simp [hlt]; omega, i + 1, hlt, by omega, ?_⟩
    refine ent_weaken [] rfl rfl (Nat.zero_le _) rfl rfl ?_
    simp only [go_sem, reduceIte, Nat.reduceEqDiff, Nat.reduceAdd, Nat.reduceLT, Nat.reduceLeDiff, Nat.reduceBEq, Nat.reduceMul, Nat.reduceSub, Int.reduceNeg, Int.reduceLT, Int.reduceLE, Int.reduceEq, Int.reduceToNat, tt3, tt4, tt22, tt24, tt29, tt26, tt30, tt36, ti3, ti22, ti29, ti26, ints, iD, hm]
  · have hi' : i = l.length := by simp at h; omega
    subst hi'
    simp only [go_sem, reduceIte, Nat.reduceEqDiff, Nat.reduceAdd, Nat.reduceLT, Nat.reduceLeDiff, Nat.reduceBEq, Nat.reduceMul, Nat.reduceSub, Int.reduceNeg, Int.reduceLT, Int.reduceLE, Int.reduceEq, Int.reduceToNat, tt3, tt4, tt22, tt24, tt29, tt26, tt30, tt36, ti3, ti22, ti29, ti26, List.take_length]

set_option maxHeartbeats 1000000 in
theorem max_pure (x : Int) (l : List Int) : Pure Try.prog 46 [ints (x :: l)] (I (maxF x l)) := by
  refine pure_wk (X := tx) (nt := 25) (rs := [.tmp 2]) Try.func46 rfl rfl rfl rfl mo (by kernel_rfl) rfl rfl (fun hf => ?_)
  have hfit := fit_ints (hf (ints (x :: l)) (by simp))
  simp only [go_sem, reduceIte, Nat.reduceEqDiff, Nat.reduceAdd, Nat.reduceLT, Nat.reduceLeDiff, Nat.reduceBEq, Nat.reduceMul, Nat.reduceSub, Int.reduceNeg, Int.reduceLT, Int.reduceLE, Int.reduceEq, Int.reduceToNat, tt3, tt4, tt22, tt24, tt29, tt26, tt30, tt36, ti3, ti22, ti29, ti26, ints]
  refine go_if (fun h => ?_) (fun h => ?_)
  · simp at h; try omega
  simp only [go_sem, reduceIte, Nat.reduceEqDiff, Nat.reduceAdd, Nat.reduceLT, Nat.reduceLeDiff, Nat.reduceBEq, Nat.reduceMul, Nat.reduceSub, Int.reduceNeg, Int.reduceLT, Int.reduceLE, Int.reduceEq, Int.reduceToNat, tt3, tt4, tt22, tt24, tt29, tt26, tt30, tt36, ti3, ti22, ti29, ti26, iD]
  refine ⟨by simp; try omega, ?_⟩
  refine go_loop (fun i : Nat => { slots := [(0, ints (x :: l)), (3, I (maxF x (l.take i))), (4, I ((i + 1 : Nat) : Int))], heap := [], marks := [] }) (fun i => i ≤ l.length) (fun i => l.length - i) 0 mo (by kernel_rfl) ?_ (Nat.zero_le _) ?_
  · refine ent_weaken [] rfl rfl (Nat.zero_le _) rfl rfl ?_
    simp only [go_sem, reduceIte, Nat.reduceEqDiff, Nat.reduceAdd, Nat.reduceLT, Nat.reduceLeDiff, Nat.reduceBEq, Nat.reduceMul, Nat.reduceSub, Int.reduceNeg, Int.reduceLT, Int.reduceLE, Int.reduceEq, Int.reduceToNat, tt3, tt4, tt22, tt24, tt29, tt26, tt30, tt36, ti3, ti22, ti29, ti26, ints, maxF]
    exact ⟨.refl _, .refl _, .refl _⟩
  rintro i hi
  simp only [go_sem, reduceIte, Nat.reduceEqDiff, Nat.reduceAdd, Nat.reduceLT, Nat.reduceLeDiff, Nat.reduceBEq, Nat.reduceMul, Nat.reduceSub, Int.reduceNeg, Int.reduceLT, Int.reduceLE, Int.reduceEq, Int.reduceToNat, tt3, tt4, tt22, tt24, tt29, tt26, tt30, tt36, ti3, ti22, ti29, ti26, ints]
  refine go_if (fun h => ?_) (fun h => ?_)
  · have hlt : i < l.length := by simp at h; omega
    obtain ⟨y, hy⟩ := get_of_lt hlt
    have hy' : (x :: l)[i + 1]? = some y := by simpa using hy
    have hw := wr_succ (i := i + 1) (n := (x :: l).length) (by simp; omega) hfit
    have hm : maxF x (l.take (i + 1)) = max (maxF x (l.take i)) y := by rw [take_succ_eq hy]; simp [maxF]
    simp only [go_sem, reduceIte, Nat.reduceEqDiff, Nat.reduceAdd, Nat.reduceLT, Nat.reduceLeDiff, Nat.reduceBEq, Nat.reduceMul, Nat.reduceSub, Int.reduceNeg, Int.reduceLT, Int.reduceLE, Int.reduceEq, Int.reduceToNat, tt3, tt4, tt22, tt24, tt29, tt26, tt30, tt36, ti3, ti22, ti29, ti26, hy', iD, hw, maxL, hy]
    refine ⟨by simp [hlt]; omega, i + 1, hlt, by omega, ?_⟩
    refine ent_weaken [] rfl rfl (Nat.zero_le _) rfl rfl ?_
    simp only [go_sem, reduceIte, Nat.reduceEqDiff, Nat.reduceAdd, Nat.reduceLT, Nat.reduceLeDiff, Nat.reduceBEq, Nat.reduceMul, Nat.reduceSub, Int.reduceNeg, Int.reduceLT, Int.reduceLE, Int.reduceEq, Int.reduceToNat, tt3, tt4, tt22, tt24, tt29, tt26, tt30, tt36, ti3, ti22, ti29, ti26, ints, iD, hm]
  · have hi' : i = l.length := by simp at h; omega
    subst hi'
    simp only [go_sem, reduceIte, Nat.reduceEqDiff, Nat.reduceAdd, Nat.reduceLT, Nat.reduceLeDiff, Nat.reduceBEq, Nat.reduceMul, Nat.reduceSub, Int.reduceNeg, Int.reduceLT, Int.reduceLE, Int.reduceEq, Int.reduceToNat, tt3, tt4, tt22, tt24, tt29, tt26, tt30, tt36, ti3, ti22, ti29, ti26, List.take_length]


set_option maxHeartbeats 1000000 in
theorem chk43 (n : Int) (rows : List (List Int)) (r : List Int) : ACall Try.prog 43 [ints r, .c (.ptr 0 0)] [.cells (planC n rows)] (one (B (decide ((r.length : Int) ≠ n))) [.cells (planC n rows)]) := by
  refine acall_at (X := tx) (nt := 9) (rs := [.tmp 3]) Try.func43 rfl rfl rfl rfl mo (by kernel_rfl) rfl rfl (fun hf => ?_)
  simp only [go_sem, reduceIte, Nat.reduceEqDiff, Nat.reduceAdd, Nat.reduceLT, Nat.reduceLeDiff, Nat.reduceBEq, Nat.reduceMul, Nat.reduceSub, Int.reduceNeg, Int.reduceLT, Int.reduceLE, Int.reduceEq, Int.reduceToNat, tt3, tt4, tt22, tt24, tt29, tt26, tt30, tt36, ti3, ti22, ti29, ti26, ints, planC]
  exact ⟨by simp [wkv_refl], [], rfl⟩
set_option maxHeartbeats 1000000 in
theorem chk44 (x : Int) (r : List Int) : Pure Try.prog 44 [ints (x :: r)] (B (decide (minF x r < -1 ∨ 1 < maxF x r))) := by
  refine pure_wk (X := tx) (nt := 11) (rs := [.tmp 2]) Try.func44 rfl rfl rfl rfl mo (by kernel_rfl) rfl rfl (fun hf => ?_)
  simp only [go_sem, reduceIte, Nat.reduceEqDiff, Nat.reduceAdd, Nat.reduceLT, Nat.reduceLeDiff, Nat.reduceBEq, Nat.reduceMul, Nat.reduceSub, Int.reduceNeg, Int.reduceLT, Int.reduceLE, Int.reduceEq, Int.reduceToNat, tt3, tt4, tt22, tt24, tt29, tt26, tt30, tt36, ti3, ti22, ti29, ti26, ints]
  refine aops_pure' (min_pure x r) rfl rfl (by first | exact wk_refls _ | (repeat constructor)) ?_
  by_cases h : minF x r < -1
  · simp only [go_sem, reduceIte, Nat.reduceEqDiff, Nat.reduceAdd, Nat.reduceLT, Nat.reduceLeDiff, Nat.reduceBEq, Nat.reduceMul, Nat.reduceSub, Int.reduceNeg, Int.reduceLT, Int.reduceLE, Int.reduceEq, Int.reduceToNat, tt3, tt4, tt22, tt24, tt29, tt26, tt30, tt36, ti3, ti22, ti29, ti26, h]
  · simp only [go_sem, reduceIte, Nat.reduceEqDiff, Nat.reduceAdd, Nat.reduceLT, Nat.reduceLeDiff, Nat.reduceBEq, Nat.reduceMul, Nat.reduceSub, Int.reduceNeg, Int.reduceLT, Int.reduceLE, Int.reduceEq, Int.reduceToNat, tt3, tt4, tt22, tt24, tt29, tt26, tt30, tt36, ti3, ti22, ti29, ti26, h]
    refine aops_pure' (max_pure x r) rfl rfl (by first | exact wk_refls _ | (repeat constructor)) ?_
    simp only [go_sem, reduceIte, Nat.reduceEqDiff, Nat.reduceAdd, Nat.reduceLT, Nat.reduceLeDiff, Nat.reduceBEq, Nat.reduceMul, Nat.reduceSub, Int.reduceNeg, Int.reduceLT, Int.reduceLE, Int.reduceEq, Int.reduceToNat, tt3, tt4, tt22, tt24, tt29, tt26, tt30, tt36, ti3, ti22, ti29, ti26, h]
    try simp [h, wkv_refl]
set_option maxHeartbeats 1000000 in
theorem chk47 (r : List Int) (hr : ∀ x ∈ r, -1 ≤ x ∧ x ≤ 1) : Pure Try.prog 47 [ints r] (B (decide (r.sum ≠ 0))) := by
  refine pure_wk (X := tx) (nt := 6) (rs := [.tmp 2]) Try.func47 rfl rfl rfl rfl mo (by kernel_rfl) rfl rfl (fun hf => ?_)
  simp only [go_sem, reduceIte, Nat.reduceEqDiff, Nat.reduceAdd, Nat.reduceLT, Nat.reduceLeDiff, Nat.reduceBEq, Nat.reduceMul, Nat.reduceSub, Int.reduceNeg, Int.reduceLT, Int.reduceLE, Int.reduceEq, Int.reduceToNat, tt3, tt4, tt22, tt24, tt29, tt26, tt30, tt36, ti3, ti22, ti29, ti26, ints]
  refine aops_pure' (sum_pure r hr) rfl rfl (by first | exact wk_refls _ | (repeat constructor)) ?_
  simp only [go_sem, reduceIte, Nat.reduceEqDiff, Nat.reduceAdd, Nat.reduceLT, Nat.reduceLeDiff, Nat.reduceBEq, Nat.reduceMul, Nat.reduceSub, Int.reduceNeg, Int.reduceLT, Int.reduceLE, Int.reduceEq, Int.reduceToNat, tt3, tt4, tt22, tt24, tt29, tt26, tt30, tt36, ti3, ti22, ti29, ti26]
  try simp [wkv_refl]

theorem minF_le : ∀ (l : List Int) (x : Int), minF x l ≤ x ∧ ∀ y ∈ l, minF x l ≤ y
  | [], x => by simp [minF]
  | z :: l, x => by
    have ih := minF_le l (min x z)
    have e : minF x (z :: l) = minF (min x z) l := rfl
    rw [e]
    refine ⟨by omega, fun y hy => ?_⟩
    rcases List.mem_cons.1 hy with rfl | hy
    · omega
    · exact ih.2 y hy
theorem maxF_ge : ∀ (l : List Int) (x : Int), x ≤ maxF x l ∧ ∀ y ∈ l, y ≤ maxF x l
  | [], x => by simp [maxF]
  | z :: l, x => by
    have ih := maxF_ge l (max x z)
    have e : maxF x (z :: l) = maxF (max x z) l := rfl
    rw [e]
    refine ⟨by omega, fun y hy => ?_⟩
    rcases List.mem_cons.1 hy with rfl | hy
    · omega
    · exact ih.2 y hy
theorem minF_mem : ∀ (l : List Int) (x : Int), minF x l ∈ x :: l
  | [], x => by simp [minF]
  | z :: l, x => by
    have ih := minF_mem l (min x z)
    have e : minF x (z :: l) = minF (min x z) l := rfl
    rw [e]
    rcases List.mem_cons.1 ih with h | h
    · rw [h]; rcases Int.le_total x z with h1 | h1
      · rw [Int.min_eq_left h1]; simp
      · rw [Int.min_eq_right h1]; simp
    · simp [h]
theorem maxF_mem : ∀ (l : List Int) (x : Int), maxF x l ∈ x :: l
  | [], x => by simp [maxF]
  | z :: l, x => by
    have ih := maxF_mem l (max x z)
    have e : maxF x (z :: l) = maxF (max x z) l := rfl
    rw [e]
    rcases List.mem_cons.1 ih with h | h
    · rw [h]; rcases Int.le_total x z with h1 | h1
      · rw [Int.max_eq_right h1]; simp
      · rw [Int.max_eq_left h1]; simp
    · simp [h]
theorem rng_any (x : Int) (l : List Int) : decide (minF x l < -1 ∨ 1 < maxF x l) = (x :: l).any (fun y => decide (y < -1 ∨ 1 < y)) := by
  rw [Bool.eq_iff_iff, decide_eq_true_eq, List.any_eq_true]
  constructor
  · rintro (h | h)
    · exact ⟨_, minF_mem l x, by simp; omega⟩
    · exact ⟨_, maxF_mem l x, by simp; omega⟩
  · rintro ⟨y, hy, h⟩
    have h : y < -1 ∨ 1 < y := by simpa using h
    have a1 := minF_le l x
    have a2 := maxF_ge l x
    rcases List.mem_cons.1 hy with rfl | hy
    · omega
    · have := a1.2 y hy; have := a2.2 y hy; omega

theorem any_congr {α : Type} {l : List α} {p q : α → Bool} (h : ∀ x ∈ l, p x = q x) : l.any p = l.any q := by
  rw [Bool.eq_iff_iff, List.any_eq_true, List.any_eq_true]
  exact ⟨fun ⟨x, hx, hp⟩ => ⟨x, hx, by rw [← h x hx]; exact hp⟩, fun ⟨x, hx, hp⟩ => ⟨x, hx, by rw [h x hx]; exact hp⟩⟩

set_option maxHeartbeats 1000000 in
theorem checkPlan_pure (n : Int) (rows : List (List Int)) : Pure Try.prog 18 [planV n rows] (I (okPlan n rows)) := by
  refine pure_wk (X := tx) (nt := 30) (rs := [.tmp 2]) Try.func18 rfl rfl rfl rfl mo (by kernel_rfl) rfl rfl (fun hf => ?_)
  simp only [go_sem, reduceIte, Nat.reduceEqDiff, Nat.reduceAdd, Nat.reduceLT, Nat.reduceLeDiff, Nat.reduceBEq, Nat.reduceMul, Nat.reduceSub, Int.reduceNeg, Int.reduceLT, Int.reduceLE, Int.reduceEq, Int.reduceToNat, tt3, tt4, tt22, tt24, tt29, tt26, tt30, tt36, ti3, ti22, ti29, ti26, planV, planC]
  refine go_if (fun h => ?_) (fun h => ?_)
  · have h4 : 4 < rows.length := by simp at h; omega
    simp only [go_sem, reduceIte, Nat.reduceEqDiff, Nat.reduceAdd, Nat.reduceLT, Nat.reduceLeDiff, Nat.reduceBEq, Nat.reduceMul, Nat.reduceSub, Int.reduceNeg, Int.reduceLT, Int.reduceLE, Int.reduceEq, Int.reduceToNat, tt3, tt4, tt22, tt24, tt29, tt26, tt30, tt36, ti3, ti22, ti29, ti26, okPlan, h4]
  have h4 : ¬ 4 < rows.length := by simp at h; omega
  by_cases h1 : n < 1
  · simp only [go_sem, reduceIte, Nat.reduceEqDiff, Nat.reduceAdd, Nat.reduceLT, Nat.reduceLeDiff, Nat.reduceBEq, Nat.reduceMul, Nat.reduceSub, Int.reduceNeg, Int.reduceLT, Int.reduceLE, Int.reduceEq, Int.reduceToNat, tt3, tt4, tt22, tt24, tt29, tt26, tt30, tt36, ti3, ti22, ti29, ti26, h1, okPlan, h4]
  simp only [go_sem, reduceIte, Nat.reduceEqDiff, Nat.reduceAdd, Nat.reduceLT, Nat.reduceLeDiff, Nat.reduceBEq, Nat.reduceMul, Nat.reduceSub, Int.reduceNeg, Int.reduceLT, Int.reduceLE, Int.reduceEq, Int.reduceToNat, tt3, tt4, tt22, tt24, tt29, tt26, tt30, tt36, ti3, ti22, ti29, ti26, h1]
  refine go_if (fun h => ?_) (fun h => ?_)
  · have h39 : 39 < n := by simpa using h
    simp only [go_sem, reduceIte, Nat.reduceEqDiff, Nat.reduceAdd, Nat.reduceLT, Nat.reduceLeDiff, Nat.reduceBEq, Nat.reduceMul, Nat.reduceSub, Int.reduceNeg, Int.reduceLT, Int.reduceLE, Int.reduceEq, Int.reduceToNat, tt3, tt4, tt22, tt24, tt29, tt26, tt30, tt36, ti3, ti22, ti29, ti26, okPlan, h4, h1, h39]
  have h39 : ¬ 39 < n := by simpa using h
  simp only [go_sem, reduceIte, Nat.reduceEqDiff, Nat.reduceAdd, Nat.reduceLT, Nat.reduceLeDiff, Nat.reduceBEq, Nat.reduceMul, Nat.reduceSub, Int.reduceNeg, Int.reduceLT, Int.reduceLE, Int.reduceEq, Int.reduceToNat, tt3, tt4, tt22, tt24, tt29, tt26, tt30, tt36, ti3, ti22, ti29, ti26]
  have e0 : okPlan n rows = if rows.any (fun r => decide ((r.length : Int) ≠ n)) then 15 else
      if rows.any (fun r => r.any (fun x => decide (x < -1 ∨ 1 < x))) then 3 else
      if rows.any (fun r => decide (r.sum ≠ 0)) then 16 else 0 := by simp [okPlan, h4, h1, h39]
  rw [e0]
  have c1 := has42 rows 43 [.ptr 0 0] (fun r => decide ((r.length : Int) ≠ n)) [.cells (planC n rows)] rfl rfl (fun r _ => chk43 n rows r)
  refine aops_at (c1) rfl rfl (by first | exact wk_refls _ | (repeat constructor)) ?_
  simp only [go_sem, reduceIte, Nat.reduceEqDiff, Nat.reduceAdd, Nat.reduceLT, Nat.reduceLeDiff, Nat.reduceBEq, Nat.reduceMul, Nat.reduceSub, Int.reduceNeg, Int.reduceLT, Int.reduceLE, Int.reduceEq, Int.reduceToNat, tt3, tt4, tt22, tt24, tt29, tt26, tt30, tt36, ti3, ti22, ti29, ti26]
  refine go_if (fun hl => ?_) (fun hl => ?_)
  · simp only [go_sem, reduceIte, Nat.reduceEqDiff, Nat.reduceAdd, Nat.reduceLT, Nat.reduceLeDiff, Nat.reduceBEq, Nat.reduceMul, Nat.reduceSub, Int.reduceNeg, Int.reduceLT, Int.reduceLE, Int.reduceEq, Int.reduceToNat, tt3, tt4, tt22, tt24, tt29, tt26, tt30, tt36, ti3, ti22, ti29, ti26, hl]
  simp only [go_sem, reduceIte, Nat.reduceEqDiff, Nat.reduceAdd, Nat.reduceLT, Nat.reduceLeDiff, Nat.reduceBEq, Nat.reduceMul, Nat.reduceSub, Int.reduceNeg, Int.reduceLT, Int.reduceLE, Int.reduceEq, Int.reduceToNat, tt3, tt4, tt22, tt24, tt29, tt26, tt30, tt36, ti3, ti22, ti29, ti26, hl, planC]
  have hl2 : ∀ r ∈ rows, (r.length : Int) = n := by simpa using hl
  have c2 := has42 rows 44 [] (fun r => r.any (fun x => decide (x < -1 ∨ 1 < x))) [.cells (planC n rows)] rfl rfl (fun r hr => by
    cases r with
    | nil => have := hl2 [] hr; simp at this; omega
    | cons x l => rw [← rng_any]; exact (chk44 x l).at _)
  refine aops_at (c2) rfl rfl (by first | exact wk_refls _ | (repeat constructor)) ?_
  simp only [go_sem, reduceIte, Nat.reduceEqDiff, Nat.reduceAdd, Nat.reduceLT, Nat.reduceLeDiff, Nat.reduceBEq, Nat.reduceMul, Nat.reduceSub, Int.reduceNeg, Int.reduceLT, Int.reduceLE, Int.reduceEq, Int.reduceToNat, tt3, tt4, tt22, tt24, tt29, tt26, tt30, tt36, ti3, ti22, ti29, ti26]
  refine go_if (fun hr => ?_) (fun hr => ?_)
  · simp only [go_sem, reduceIte, Nat.reduceEqDiff, Nat.reduceAdd, Nat.reduceLT, Nat.reduceLeDiff, Nat.reduceBEq, Nat.reduceMul, Nat.reduceSub, Int.reduceNeg, Int.reduceLT, Int.reduceLE, Int.reduceEq, Int.reduceToNat, tt3, tt4, tt22, tt24, tt29, tt26, tt30, tt36, ti3, ti22, ti29, ti26, hr]
  simp only [go_sem, reduceIte, Nat.reduceEqDiff, Nat.reduceAdd, Nat.reduceLT, Nat.reduceLeDiff, Nat.reduceBEq, Nat.reduceMul, Nat.reduceSub, Int.reduceNeg, Int.reduceLT, Int.reduceLE, Int.reduceEq, Int.reduceToNat, tt3, tt4, tt22, tt24, tt29, tt26, tt30, tt36, ti3, ti22, ti29, ti26, hr, planC]
  have hsm : ∀ r ∈ rows, ∀ x ∈ r, -1 ≤ x ∧ x ≤ 1 := by
    intro r hr' x hx
    have h1 := List.any_eq_false.1 hr r hr'
    simp only [Bool.not_eq_true] at h1
    have h2 := List.any_eq_false.1 h1 x hx
    simp at h2; omega
  have c3 := has42 rows 47 [] (fun r => decide (r.sum ≠ 0)) [.cells (planC n rows)] rfl rfl (fun r hr => (chk47 r (hsm r hr)).at _)
  refine aops_at (c3) rfl rfl (by first | exact wk_refls _ | (repeat constructor)) ?_
  simp only [go_sem, reduceIte, Nat.reduceEqDiff, Nat.reduceAdd, Nat.reduceLT, Nat.reduceLeDiff, Nat.reduceBEq, Nat.reduceMul, Nat.reduceSub, Int.reduceNeg, Int.reduceLT, Int.reduceLE, Int.reduceEq, Int.reduceToNat, tt3, tt4, tt22, tt24, tt29, tt26, tt30, tt36, ti3, ti22, ti29, ti26]
  refine go_if (fun hz => ?_) (fun hz => ?_)
  · simp only [go_sem, reduceIte, Nat.reduceEqDiff, Nat.reduceAdd, Nat.reduceLT, Nat.reduceLeDiff, Nat.reduceBEq, Nat.reduceMul, Nat.reduceSub, Int.reduceNeg, Int.reduceLT, Int.reduceLE, Int.reduceEq, Int.reduceToNat, tt3, tt4, tt22, tt24, tt29, tt26, tt30, tt36, ti3, ti22, ti29, ti26, hz]
  · simp only [go_sem, reduceIte, Nat.reduceEqDiff, Nat.reduceAdd, Nat.reduceLT, Nat.reduceLeDiff, Nat.reduceBEq, Nat.reduceMul, Nat.reduceSub, Int.reduceNeg, Int.reduceLT, Int.reduceLE, Int.reduceEq, Int.reduceToNat, tt3, tt4, tt22, tt24, tt29, tt26, tt30, tt36, ti3, ti22, ti29, ti26, hz]
end Go.Proofs.Ytklmpopomokglaa
