/- atlas.CheckPlan. -/
import Derived.Test.YtklmpopomokglaaMU
set_option linter.unusedSimpArgs false
set_option linter.unusedVariables false
namespace Go.Proofs.Ytklmpopomokglaa
open Go Go.Abs Go.Proofs

set_option maxHeartbeats 1000000 in
theorem sum_pure (l : List Int) (hl : ∀ x ∈ l, -1 ≤ x ∧ x ≤ 1) : Pure Try.prog 48 [ints l] (I l.sum) := by
  refine pure_wk (X := tx) (nt := 17) (rs := [.tmp 2]) Try.func48 rfl rfl rfl rfl mo (by kernel_rfl) rfl rfl (fun hf => ?_)
  have hfit := fit_ints (hf (ints l) (by simp))
  simp only [go_sem, reduceIte, Nat.reduceEqDiff, Nat.reduceAdd, Nat.reduceLT, Nat.reduceLeDiff, Nat.reduceBEq, Nat.reduceMul, Nat.reduceSub, Nat.reduceDiv, Int.reduceNeg, Int.reduceLT, Int.reduceLE, Int.reduceEq, Int.reduceToNat, tt3, tt4, tt22, tt24, tt29, tt26, tt30, tt36, ti3, ti22, ti29, ti26, ints]
  refine go_loop (fun i : Nat => { slots := [(3, I (l.take i).sum), (6, ints l), (7, I l.length), (8, I i)], heap := [], marks := [] }) (fun i => i ≤ l.length) (fun i => l.length - i) 0 mo (by kernel_rfl) ?_ (Nat.zero_le _) ?_
  · refine ent_weaken [] rfl rfl (Nat.zero_le _) rfl rfl ?_
    simp only [go_sem, reduceIte, Nat.reduceEqDiff, Nat.reduceAdd, Nat.reduceLT, Nat.reduceLeDiff, Nat.reduceBEq, Nat.reduceMul, Nat.reduceSub, Nat.reduceDiv, Int.reduceNeg, Int.reduceLT, Int.reduceLE, Int.reduceEq, Int.reduceToNat, tt3, tt4, tt22, tt24, tt29, tt26, tt30, tt36, ti3, ti22, ti29, ti26, ints]
    exact ⟨.refl _, .refl _⟩
  rintro i hi
  simp only [go_sem, reduceIte, Nat.reduceEqDiff, Nat.reduceAdd, Nat.reduceLT, Nat.reduceLeDiff, Nat.reduceBEq, Nat.reduceMul, Nat.reduceSub, Nat.reduceDiv, Int.reduceNeg, Int.reduceLT, Int.reduceLE, Int.reduceEq, Int.reduceToNat, tt3, tt4, tt22, tt24, tt29, tt26, tt30, tt36, ti3, ti22, ti29, ti26, ints]
  refine go_if (fun h => ?_) (fun h => ?_)
  · have hlt : i < l.length := by simpa using h
    obtain ⟨x, hx⟩ := get_of_lt hlt
    have hb := sum_bound l i hl
    have hxb := hl x (List.mem_of_getElem? hx)
    have hw : wr .i64 ((l.take i).sum + x) = (l.take (i + 1)).sum := by rw [sum_take hx, wr_i64] <;> omega
    simp only [go_sem, reduceIte, Nat.reduceEqDiff, Nat.reduceAdd, Nat.reduceLT, Nat.reduceLeDiff, Nat.reduceBEq, Nat.reduceMul, Nat.reduceSub, Nat.reduceDiv, Int.reduceNeg, Int.reduceLT, Int.reduceLE, Int.reduceEq, Int.reduceToNat, tt3, tt4, tt22, tt24, tt29, tt26, tt30, tt36, ti3, ti22, ti29, ti26, hx, iD, wr_succ hlt hfit, hw]
    refine ⟨by simp [hlt], i + 1, hlt, by omega, ?_⟩
    refine ent_weaken [] rfl rfl (Nat.zero_le _) rfl rfl ?_
    simp only [go_sem, reduceIte, Nat.reduceEqDiff, Nat.reduceAdd, Nat.reduceLT, Nat.reduceLeDiff, Nat.reduceBEq, Nat.reduceMul, Nat.reduceSub, Nat.reduceDiv, Int.reduceNeg, Int.reduceLT, Int.reduceLE, Int.reduceEq, Int.reduceToNat, tt3, tt4, tt22, tt24, tt29, tt26, tt30, tt36, ti3, ti22, ti29, ti26, ints]
  · have hi' : i = l.length := by simp at h; omega
    subst hi'
    simp only [go_sem, reduceIte, Nat.reduceEqDiff, Nat.reduceAdd, Nat.reduceLT, Nat.reduceLeDiff, Nat.reduceBEq, Nat.reduceMul, Nat.reduceSub, Nat.reduceDiv, Int.reduceNeg, Int.reduceLT, Int.reduceLE, Int.reduceEq, Int.reduceToNat, tt3, tt4, tt22, tt24, tt29, tt26, tt30, tt36, ti3, ti22, ti29, ti26, List.take_length]

def minF (x : Int) (l : List Int) : Int := l.foldl min x
def maxF (x : Int) (l : List Int) : Int := l.foldl max x

set_option maxHeartbeats 1000000 in
theorem min_pure (x : Int) (l : List Int) : Pure Try.prog 45 [ints (x :: l)] (I (minF x l)) := by
  refine pure_wk (X := tx) (nt := 25) (rs := [.tmp 2]) Try.func45 rfl rfl rfl rfl mo (by kernel_rfl) rfl rfl (fun hf => ?_)
  have hfit := fit_ints (hf (ints (x :: l)) (by simp))
  simp only [go_sem, reduceIte, Nat.reduceEqDiff, Nat.reduceAdd, Nat.reduceLT, Nat.reduceLeDiff, Nat.reduceBEq, Nat.reduceMul, Nat.reduceSub, Nat.reduceDiv, Int.reduceNeg, Int.reduceLT, Int.reduceLE, Int.reduceEq, Int.reduceToNat, tt3, tt4, tt22, tt24, tt29, tt26, tt30, tt36, ti3, ti22, ti29, ti26, ints]
  refine go_if (fun h => ?_) (fun h => ?_)
  · simp at h; try omega
  simp only [go_sem, reduceIte, Nat.reduceEqDiff, Nat.reduceAdd, Nat.reduceLT, Nat.reduceLeDiff, Nat.reduceBEq, Nat.reduceMul, Nat.reduceSub, Nat.reduceDiv, Int.reduceNeg, Int.reduceLT, Int.reduceLE, Int.reduceEq, Int.reduceToNat, tt3, tt4, tt22, tt24, tt29, tt26, tt30, tt36, ti3, ti22, ti29, ti26, iD]
  refine ⟨by simp; try omega, ?_⟩
  refine go_loop (fun i : Nat => { slots := [(0, ints (x :: l)), (3, I (minF x (l.take i))), (4, I ((i + 1 : Nat) : Int))], heap := [], marks := [] }) (fun i => i ≤ l.length) (fun i => l.length - i) 0 mo (by kernel_rfl) ?_ (Nat.zero_le _) ?_
  · refine ent_weaken [] rfl rfl (Nat.zero_le _) rfl rfl ?_
    simp only [go_sem, reduceIte, Nat.reduceEqDiff, Nat.reduceAdd, Nat.reduceLT, Nat.reduceLeDiff, Nat.reduceBEq, Nat.reduceMul, Nat.reduceSub, Nat.reduceDiv, Int.reduceNeg, Int.reduceLT, Int.reduceLE, Int.reduceEq, Int.reduceToNat, tt3, tt4, tt22, tt24, tt29, tt26, tt30, tt36, ti3, ti22, ti29, ti26, ints, minF]
    exact ⟨.refl _, .refl _, .refl _⟩
  rintro i hi
  simp only [go_sem, reduceIte, Nat.reduceEqDiff, Nat.reduceAdd, Nat.reduceLT, Nat.reduceLeDiff, Nat.reduceBEq, Nat.reduceMul, Nat.reduceSub, Nat.reduceDiv, Int.reduceNeg, Int.reduceLT, Int.reduceLE, Int.reduceEq, Int.reduceToNat, tt3, tt4, tt22, tt24, tt29, tt26, tt30, tt36, ti3, ti22, ti29, ti26, ints]
  refine go_if (fun h => ?_) (fun h => ?_)
  · have hlt : i < l.length := by simp at h; omega
    obtain ⟨y, hy⟩ := get_of_lt hlt
    have hy' : (x :: l)[i + 1]? = some y := by simpa using hy
    have hw := wr_succ (i := i + 1) (n := (x :: l).length) (by simp; omega) hfit
    have hm : minF x (l.take (i + 1)) = min (minF x (l.take i)) y := by rw [take_succ_eq hy]; simp [minF]
    simp only [go_sem, reduceIte, Nat.reduceEqDiff, Nat.reduceAdd, Nat.reduceLT, Nat.reduceLeDiff, Nat.reduceBEq, Nat.reduceMul, Nat.reduceSub, Nat.reduceDiv, Int.reduceNeg, Int.reduceLT, Int.reduceLE, Int.reduceEq, Int.reduceToNat, tt3, tt4, tt22, tt24, tt29, tt26, tt30, tt36, ti3, ti22, ti29, ti26, hy', iD, hw, minL, hy]
    refine ⟨by simp [hlt]; omega, i + 1, hlt, by omega, ?_⟩
    refine ent_weaken [] rfl rfl (Nat.zero_le _) rfl rfl ?_
    simp only [go_sem, reduceIte, Nat.reduceEqDiff, Nat.reduceAdd, Nat.reduceLT, Nat.reduceLeDiff, Nat.reduceBEq, Nat.reduceMul, Nat.reduceSub, Nat.reduceDiv, Int.reduceNeg, Int.reduceLT, Int.reduceLE, Int.reduceEq, Int.reduceToNat, tt3, tt4, tt22, tt24, tt29, tt26, tt30, tt36, ti3, ti22, ti29, ti26, ints, iD, hm]
  · have hi' : i = l.length := by simp at h; omega
    subst hi'
    simp only [go_sem, reduceIte, Nat.reduceEqDiff, Nat.reduceAdd, Nat.reduceLT, Nat.reduceLeDiff, Nat.reduceBEq, Nat.reduceMul, Nat.reduceSub, Nat.reduceDiv, Int.reduceNeg, Int.reduceLT, Int.reduceLE, Int.reduceEq, Int.reduceToNat, tt3, tt4, tt22, tt24, tt29, tt26, tt30, tt36, ti3, ti22, ti29, ti26, List.take_length]

set_option maxHeartbeats 1000000 in
theorem max_pure (x : Int) (l : List Int) : Pure Try.prog 46 [ints (x :: l)] (I (maxF x l)) := by
  refine pure_wk (X := tx) (nt := 25) (rs := [.tmp 2]) Try.func46 rfl rfl rfl rfl mo (by kernel_rfl) rfl rfl (fun hf => ?_)
  have hfit := fit_ints (hf (ints (x :: l)) (by simp))
  simp only [go_sem, reduceIte, Nat.reduceEqDiff, Nat.reduceAdd, Nat.reduceLT, Nat.reduceLeDiff, Nat.reduceBEq, Nat.reduceMul, Nat.reduceSub, Nat.reduceDiv, Int.reduceNeg, Int.reduceLT, Int.reduceLE, Int.reduceEq, Int.reduceToNat, tt3, tt4, tt22, tt24, tt29, tt26, tt30, tt36, ti3, ti22, ti29, ti26, ints]
  refine go_if (fun h => ?_) (fun h => ?_)
  · simp at h; try omega
  simp only [go_sem, reduceIte, Nat.reduceEqDiff, Nat.reduceAdd, Nat.reduceLT, Nat.reduceLeDiff, Nat.reduceBEq, Nat.reduceMul, Nat.reduceSub, Nat.reduceDiv, Int.reduceNeg, Int.reduceLT, Int.reduceLE, Int.reduceEq, Int.reduceToNat, tt3, tt4, tt22, tt24, tt29, tt26, tt30, tt36, ti3, ti22, ti29, ti26, iD]
  refine ⟨by simp; try omega, ?_⟩
  refine go_loop (fun i : Nat => { slots := [(0, ints (x :: l)), (3, I (maxF x (l.take i))), (4, I ((i + 1 : Nat) : Int))], heap := [], marks := [] }) (fun i => i ≤ l.length) (fun i => l.length - i) 0 mo (by kernel_rfl) ?_ (Nat.zero_le _) ?_
  · refine ent_weaken [] rfl rfl (Nat.zero_le _) rfl rfl ?_
    simp only [go_sem, reduceIte, Nat.reduceEqDiff, Nat.reduceAdd, Nat.reduceLT, Nat.reduceLeDiff, Nat.reduceBEq, Nat.reduceMul, Nat.reduceSub, Nat.reduceDiv, Int.reduceNeg, Int.reduceLT, Int.reduceLE, Int.reduceEq, Int.reduceToNat, tt3, tt4, tt22, tt24, tt29, tt26, tt30, tt36, ti3, ti22, ti29, ti26, ints, maxF]
    exact ⟨.refl _, .refl _, .refl _⟩
  rintro i hi
  simp only [go_sem, reduceIte, Nat.reduceEqDiff, Nat.reduceAdd, Nat.reduceLT, Nat.reduceLeDiff, Nat.reduceBEq, Nat.reduceMul, Nat.reduceSub, Nat.reduceDiv, Int.reduceNeg, Int.reduceLT, Int.reduceLE, Int.reduceEq, Int.reduceToNat, tt3, tt4, tt22, tt24, tt29, tt26, tt30, tt36, ti3, ti22, ti29, ti26, ints]
  refine go_if (fun h => ?_) (fun h => ?_)
  · have hlt : i < l.length := by simp at h; omega
    obtain ⟨y, hy⟩ := get_of_lt hlt
    have hy' : (x :: l)[i + 1]? = some y := by simpa using hy
    have hw := wr_succ (i := i + 1) (n := (x :: l).length) (by simp; omega) hfit
    have hm : maxF x (l.take (i + 1)) = max (maxF x (l.take i)) y := by rw [take_succ_eq hy]; simp [maxF]
    simp only [go_sem, reduceIte, Nat.reduceEqDiff, Nat.reduceAdd, Nat.reduceLT, Nat.reduceLeDiff, Nat.reduceBEq, Nat.reduceMul, Nat.reduceSub, Nat.reduceDiv, Int.reduceNeg, Int.reduceLT, Int.reduceLE, Int.reduceEq, Int.reduceToNat, tt3, tt4, tt22, tt24, tt29, tt26, tt30, tt36, ti3, ti22, ti29, ti26, hy', iD, hw, maxL, hy]
    refine ⟨by simp [hlt]; omega, i + 1, hlt, by omega, ?_⟩
    refine ent_weaken [] rfl rfl (Nat.zero_le _) rfl rfl ?_
    simp only [go_sem, reduceIte, Nat.reduceEqDiff, Nat.reduceAdd, Nat.reduceLT, Nat.reduceLeDiff, Nat.reduceBEq, Nat.reduceMul, Nat.reduceSub, Nat.reduceDiv, Int.reduceNeg, Int.reduceLT, Int.reduceLE, Int.reduceEq, Int.reduceToNat, tt3, tt4, tt22, tt24, tt29, tt26, tt30, tt36, ti3, ti22, ti29, ti26, ints, iD, hm]
  · have hi' : i = l.length := by simp at h; omega
    subst hi'
    simp only [go_sem, reduceIte, Nat.reduceEqDiff, Nat.reduceAdd, Nat.reduceLT, Nat.reduceLeDiff, Nat.reduceBEq, Nat.reduceMul, Nat.reduceSub, Nat.reduceDiv, Int.reduceNeg, Int.reduceLT, Int.reduceLE, Int.reduceEq, Int.reduceToNat, tt3, tt4, tt22, tt24, tt29, tt26, tt30, tt36, ti3, ti22, ti29, ti26, List.take_length]


set_option maxHeartbeats 1000000 in
theorem chk43 (n : Int) (rows : List (List Int)) (r : List Int) : ACall Try.prog 43 [ints r, .c (.ptr 0 0)] [.cells (planC n rows)] (one (B (decide ((r.length : Int) ≠ n))) [.cells (planC n rows)]) := by
  refine acall_at (X := tx) (nt := 9) (rs := [.tmp 3]) Try.func43 rfl rfl rfl rfl mo (by kernel_rfl) rfl rfl (fun hf => ?_)
  simp only [go_sem, reduceIte, Nat.reduceEqDiff, Nat.reduceAdd, Nat.reduceLT, Nat.reduceLeDiff, Nat.reduceBEq, Nat.reduceMul, Nat.reduceSub, Nat.reduceDiv, Int.reduceNeg, Int.reduceLT, Int.reduceLE, Int.reduceEq, Int.reduceToNat, tt3, tt4, tt22, tt24, tt29, tt26, tt30, tt36, ti3, ti22, ti29, ti26, ints, planC]
  exact ⟨by simp [wkv_refl], [], rfl⟩
set_option maxHeartbeats 1000000 in
theorem chk44 (x : Int) (r : List Int) : Pure Try.prog 44 [ints (x :: r)] (B (decide (minF x r < -1 ∨ 1 < maxF x r))) := by
  refine pure_wk (X := tx) (nt := 11) (rs := [.tmp 2]) Try.func44 rfl rfl rfl rfl mo (by kernel_rfl) rfl rfl (fun hf => ?_)
  simp only [go_sem, reduceIte, Nat.reduceEqDiff, Nat.reduceAdd, Nat.reduceLT, Nat.reduceLeDiff, Nat.reduceBEq, Nat.reduceMul, Nat.reduceSub, Nat.reduceDiv, Int.reduceNeg, Int.reduceLT, Int.reduceLE, Int.reduceEq, Int.reduceToNat, tt3, tt4, tt22, tt24, tt29, tt26, tt30, tt36, ti3, ti22, ti29, ti26, ints]
  refine aops_pure' (min_pure x r) rfl rfl (by first | exact wk_refls _ | (repeat constructor)) ?_
  by_cases h : minF x r < -1
  · simp only [go_sem, reduceIte, Nat.reduceEqDiff, Nat.reduceAdd, Nat.reduceLT, Nat.reduceLeDiff, Nat.reduceBEq, Nat.reduceMul, Nat.reduceSub, Nat.reduceDiv, Int.reduceNeg, Int.reduceLT, Int.reduceLE, Int.reduceEq, Int.reduceToNat, tt3, tt4, tt22, tt24, tt29, tt26, tt30, tt36, ti3, ti22, ti29, ti26, h]
  · simp only [go_sem, reduceIte, Nat.reduceEqDiff, Nat.reduceAdd, Nat.reduceLT, Nat.reduceLeDiff, Nat.reduceBEq, Nat.reduceMul, Nat.reduceSub, Nat.reduceDiv, Int.reduceNeg, Int.reduceLT, Int.reduceLE, Int.reduceEq, Int.reduceToNat, tt3, tt4, tt22, tt24, tt29, tt26, tt30, tt36, ti3, ti22, ti29, ti26, h]
    refine aops_pure' (max_pure x r) rfl rfl (by first | exact wk_refls _ | (repeat constructor)) ?_
    simp only [go_sem, reduceIte, Nat.reduceEqDiff, Nat.reduceAdd, Nat.reduceLT, Nat.reduceLeDiff, Nat.reduceBEq, Nat.reduceMul, Nat.reduceSub, Nat.reduceDiv, Int.reduceNeg, Int.reduceLT, Int.reduceLE, Int.reduceEq, Int.reduceToNat, tt3, tt4, tt22, tt24, tt29, tt26, tt30, tt36, ti3, ti22, ti29, ti26, h]
    try simp [h, wkv_refl]
set_option maxHeartbeats 1000000 in
theorem chk47 (r : List Int) (hr : ∀ x ∈ r, -1 ≤ x ∧ x ≤ 1) : Pure Try.prog 47 [ints r] (B (decide (r.sum ≠ 0))) := by
  refine pure_wk (X := tx) (nt := 6) (rs := [.tmp 2]) Try.func47 rfl rfl rfl rfl mo (by kernel_rfl) rfl rfl (fun hf => ?_)
  simp only [go_sem, reduceIte, Nat.reduceEqDiff, Nat.reduceAdd, Nat.reduceLT, Nat.reduceLeDiff, Nat.reduceBEq, Nat.reduceMul, Nat.reduceSub, Nat.reduceDiv, Int.reduceNeg, Int.reduceLT, Int.reduceLE, Int.reduceEq, Int.reduceToNat, tt3, tt4, tt22, tt24, tt29, tt26, tt30, tt36, ti3, ti22, ti29, ti26, ints]
  refine aops_pure' (sum_pure r hr) rfl rfl (by first | exact wk_refls _ | (repeat constructor)) ?_
  simp only [go_sem, reduceIte, Nat.reduceEqDiff, Nat.reduceAdd, Nat.reduceLT, Nat.reduceLeDiff, Nat.reduceBEq, Nat.reduceMul, Nat.reduceSub, Nat.reduceDiv, Int.reduceNeg, Int.reduceLT, Int.reduceLE, Int.reduceEq, Int.reduceToNat, tt3, tt4, tt22, tt24, tt29, tt26, tt30, tt36, ti3, ti22, ti29, ti26]
  try simp [wkv_refl]

theorem minF_le : ∀ (l : List Int) (x : Int), minF x l ≤ x ∧ ∀ y ∈ l, minF x l ≤ y
  | [], x => by simp [minF]
  | z :: l, x => by
    have ih := minF_le l (min x z)
    have e : minF x (z :: l) = minF (min x z) l := rfl
    rw [e]
    refine ⟨by omega, fun y hy => ?_⟩
    rcases List.mem_cons.1 hy with rfl | hy
    · omega
    · exact ih.2 y hy
theorem maxF_ge : ∀ (l : List Int) (x : Int), x ≤ maxF x l ∧ ∀ y ∈ l, y ≤ maxF x l
  | [], x => by simp [maxF]
  | z :: l, x => by
    have ih := maxF_ge l (max x z)
    have e : maxF x (z :: l) = maxF (max x z) l := rfl
    rw [e]
    refine ⟨by omega, fun y hy => ?_⟩
    rcases List.mem_cons.1 hy with rfl | hy
    · omega
    · exact ih.2 y hy
theorem minF_mem : ∀ (l : List Int) (x : Int), minF x l ∈ x :: l
  | [], x => by simp [minF]
  | z :: l, x => by
    have ih := minF_mem l (min x z)
    have e : minF x (z :: l) = minF (min x z) l := rfl
    rw [e]
    rcases List.mem_cons.1 ih with h | h
    · rw [h]; rcases Int.le_total x z with h1 | h1
      · rw [Int.min_eq_left h1]; simp
      · rw [Int.min_eq_right h1]; simp
    · simp [h]
theorem maxF_mem : ∀ (l : List Int) (x : Int), maxF x l ∈ x :: l
  | [], x => by simp [maxF]
  | z :: l, x => by
    have ih := maxF_mem l (max x z)
    have e : maxF x (z :: l) = maxF (max x z) l := rfl
    rw [e]
    rcases List.mem_cons.1 ih with h | h
    · rw [h]; rcases Int.le_total x z with h1 | h1
      · rw [Int.max_eq_right h1]; simp
      · rw [Int.max_eq_left h1]; simp
    · simp [h]
theorem rng_any (x : Int) (l : List Int) : decide (minF x l < -1 ∨ 1 < maxF x l) = (x :: l).any (fun y => decide (y < -1 ∨ 1 < y)) := by
  rw [Bool.eq_iff_iff, decide_eq_true_eq, List.any_eq_true]
  constructor
  · rintro (h | h)
    · exact ⟨_, minF_mem l x, by simp; omega⟩
    · exact ⟨_, maxF_mem l x, by simp; omega⟩
  · rintro ⟨y, hy, h⟩
    have h : y < -1 ∨ 1 < y := by simpa using h
    have a1 := minF_le l x
    have a2 := maxF_ge l x
    rcases List.mem_cons.1 hy with rfl | hy
    · omega
    · have := a1.2 y hy; have := a2.2 y hy; omega

theorem any_congr {α : Type} {l : List α} {p q : α → Bool} (h : ∀ x ∈ l, p x = q x) : l.any p = l.any q := by
  rw [Bool.eq_iff_iff, List.any_eq_true, List.any_eq_true]
  exact ⟨fun ⟨x, hx, hp⟩ => ⟨x, hx, by rw [← h x hx]; exact hp⟩, fun ⟨x, hx, hp⟩ => ⟨x, hx, by rw [h x hx]; exact hp⟩⟩

set_option maxHeartbeats 1000000 in
theorem checkPlan_pure (n : Int) (rows : List (List Int)) : Pure Try.prog 18 [planV n rows] (I (okPlan n rows)) := by
  refine pure_wk (X := tx) (nt := 30) (rs := [.tmp 2]) Try.func18 rfl rfl rfl rfl mo (by kernel_rfl) rfl rfl (fun hf => ?_)
  simp only [go_sem, reduceIte, Nat.reduceEqDiff, Nat.reduceAdd, Nat.reduceLT, Nat.reduceLeDiff, Nat.reduceBEq, Nat.reduceMul, Nat.reduceSub, Nat.reduceDiv, Int.reduceNeg, Int.reduceLT, Int.reduceLE, Int.reduceEq, Int.reduceToNat, tt3, tt4, tt22, tt24, tt29, tt26, tt30, tt36, ti3, ti22, ti29, ti26, planV, planC]
  refine go_if (fun h => ?_) (fun h => ?_)
  · have h4 : 4 < rows.length := by simp at h; omega
    simp only [go_sem, reduceIte, Nat.reduceEqDiff, Nat.reduceAdd, Nat.reduceLT, Nat.reduceLeDiff, Nat.reduceBEq, Nat.reduceMul, Nat.reduceSub, Nat.reduceDiv, Int.reduceNeg, Int.reduceLT, Int.reduceLE, Int.reduceEq, Int.reduceToNat, tt3, tt4, tt22, tt24, tt29, tt26, tt30, tt36, ti3, ti22, ti29, ti26, okPlan, h4]
  have h4 : ¬ 4 < rows.length := by simp at h; omega
  by_cases h1 : n < 1
  · simp only [go_sem, reduceIte, Nat.reduceEqDiff, Nat.reduceAdd, Nat.reduceLT, Nat.reduceLeDiff, Nat.reduceBEq, Nat.reduceMul, Nat.reduceSub, Nat.reduceDiv, Int.reduceNeg, Int.reduceLT, Int.reduceLE, Int.reduceEq, Int.reduceToNat, tt3, tt4, tt22, tt24, tt29, tt26, tt30, tt36, ti3, ti22, ti29, ti26, h1, okPlan, h4]
  simp only [go_sem, reduceIte, Nat.reduceEqDiff, Nat.reduceAdd, Nat.reduceLT, Nat.reduceLeDiff, Nat.reduceBEq, Nat.reduceMul, Nat.reduceSub, Nat.reduceDiv, Int.reduceNeg, Int.reduceLT, Int.reduceLE, Int.reduceEq, Int.reduceToNat, tt3, tt4, tt22, tt24, tt29, tt26, tt30, tt36, ti3, ti22, ti29, ti26, h1]
  refine go_if (fun h => ?_) (fun h => ?_)
  · have h39 : 39 < n := by simpa using h
    simp only [go_sem, reduceIte, Nat.reduceEqDiff, Nat.reduceAdd, Nat.reduceLT, Nat.reduceLeDiff, Nat.reduceBEq, Nat.reduceMul, Nat.reduceSub, Nat.reduceDiv, Int.reduceNeg, Int.reduceLT, Int.reduceLE, Int.reduceEq, Int.reduceToNat, tt3, tt4, tt22, tt24, tt29, tt26, tt30, tt36, ti3, ti22, ti29, ti26, okPlan, h4, h1, h39]
  have h39 : ¬ 39 < n := by simpa using h
  simp only [go_sem, reduceIte, Nat.reduceEqDiff, Nat.reduceAdd, Nat.reduceLT, Nat.reduceLeDiff, Nat.reduceBEq, Nat.reduceMul, Nat.reduceSub, Nat.reduceDiv, Int.reduceNeg, Int.reduceLT, Int.reduceLE, Int.reduceEq, Int.reduceToNat, tt3, tt4, tt22, tt24, tt29, tt26, tt30, tt36, ti3, ti22, ti29, ti26]
  have e0 : okPlan n rows = if rows.any (fun r => decide ((r.length : Int) ≠ n)) then 15 else
      if rows.any (fun r => r.any (fun x => decide (x < -1 ∨ 1 < x))) then 3 else
      if rows.any (fun r => decide (r.sum ≠ 0)) then 16 else 0 := by simp [okPlan, h4, h1, h39]
  rw [e0]
  have c1 := has42 rows 43 [.ptr 0 0] (fun r => decide ((r.length : Int) ≠ n)) [.cells (planC n rows)] rfl rfl (fun r _ => chk43 n rows r)
  refine aops_at (c1) rfl rfl (by first | exact wk_refls _ | (repeat constructor)) ?_
  simp only [go_sem, reduceIte, Nat.reduceEqDiff, Nat.reduceAdd, Nat.reduceLT, Nat.reduceLeDiff, Nat.reduceBEq, Nat.reduceMul, Nat.reduceSub, Nat.reduceDiv, Int.reduceNeg, Int.reduceLT, Int.reduceLE, Int.reduceEq, Int.reduceToNat, tt3, tt4, tt22, tt24, tt29, tt26, tt30, tt36, ti3, ti22, ti29, ti26]
  refine go_if (fun hl => ?_) (fun hl => ?_)
  · simp only [go_sem, reduceIte, Nat.reduceEqDiff, Nat.reduceAdd, Nat.reduceLT, Nat.reduceLeDiff, Nat.reduceBEq, Nat.reduceMul, Nat.reduceSub, Nat.reduceDiv, Int.reduceNeg, Int.reduceLT, Int.reduceLE, Int.reduceEq, Int.reduceToNat, tt3, tt4, tt22, tt24, tt29, tt26, tt30, tt36, ti3, ti22, ti29, ti26, hl]
  simp only [go_sem, reduceIte, Nat.reduceEqDiff, Nat.reduceAdd, Nat.reduceLT, Nat.reduceLeDiff, Nat.reduceBEq, Nat.reduceMul, Nat.reduceSub, Nat.reduceDiv, Int.reduceNeg, Int.reduceLT, Int.reduceLE, Int.reduceEq, Int.reduceToNat, tt3, tt4, tt22, tt24, tt29, tt26, tt30, tt36, ti3, ti22, ti29, ti26, hl, planC]
  have hl2 : ∀ r ∈ rows, (r.length : Int) = n := by simpa using hl
  have c2 := has42 rows 44 [] (fun r => r.any (fun x => decide (x < -1 ∨ 1 < x))) [.cells (planC n rows)] rfl rfl (fun r hr => by
    cases r with
    | nil => have := hl2 [] hr; simp at this; omega
    | cons x l => rw [← rng_any]; exact (chk44 x l).at _)
  refine aops_at (c2) rfl rfl (by first | exact wk_refls _ | (repeat constructor)) ?_
  simp only [go_sem, reduceIte, Nat.reduceEqDiff, Nat.reduceAdd, Nat.reduceLT, Nat.reduceLeDiff, Nat.reduceBEq, Nat.reduceMul, Nat.reduceSub, Nat.reduceDiv, Int.reduceNeg, Int.reduceLT, Int.reduceLE, Int.reduceEq, Int.reduceToNat, tt3, tt4, tt22, tt24, tt29, tt26, tt30, tt36, ti3, ti22, ti29, ti26]
  refine go_if (fun hr => ?_) (fun hr => ?_)
  · simp only [go_sem, reduceIte, Nat.reduceEqDiff, Nat.reduceAdd, Nat.reduceLT, Nat.reduceLeDiff, Nat.reduceBEq, Nat.reduceMul, Nat.reduceSub, Nat.reduceDiv, Int.reduceNeg, Int.reduceLT, Int.reduceLE, Int.reduceEq, Int.reduceToNat, tt3, tt4, tt22, tt24, tt29, tt26, tt30, tt36, ti3, ti22, ti29, ti26, hr]
  simp only [go_sem, reduceIte, Nat.reduceEqDiff, Nat.reduceAdd, Nat.reduceLT, Nat.reduceLeDiff, Nat.reduceBEq, Nat.reduceMul, Nat.reduceSub, Nat.reduceDiv, Int.reduceNeg, Int.reduceLT, Int.reduceLE, Int.reduceEq, Int.reduceToNat, tt3, tt4, tt22, tt24, tt29, tt26, tt30, tt36, ti3, ti22, ti29, ti26, hr, planC]
  have hsm : ∀ r ∈ rows, ∀ x ∈ r, -1 ≤ x ∧ x ≤ 1 := by
    intro r hr' x hx
    have h1 := List.any_eq_false.1 hr r hr'
    simp only [Bool.not_eq_true] at h1
    have h2 := List.any_eq_false.1 h1 x hx
    simp at h2; omega
  have c3 := has42 rows 47 [] (fun r => decide (r.sum ≠ 0)) [.cells (planC n rows)] rfl rfl (fun r hr => (chk47 r (hsm r hr)).at _)
  refine aops_at (c3) rfl rfl (by first | exact wk_refls _ | (repeat constructor)) ?_
  simp only [go_sem, reduceIte, Nat.reduceEqDiff, Nat.reduceAdd, Nat.reduceLT, Nat.reduceLeDiff, Nat.reduceBEq, Nat.reduceMul, Nat.reduceSub, Nat.reduceDiv, Int.reduceNeg, Int.reduceLT, Int.reduceLE, Int.reduceEq, Int.reduceToNat, tt3, tt4, tt22, tt24, tt29, tt26, tt30, tt36, ti3, ti22, ti29, ti26]
  refine go_if (fun hz => ?_) (fun hz => ?_)
  · simp only [go_sem, reduceIte, Nat.reduceEqDiff, Nat.reduceAdd, Nat.reduceLT, Nat.reduceLeDiff, Nat.reduceBEq, Nat.reduceMul, Nat.reduceSub, Nat.reduceDiv, Int.reduceNeg, Int.reduceLT, Int.reduceLE, Int.reduceEq, Int.reduceToNat, tt3, tt4, tt22, tt24, tt29, tt26, tt30, tt36, ti3, ti22, ti29, ti26, hz]
  · simp only [go_sem, reduceIte, Nat.reduceEqDiff, Nat.reduceAdd, Nat.reduceLT, Nat.reduceLeDiff, Nat.reduceBEq, Nat.reduceMul, Nat.reduceSub, Nat.reduceDiv, Int.reduceNeg, Int.reduceLT, Int.reduceLE, Int.reduceEq, Int.reduceToNat, tt3, tt4, tt22, tt24, tt29, tt26, tt30, tt36, ti3, ti22, ti29, ti26, hz]
end Go.Proofs.Ytklmpopomokglaa
/- The reference of chapter 5, walked: All, Seen, See, Tells, CheckClash, Cases. -/
set_option linter.unusedSimpArgs false
set_option linter.unusedVariables false
namespace Go.Proofs.Ytklmpopomokglaa
open Go Go.Abs Go.Proofs

structure OkP (n : Int) (rows : List (List Int)) : Prop where
  len : rows.length ≤ 4
  n1 : 1 ≤ n
  n39 : n ≤ 39
  eql : ∀ r ∈ rows, (r.length : Int) = n
  rng : ∀ r ∈ rows, ∀ x ∈ r, -1 ≤ x ∧ x ≤ 1
  sum : ∀ r ∈ rows, r.sum = 0
theorem okPlan_ok {n : Int} {rows : List (List Int)} (h : okPlan n rows = 0) : OkP n rows := by
  unfold okPlan at h
  split at h
  · simp at h
  split at h
  · simp at h
  split at h
  · simp at h
  split at h
  · simp at h
  split at h
  · simp at h
  rename_i h1 h2 h3 h4 h5
  refine ⟨by omega, by omega, by omega, fun r hr => ?_, fun r hr x hx => ?_, fun r hr => ?_⟩
  · simp at h3; exact h3 r hr
  · have := h4
    simp only [List.any_eq_true, not_exists, not_and] at this
    have := this r hr x hx
    simp at this; omega
  · simp at h5; exact h5 r hr
theorem OkP.zero {n : Int} {rows : List (List Int)} (h : OkP n rows) : okPlan n rows = 0 := by
  have h1 : rows.any (fun r => decide ((r.length : Int) ≠ n)) = false := by
    rw [List.any_eq_false]; intro r hr; simp [h.eql r hr]
  have h2 : rows.any (fun r => r.any (fun x => decide (x < -1 ∨ 1 < x))) = false := by
    rw [List.any_eq_false]; intro r hr; rw [Bool.not_eq_true, List.any_eq_false]; intro x hx; have := h.rng r hr x hx; simp; omega
  have h3 : rows.any (fun r => decide (r.sum ≠ 0)) = false := by
    rw [List.any_eq_false]; intro r hr; simp [h.sum r hr]
  have := h.len; have := h.n1; have := h.n39
  simp only [okPlan, h1, h2, h3]
  rw [if_neg (by omega), if_neg (by omega)]; simp

structure OkC (n : Int) (c : Int × Int) : Prop where
  lo : 0 ≤ c.1
  hi : c.1 < n
  slo : -1 ≤ c.2
  shi : c.2 ≤ 1
theorem isCase_ok {n : Int} {c : Int × Int} (h1 : 1 ≤ n) (h : isCase n c = true) : OkC n c := by
  unfold isCase at h
  split at h
  · simp at h; exact ⟨by omega, by omega, by omega, by omega⟩
  · simp at h; exact ⟨by omega, by omega, by omega, by omega⟩

def at' (r : List Int) (c : Int) : Int := (r[c.toNat]?).getD 0
def seenL (rows : List (List Int)) (c : Int × Int) : List Int := rows.map (fun r => c.2 * at' r c.1)
theorem at_bound {n : Int} {rows : List (List Int)} (h : OkP n rows) {r : List Int} (hr : r ∈ rows) (c : Int) : -1 ≤ at' r c ∧ at' r c ≤ 1 := by
  unfold at'
  cases hx : r[c.toNat]? with
  | none => simp
  | some x => simpa using h.rng r hr x (List.mem_of_getElem? hx)
theorem mul3 {s x : Int} (h1 : -1 ≤ s) (h2 : s ≤ 1) (h3 : -1 ≤ x) (h4 : x ≤ 1) : -1 ≤ s * x ∧ s * x ≤ 1 := by
  have : s = -1 ∨ s = 0 ∨ s = 1 := by omega
  rcases this with rfl | rfl | rfl <;> omega

set_option maxHeartbeats 1000000 in
theorem seen41 (n : Int) (rows : List (List Int)) (c : Int × Int) (hp : OkP n rows) (hc : OkC n c) : Pure Try.prog 41 [planV n rows, caseV c] (ints (seenL rows c)) := by
  refine pure_wk (X := tx) (nt := 30) (rs := [.tmp 4]) Try.func41 rfl rfl rfl rfl mo (by kernel_rfl) rfl rfl (fun hf => ?_)
  have h4 := hp.len
  simp only [go_sem, reduceIte, Nat.reduceEqDiff, Nat.reduceAdd, Nat.reduceLT, Nat.reduceLeDiff, Nat.reduceBEq, Nat.reduceMul, Nat.reduceSub, Nat.reduceDiv, Int.reduceNeg, Int.reduceLT, Int.reduceLE, Int.reduceEq, Int.reduceToNat, fillC, zc, List.replicate_succ, List.replicate_zero, List.flatten_cons, List.flatten_nil, toDs, toD, chunk, placeS, srcRows, List.all_cons, List.all_nil, List.all_map, Function.comp_def, List.take_nil, List.drop_nil, List.toList_toArray, C.eqbL, eqCs, eqC, List.drop_one, List.tail_cons, lim, tt3, tt4, tt5, tt22, tt24, tt29, tt26, tt30, tt36, ti3, ti22, ti29, ti26, eq26, planV, planC, caseV, cC]
  refine go_loop (fun i : Nat => { slots := [(2, .c (.ptr 0 0)), (3, .c (.ptr 1 0)), (5, .c (.own 2 (((seenL rows c).take i).map iD))), (6, I i)], heap := [.cells (planC n rows), .cells (cC c), .grow i 1], marks := [] }) (fun i => i ≤ rows.length) (fun i => rows.length - i) 0 mo (by kernel_rfl) ?_ (Nat.zero_le _) ?_
  · refine Ent.trans (ent_own 5 1 rfl) ?_
    refine ent_weaken [] rfl rfl (Nat.zero_le _) rfl rfl ?_
    simp only [go_sem, reduceIte, Nat.reduceEqDiff, Nat.reduceAdd, Nat.reduceLT, Nat.reduceLeDiff, Nat.reduceBEq, Nat.reduceMul, Nat.reduceSub, Nat.reduceDiv, Int.reduceNeg, Int.reduceLT, Int.reduceLE, Int.reduceEq, Int.reduceToNat, fillC, zc, List.replicate_succ, List.replicate_zero, List.flatten_cons, List.flatten_nil, toDs, toD, chunk, placeS, srcRows, List.all_cons, List.all_nil, List.all_map, Function.comp_def, List.take_nil, List.drop_nil, List.toList_toArray, C.eqbL, eqCs, eqC, List.drop_one, List.tail_cons, lim, tt3, tt4, tt5, tt22, tt24, tt29, tt26, tt30, tt36, ti3, ti22, ti29, ti26, eq26, planC, cC]
    exact .refl _
  rintro i hi
  simp only [go_sem, reduceIte, Nat.reduceEqDiff, Nat.reduceAdd, Nat.reduceLT, Nat.reduceLeDiff, Nat.reduceBEq, Nat.reduceMul, Nat.reduceSub, Nat.reduceDiv, Int.reduceNeg, Int.reduceLT, Int.reduceLE, Int.reduceEq, Int.reduceToNat, fillC, zc, List.replicate_succ, List.replicate_zero, List.flatten_cons, List.flatten_nil, toDs, toD, chunk, placeS, srcRows, List.all_cons, List.all_nil, List.all_map, Function.comp_def, List.take_nil, List.drop_nil, List.toList_toArray, C.eqbL, eqCs, eqC, List.drop_one, List.tail_cons, lim, tt3, tt4, tt5, tt22, tt24, tt29, tt26, tt30, tt36, ti3, ti22, ti29, ti26, eq26, planC, cC]
  refine go_if (fun h => ?_) (fun h => ?_)
  · have hlt : i < rows.length := by simpa using h
    obtain ⟨r, hr⟩ := get_of_lt hlt
    have hrm := List.mem_of_getElem? hr
    have hrn : c.1.toNat < r.length := by have := hp.eql r hrm; have := hc.lo; have := hc.hi; omega
    obtain ⟨x, hx⟩ := get_of_lt hrn
    have hxb := hp.rng r hrm x (List.mem_of_getElem? hx)
    have hmb := mul3 hc.slo hc.shi hxb.1 hxb.2
    have hw : wr .i64 (c.2 * x) = c.2 * x := by rw [wr_i64] <;> omega
    have hs : (seenL rows c).take (i + 1) = (seenL rows c).take i ++ [c.2 * x] := take_succ_eq (by simp [seenL, hr, at', hx])
    have hl : ((seenL rows c).take i).length = i := by simp [seenL]; omega
    have h0 := hc.lo
    simp only [go_sem, reduceIte, Nat.reduceEqDiff, Nat.reduceAdd, Nat.reduceLT, Nat.reduceLeDiff, Nat.reduceBEq, Nat.reduceMul, Nat.reduceSub, Nat.reduceDiv, Int.reduceNeg, Int.reduceLT, Int.reduceLE, Int.reduceEq, Int.reduceToNat, fillC, zc, List.replicate_succ, List.replicate_zero, List.flatten_cons, List.flatten_nil, toDs, toD, chunk, placeS, srcRows, List.all_cons, List.all_nil, List.all_map, Function.comp_def, List.take_nil, List.drop_nil, List.toList_toArray, C.eqbL, eqCs, eqC, List.drop_one, List.tail_cons, lim, tt3, tt4, tt5, tt22, tt24, tt29, tt26, tt30, tt36, ti3, ti22, ti29, ti26, eq26, hr, rD, hx, iD, hw, hl, srcRows]
    refine ⟨by simp [hlt], by simp; omega, by simp; omega, i + 1, hlt, by omega, ?_⟩
    refine ent_weaken [] rfl rfl (Nat.zero_le _) rfl rfl ?_
    simp only [go_sem, reduceIte, Nat.reduceEqDiff, Nat.reduceAdd, Nat.reduceLT, Nat.reduceLeDiff, Nat.reduceBEq, Nat.reduceMul, Nat.reduceSub, Nat.reduceDiv, Int.reduceNeg, Int.reduceLT, Int.reduceLE, Int.reduceEq, Int.reduceToNat, fillC, zc, List.replicate_succ, List.replicate_zero, List.flatten_cons, List.flatten_nil, toDs, toD, chunk, placeS, srcRows, List.all_cons, List.all_nil, List.all_map, Function.comp_def, List.take_nil, List.drop_nil, List.toList_toArray, C.eqbL, eqCs, eqC, List.drop_one, List.tail_cons, lim, tt3, tt4, tt5, tt22, tt24, tt29, tt26, tt30, tt36, ti3, ti22, ti29, ti26, eq26, hs, iD, List.map_append, wr_succ hlt (show rows.length ≤ 140737488355328 by omega)]
  · have hi' : i = rows.length := by simp at h; omega
    have e : (seenL rows c).take i = seenL rows c := List.take_of_length_le (by simp [seenL]; omega)
    simp only [go_sem, reduceIte, Nat.reduceEqDiff, Nat.reduceAdd, Nat.reduceLT, Nat.reduceLeDiff, Nat.reduceBEq, Nat.reduceMul, Nat.reduceSub, Nat.reduceDiv, Int.reduceNeg, Int.reduceLT, Int.reduceLE, Int.reduceEq, Int.reduceToNat, fillC, zc, List.replicate_succ, List.replicate_zero, List.flatten_cons, List.flatten_nil, toDs, toD, chunk, placeS, srcRows, List.all_cons, List.all_nil, List.all_map, Function.comp_def, List.take_nil, List.drop_nil, List.toList_toArray, C.eqbL, eqCs, eqC, List.drop_one, List.tail_cons, lim, tt3, tt4, tt5, tt22, tt24, tt29, tt26, tt30, tt36, ti3, ti22, ti29, ti26, eq26, e, ints, iD]

set_option maxHeartbeats 1000000 in
theorem see17_ok (n : Int) (rows : List (List Int)) (c : Int × Int) (hp : OkP n rows) (hc : isCase n c = true) : Pure Try.prog 17 [planV n rows, caseV c] (.tup [ints (seenL rows c), I 0]) := by
  refine pure_wk (X := tx) (nt := 18) (rs := [.tmp 4, .tmp 5]) Try.func17 rfl rfl rfl rfl mo (by kernel_rfl) rfl rfl (fun hf => ?_)
  simp only [go_sem, reduceIte, Nat.reduceEqDiff, Nat.reduceAdd, Nat.reduceLT, Nat.reduceLeDiff, Nat.reduceBEq, Nat.reduceMul, Nat.reduceSub, Nat.reduceDiv, Int.reduceNeg, Int.reduceLT, Int.reduceLE, Int.reduceEq, Int.reduceToNat, fillC, zc, List.replicate_succ, List.replicate_zero, List.flatten_cons, List.flatten_nil, toDs, toD, chunk, placeS, srcRows, List.all_cons, List.all_nil, List.all_map, Function.comp_def, List.take_nil, List.drop_nil, List.toList_toArray, C.eqbL, eqCs, eqC, List.drop_one, List.tail_cons, lim, tt3, tt4, tt5, tt22, tt24, tt29, tt26, tt30, tt36, ti3, ti22, ti29, ti26, eq26, planV, planC, caseV, cC]
  refine aops_pure' (refCheckPlan_pure n rows) rfl rfl (by first | exact wk_refls _ | (repeat constructor)) ?_
  simp only [go_sem, reduceIte, Nat.reduceEqDiff, Nat.reduceAdd, Nat.reduceLT, Nat.reduceLeDiff, Nat.reduceBEq, Nat.reduceMul, Nat.reduceSub, Nat.reduceDiv, Int.reduceNeg, Int.reduceLT, Int.reduceLE, Int.reduceEq, Int.reduceToNat, fillC, zc, List.replicate_succ, List.replicate_zero, List.flatten_cons, List.flatten_nil, toDs, toD, chunk, placeS, srcRows, List.all_cons, List.all_nil, List.all_map, Function.comp_def, List.take_nil, List.drop_nil, List.toList_toArray, C.eqbL, eqCs, eqC, List.drop_one, List.tail_cons, lim, tt3, tt4, tt5, tt22, tt24, tt29, tt26, tt30, tt36, ti3, ti22, ti29, ti26, eq26, hp.zero]
  refine aops_pure' (isCase_pure n rows c) rfl rfl (by first | exact wk_refls _ | (repeat constructor)) ?_
  simp only [go_sem, reduceIte, Nat.reduceEqDiff, Nat.reduceAdd, Nat.reduceLT, Nat.reduceLeDiff, Nat.reduceBEq, Nat.reduceMul, Nat.reduceSub, Nat.reduceDiv, Int.reduceNeg, Int.reduceLT, Int.reduceLE, Int.reduceEq, Int.reduceToNat, fillC, zc, List.replicate_succ, List.replicate_zero, List.flatten_cons, List.flatten_nil, toDs, toD, chunk, placeS, srcRows, List.all_cons, List.all_nil, List.all_map, Function.comp_def, List.take_nil, List.drop_nil, List.toList_toArray, C.eqbL, eqCs, eqC, List.drop_one, List.tail_cons, lim, tt3, tt4, tt5, tt22, tt24, tt29, tt26, tt30, tt36, ti3, ti22, ti29, ti26, eq26, hc]
  refine aops_pure' (seen41 n rows c hp (isCase_ok hp.n1 hc)) rfl rfl (by first | exact wk_refls _ | (repeat constructor)) ?_
  simp only [go_sem, reduceIte, Nat.reduceEqDiff, Nat.reduceAdd, Nat.reduceLT, Nat.reduceLeDiff, Nat.reduceBEq, Nat.reduceMul, Nat.reduceSub, Nat.reduceDiv, Int.reduceNeg, Int.reduceLT, Int.reduceLE, Int.reduceEq, Int.reduceToNat, fillC, zc, List.replicate_succ, List.replicate_zero, List.flatten_cons, List.flatten_nil, toDs, toD, chunk, placeS, srcRows, List.all_cons, List.all_nil, List.all_map, Function.comp_def, List.take_nil, List.drop_nil, List.toList_toArray, C.eqbL, eqCs, eqC, List.drop_one, List.tail_cons, lim, tt3, tt4, tt5, tt22, tt24, tt29, tt26, tt30, tt36, ti3, ti22, ti29, ti26, eq26]
set_option maxHeartbeats 1000000 in
theorem see17_no (n : Int) (rows : List (List Int)) (c : Int × Int) (hp : OkP n rows) (hc : isCase n c = false) : Pure Try.prog 17 [planV n rows, caseV c] (.tup [ints [], I 3]) := by
  refine pure_wk (X := tx) (nt := 18) (rs := [.tmp 4, .tmp 5]) Try.func17 rfl rfl rfl rfl mo (by kernel_rfl) rfl rfl (fun hf => ?_)
  simp only [go_sem, reduceIte, Nat.reduceEqDiff, Nat.reduceAdd, Nat.reduceLT, Nat.reduceLeDiff, Nat.reduceBEq, Nat.reduceMul, Nat.reduceSub, Nat.reduceDiv, Int.reduceNeg, Int.reduceLT, Int.reduceLE, Int.reduceEq, Int.reduceToNat, fillC, zc, List.replicate_succ, List.replicate_zero, List.flatten_cons, List.flatten_nil, toDs, toD, chunk, placeS, srcRows, List.all_cons, List.all_nil, List.all_map, Function.comp_def, List.take_nil, List.drop_nil, List.toList_toArray, C.eqbL, eqCs, eqC, List.drop_one, List.tail_cons, lim, tt3, tt4, tt5, tt22, tt24, tt29, tt26, tt30, tt36, ti3, ti22, ti29, ti26, eq26, planV, planC, caseV, cC]
  refine aops_pure' (refCheckPlan_pure n rows) rfl rfl (by first | exact wk_refls _ | (repeat constructor)) ?_
  simp only [go_sem, reduceIte, Nat.reduceEqDiff, Nat.reduceAdd, Nat.reduceLT, Nat.reduceLeDiff, Nat.reduceBEq, Nat.reduceMul, Nat.reduceSub, Nat.reduceDiv, Int.reduceNeg, Int.reduceLT, Int.reduceLE, Int.reduceEq, Int.reduceToNat, fillC, zc, List.replicate_succ, List.replicate_zero, List.flatten_cons, List.flatten_nil, toDs, toD, chunk, placeS, srcRows, List.all_cons, List.all_nil, List.all_map, Function.comp_def, List.take_nil, List.drop_nil, List.toList_toArray, C.eqbL, eqCs, eqC, List.drop_one, List.tail_cons, lim, tt3, tt4, tt5, tt22, tt24, tt29, tt26, tt30, tt36, ti3, ti22, ti29, ti26, eq26, hp.zero]
  refine aops_pure' (isCase_pure n rows c) rfl rfl (by first | exact wk_refls _ | (repeat constructor)) ?_
  simp only [go_sem, reduceIte, Nat.reduceEqDiff, Nat.reduceAdd, Nat.reduceLT, Nat.reduceLeDiff, Nat.reduceBEq, Nat.reduceMul, Nat.reduceSub, Nat.reduceDiv, Int.reduceNeg, Int.reduceLT, Int.reduceLE, Int.reduceEq, Int.reduceToNat, fillC, zc, List.replicate_succ, List.replicate_zero, List.flatten_cons, List.flatten_nil, toDs, toD, chunk, placeS, srcRows, List.all_cons, List.all_nil, List.all_map, Function.comp_def, List.take_nil, List.drop_nil, List.toList_toArray, C.eqbL, eqCs, eqC, List.drop_one, List.tail_cons, lim, tt3, tt4, tt5, tt22, tt24, tt29, tt26, tt30, tt36, ti3, ti22, ti29, ti26, eq26, hc, ints]
set_option maxHeartbeats 1000000 in
theorem see17_bad (n : Int) (rows : List (List Int)) (c : Int × Int) (hp : okPlan n rows ≠ 0) : Pure Try.prog 17 [planV n rows, caseV c] (.tup [ints [], I (okPlan n rows)]) := by
  refine pure_wk (X := tx) (nt := 18) (rs := [.tmp 4, .tmp 5]) Try.func17 rfl rfl rfl rfl mo (by kernel_rfl) rfl rfl (fun hf => ?_)
  simp only [go_sem, reduceIte, Nat.reduceEqDiff, Nat.reduceAdd, Nat.reduceLT, Nat.reduceLeDiff, Nat.reduceBEq, Nat.reduceMul, Nat.reduceSub, Nat.reduceDiv, Int.reduceNeg, Int.reduceLT, Int.reduceLE, Int.reduceEq, Int.reduceToNat, fillC, zc, List.replicate_succ, List.replicate_zero, List.flatten_cons, List.flatten_nil, toDs, toD, chunk, placeS, srcRows, List.all_cons, List.all_nil, List.all_map, Function.comp_def, List.take_nil, List.drop_nil, List.toList_toArray, C.eqbL, eqCs, eqC, List.drop_one, List.tail_cons, lim, tt3, tt4, tt5, tt22, tt24, tt29, tt26, tt30, tt36, ti3, ti22, ti29, ti26, eq26, planV, planC, caseV, cC]
  refine aops_pure' (refCheckPlan_pure n rows) rfl rfl (by first | exact wk_refls _ | (repeat constructor)) ?_
  simp only [go_sem, reduceIte, Nat.reduceEqDiff, Nat.reduceAdd, Nat.reduceLT, Nat.reduceLeDiff, Nat.reduceBEq, Nat.reduceMul, Nat.reduceSub, Nat.reduceDiv, Int.reduceNeg, Int.reduceLT, Int.reduceLE, Int.reduceEq, Int.reduceToNat, fillC, zc, List.replicate_succ, List.replicate_zero, List.flatten_cons, List.flatten_nil, toDs, toD, chunk, placeS, srcRows, List.all_cons, List.all_nil, List.all_map, Function.comp_def, List.take_nil, List.drop_nil, List.toList_toArray, C.eqbL, eqCs, eqC, List.drop_one, List.tail_cons, lim, tt3, tt4, tt5, tt22, tt24, tt29, tt26, tt30, tt36, ti3, ti22, ti29, ti26, eq26, hp]
  refine aops_pure' (refCheckPlan_pure n rows) rfl rfl (by first | exact wk_refls _ | (repeat constructor)) ?_
  simp only [go_sem, reduceIte, Nat.reduceEqDiff, Nat.reduceAdd, Nat.reduceLT, Nat.reduceLeDiff, Nat.reduceBEq, Nat.reduceMul, Nat.reduceSub, Nat.reduceDiv, Int.reduceNeg, Int.reduceLT, Int.reduceLE, Int.reduceEq, Int.reduceToNat, fillC, zc, List.replicate_succ, List.replicate_zero, List.flatten_cons, List.flatten_nil, toDs, toD, chunk, placeS, srcRows, List.all_cons, List.all_nil, List.all_map, Function.comp_def, List.take_nil, List.drop_nil, List.toList_toArray, C.eqbL, eqCs, eqC, List.drop_one, List.tail_cons, lim, tt3, tt4, tt5, tt22, tt24, tt29, tt26, tt30, tt36, ti3, ti22, ti29, ti26, eq26, ints]
end Go.Proofs.Ytklmpopomokglaa
/- The reference of chapter 5, walked: All, Tells, CheckClash, Cases; the law's small functions. -/
set_option linter.unusedSimpArgs false
set_option linter.unusedVariables false
namespace Go.Proofs.Ytklmpopomokglaa
open Go Go.Abs Go.Proofs

def allL : Nat → List (Int × Int)
  | 0 => [(0, 0)]
  | k + 1 => allL k ++ [((k : Int), -1), ((k : Int), 1)]
theorem allL_len : ∀ k, (allL k).length = 2 * k + 1
  | 0 => rfl
  | k + 1 => by simp [allL, allL_len k]; omega
theorem allL_ok : ∀ (k : Nat) (n : Int), 1 ≤ n → (k : Int) ≤ n → ∀ c ∈ allL k, OkC n c
  | 0, n, h1, _, c, hc => by simp [allL] at hc; subst hc; exact ⟨by simp, by simp; omega, by simp, by simp⟩
  | k + 1, n, h1, h2, c, hc => by
    simp only [allL, List.mem_append, List.mem_cons, List.not_mem_nil, or_false] at hc
    rcases hc with hc | rfl | rfl
    · exact allL_ok k n h1 (by omega) c hc
    · exact ⟨by simp, by simp; omega, by simp, by simp⟩
    · exact ⟨by simp, by simp; omega, by simp, by simp⟩

set_option maxHeartbeats 1000000 in
theorem all52 (n : Int) (rows : List (List Int)) (h1 : 1 ≤ n) (h39 : n ≤ 39) : Pure Try.prog 52 [planV n rows] (casesV (allL n.toNat)) := by
  refine pure_wk (X := tx) (nt := 21) (rs := [.tmp 2]) Try.func52 rfl rfl rfl rfl mo (by kernel_rfl) rfl rfl (fun hf => ?_)
  simp only [go_sem, reduceIte, Nat.reduceEqDiff, Nat.reduceAdd, Nat.reduceLT, Nat.reduceLeDiff, Nat.reduceBEq, Nat.reduceMul, Nat.reduceSub, Nat.reduceDiv, Int.reduceNeg, Int.reduceLT, Int.reduceLE, Int.reduceEq, Int.reduceToNat, fillC, zc, List.replicate_succ, List.replicate_zero, List.flatten_cons, List.flatten_nil, toDs, toD, chunk, placeS, srcRows, List.all_cons, List.all_nil, List.all_map, Function.comp_def, List.take_nil, List.drop_nil, List.toList_toArray, C.eqbL, eqCs, eqC, List.drop_one, List.tail_cons, lim, tt3, tt4, tt5, tt22, tt24, tt29, tt26, tt30, tt36, ti3, ti22, ti29, ti26, eq26, planV, planC]
  refine go_loop (fun k : Nat => { slots := [(1, .c (.ptr 0 0)), (3, .c (.own 1 ((allL k).map cD))), (4, I k)], heap := [.cells (planC n rows), .grow (2 * k + 1) 2], marks := [] }) (fun k => (k : Int) ≤ n) (fun k => n.toNat - k) 0 mo (by kernel_rfl) ?_ (by simp; omega) ?_
  · refine Ent.trans (ent_own 3 2 rfl) ?_
    refine ent_weaken [] rfl rfl (Nat.zero_le _) rfl rfl ?_
    simp only [go_sem, reduceIte, Nat.reduceEqDiff, Nat.reduceAdd, Nat.reduceLT, Nat.reduceLeDiff, Nat.reduceBEq, Nat.reduceMul, Nat.reduceSub, Nat.reduceDiv, Int.reduceNeg, Int.reduceLT, Int.reduceLE, Int.reduceEq, Int.reduceToNat, fillC, zc, List.replicate_succ, List.replicate_zero, List.flatten_cons, List.flatten_nil, toDs, toD, chunk, placeS, srcRows, List.all_cons, List.all_nil, List.all_map, Function.comp_def, List.take_nil, List.drop_nil, List.toList_toArray, C.eqbL, eqCs, eqC, List.drop_one, List.tail_cons, lim, tt3, tt4, tt5, tt22, tt24, tt29, tt26, tt30, tt36, ti3, ti22, ti29, ti26, eq26, planC, allL, cD]
    exact .refl _
  rintro k hk
  have hl := allL_len k
  simp only [go_sem, reduceIte, Nat.reduceEqDiff, Nat.reduceAdd, Nat.reduceLT, Nat.reduceLeDiff, Nat.reduceBEq, Nat.reduceMul, Nat.reduceSub, Nat.reduceDiv, Int.reduceNeg, Int.reduceLT, Int.reduceLE, Int.reduceEq, Int.reduceToNat, fillC, zc, List.replicate_succ, List.replicate_zero, List.flatten_cons, List.flatten_nil, toDs, toD, chunk, placeS, srcRows, List.all_cons, List.all_nil, List.all_map, Function.comp_def, List.take_nil, List.drop_nil, List.toList_toArray, C.eqbL, eqCs, eqC, List.drop_one, List.tail_cons, lim, tt3, tt4, tt5, tt22, tt24, tt29, tt26, tt30, tt36, ti3, ti22, ti29, ti26, eq26, planC]
  refine go_if (fun h => ?_) (fun h => ?_)
  · have hlt : (k : Int) < n := by simpa using h
    have hs : (allL (k + 1)).map cD = (allL k).map cD ++ [[.int .i64 k, .int .i64 (-1)], [.int .i64 k, .int .i64 1]] := by simp [allL, cD]
    simp only [go_sem, reduceIte, Nat.reduceEqDiff, Nat.reduceAdd, Nat.reduceLT, Nat.reduceLeDiff, Nat.reduceBEq, Nat.reduceMul, Nat.reduceSub, Nat.reduceDiv, Int.reduceNeg, Int.reduceLT, Int.reduceLE, Int.reduceEq, Int.reduceToNat, fillC, zc, List.replicate_succ, List.replicate_zero, List.flatten_cons, List.flatten_nil, toDs, toD, chunk, placeS, srcRows, List.all_cons, List.all_nil, List.all_map, Function.comp_def, List.take_nil, List.drop_nil, List.toList_toArray, C.eqbL, eqCs, eqC, List.drop_one, List.tail_cons, lim, tt3, tt4, tt5, tt22, tt24, tt29, tt26, tt30, tt36, ti3, ti22, ti29, ti26, eq26, hl, cD]
    refine ⟨by simp; omega, k + 1, by omega, by omega, ?_⟩
    refine ent_weaken [] rfl rfl (Nat.zero_le _) rfl rfl ?_
    simp only [go_sem, reduceIte, Nat.reduceEqDiff, Nat.reduceAdd, Nat.reduceLT, Nat.reduceLeDiff, Nat.reduceBEq, Nat.reduceMul, Nat.reduceSub, Nat.reduceDiv, Int.reduceNeg, Int.reduceLT, Int.reduceLE, Int.reduceEq, Int.reduceToNat, fillC, zc, List.replicate_succ, List.replicate_zero, List.flatten_cons, List.flatten_nil, toDs, toD, chunk, placeS, srcRows, List.all_cons, List.all_nil, List.all_map, Function.comp_def, List.take_nil, List.drop_nil, List.toList_toArray, C.eqbL, eqCs, eqC, List.drop_one, List.tail_cons, lim, tt3, tt4, tt5, tt22, tt24, tt29, tt26, tt30, tt36, ti3, ti22, ti29, ti26, eq26, hs, wr_succ (show k < 40 by omega) (by omega)]
  · have hk' : n.toNat = k := by simp at h; omega
    simp only [go_sem, reduceIte, Nat.reduceEqDiff, Nat.reduceAdd, Nat.reduceLT, Nat.reduceLeDiff, Nat.reduceBEq, Nat.reduceMul, Nat.reduceSub, Nat.reduceDiv, Int.reduceNeg, Int.reduceLT, Int.reduceLE, Int.reduceEq, Int.reduceToNat, fillC, zc, List.replicate_succ, List.replicate_zero, List.flatten_cons, List.flatten_nil, toDs, toD, chunk, placeS, srcRows, List.all_cons, List.all_nil, List.all_map, Function.comp_def, List.take_nil, List.drop_nil, List.toList_toArray, C.eqbL, eqCs, eqC, List.drop_one, List.tail_cons, lim, tt3, tt4, tt5, tt22, tt24, tt29, tt26, tt30, tt36, ti3, ti22, ti29, ti26, eq26, casesV, hk']

def tellsB (rows : List (List Int)) (n : Nat) : Bool := decide ((allL n).map (seenL rows)).Nodup

theorem nodup_of {α : Type} {l : List α} (h : ∀ (i k : Nat) x y, k < i → l[i]? = some x → l[k]? = some y → x ≠ y) : l.Nodup := by
  refine List.pairwise_iff_getElem.2 fun i j hi hj hij he => ?_
  exact h j i _ _ hij (List.getElem?_eq_getElem hj) (List.getElem?_eq_getElem hi) he.symm
theorem not_nodup_of {α : Type} {l : List α} {i k : Nat} {x : α} (hki : k < i) (h1 : l[i]? = some x) (h2 : l[k]? = some x) : ¬ l.Nodup := by
  intro h
  obtain ⟨hi, e1⟩ := List.getElem?_eq_some_iff.1 h1
  obtain ⟨hk, e2⟩ := List.getElem?_eq_some_iff.1 h2
  exact List.pairwise_iff_getElem.1 h k i hk hi hki (by rw [e1, e2])

set_option maxHeartbeats 2000000 in
theorem tells27 (n : Int) (rows : List (List Int)) (hp : OkP n rows) : Pure Try.prog 27 [planV n rows] (B (tellsB rows n.toNat)) := by
  refine pure_wk (X := tx) (nt := 32) (rs := [.tmp 2]) Try.func27 rfl rfl rfl rfl mo (by kernel_rfl) rfl rfl (fun hf => ?_)
  have hn1 := hp.n1
  have hn39 := hp.n39
  have hok := allL_ok n.toNat n hp.n1 (by omega)
  have hlen := allL_len n.toNat
  have hget : ∀ i, ((allL n.toNat).map (seenL rows))[i]? = (allL n.toNat)[i]?.map (seenL rows) := fun i => List.getElem?_map ..
  simp only [go_sem, reduceIte, Nat.reduceEqDiff, Nat.reduceAdd, Nat.reduceLT, Nat.reduceLeDiff, Nat.reduceBEq, Nat.reduceMul, Nat.reduceSub, Nat.reduceDiv, Int.reduceNeg, Int.reduceLT, Int.reduceLE, Int.reduceEq, Int.reduceToNat, fillC, zc, List.replicate_succ, List.replicate_zero, List.flatten_cons, List.flatten_nil, toDs, toD, chunk, placeS, srcRows, List.all_cons, List.all_nil, List.all_map, Function.comp_def, List.take_nil, List.drop_nil, List.toList_toArray, C.eqbL, eqCs, eqC, List.drop_one, List.tail_cons, lim, tt3, tt4, tt5, tt22, tt24, tt29, tt26, tt30, tt36, ti3, ti22, ti29, ti26, eq26, planV, planC]
  refine aops_pure' (all52 n rows hp.n1 hp.n39) rfl rfl (by first | exact wk_refls _ | (repeat constructor)) ?_
  simp only [go_sem, reduceIte, Nat.reduceEqDiff, Nat.reduceAdd, Nat.reduceLT, Nat.reduceLeDiff, Nat.reduceBEq, Nat.reduceMul, Nat.reduceSub, Nat.reduceDiv, Int.reduceNeg, Int.reduceLT, Int.reduceLE, Int.reduceEq, Int.reduceToNat, fillC, zc, List.replicate_succ, List.replicate_zero, List.flatten_cons, List.flatten_nil, toDs, toD, chunk, placeS, srcRows, List.all_cons, List.all_nil, List.all_map, Function.comp_def, List.take_nil, List.drop_nil, List.toList_toArray, C.eqbL, eqCs, eqC, List.drop_one, List.tail_cons, lim, tt3, tt4, tt5, tt22, tt24, tt29, tt26, tt30, tt36, ti3, ti22, ti29, ti26, eq26, casesV]
  refine go_loop (fun i : Nat => { slots := [(1, .c (.ptr 0 0)), (3, casesV (allL n.toNat)), (4, I i)], heap := [.cells (planC n rows)], marks := [] })
    (fun i => i ≤ (allL n.toNat).length ∧ ∀ j k x y, k < j → j < i → (allL n.toNat)[j]? = some x → (allL n.toNat)[k]? = some y → seenL rows x ≠ seenL rows y) (fun i => (allL n.toNat).length - i) 0 mo (by kernel_rfl) ?_ ⟨Nat.zero_le _, by intro j k x y h1 h2; omega⟩ ?_
  · refine ent_weaken [] rfl rfl (Nat.zero_le _) rfl rfl ?_
    simp only [go_sem, reduceIte, Nat.reduceEqDiff, Nat.reduceAdd, Nat.reduceLT, Nat.reduceLeDiff, Nat.reduceBEq, Nat.reduceMul, Nat.reduceSub, Nat.reduceDiv, Int.reduceNeg, Int.reduceLT, Int.reduceLE, Int.reduceEq, Int.reduceToNat, fillC, zc, List.replicate_succ, List.replicate_zero, List.flatten_cons, List.flatten_nil, toDs, toD, chunk, placeS, srcRows, List.all_cons, List.all_nil, List.all_map, Function.comp_def, List.take_nil, List.drop_nil, List.toList_toArray, C.eqbL, eqCs, eqC, List.drop_one, List.tail_cons, lim, tt3, tt4, tt5, tt22, tt24, tt29, tt26, tt30, tt36, ti3, ti22, ti29, ti26, eq26, planC, casesV]
    exact .refl _
  rintro i ⟨hi, hall⟩
  simp only [go_sem, reduceIte, Nat.reduceEqDiff, Nat.reduceAdd, Nat.reduceLT, Nat.reduceLeDiff, Nat.reduceBEq, Nat.reduceMul, Nat.reduceSub, Nat.reduceDiv, Int.reduceNeg, Int.reduceLT, Int.reduceLE, Int.reduceEq, Int.reduceToNat, fillC, zc, List.replicate_succ, List.replicate_zero, List.flatten_cons, List.flatten_nil, toDs, toD, chunk, placeS, srcRows, List.all_cons, List.all_nil, List.all_map, Function.comp_def, List.take_nil, List.drop_nil, List.toList_toArray, C.eqbL, eqCs, eqC, List.drop_one, List.tail_cons, lim, tt3, tt4, tt5, tt22, tt24, tt29, tt26, tt30, tt36, ti3, ti22, ti29, ti26, eq26, planC, casesV]
  refine go_if (fun h => ?_) (fun h => ?_)
  · have hlt : i < (allL n.toNat).length := by simpa using h
    obtain ⟨x, hx⟩ := get_of_lt hlt
    simp only [go_sem, reduceIte, Nat.reduceEqDiff, Nat.reduceAdd, Nat.reduceLT, Nat.reduceLeDiff, Nat.reduceBEq, Nat.reduceMul, Nat.reduceSub, Nat.reduceDiv, Int.reduceNeg, Int.reduceLT, Int.reduceLE, Int.reduceEq, Int.reduceToNat, fillC, zc, List.replicate_succ, List.replicate_zero, List.flatten_cons, List.flatten_nil, toDs, toD, chunk, placeS, srcRows, List.all_cons, List.all_nil, List.all_map, Function.comp_def, List.take_nil, List.drop_nil, List.toList_toArray, C.eqbL, eqCs, eqC, List.drop_one, List.tail_cons, lim, tt3, tt4, tt5, tt22, tt24, tt29, tt26, tt30, tt36, ti3, ti22, ti29, ti26, eq26]
    refine go_loop (fun k : Nat => { slots := [(1, .c (.ptr 0 0)), (3, casesV (allL n.toNat)), (4, I i), (5, I k)], heap := [.cells (planC n rows)], marks := [] })
      (fun k => k ≤ i ∧ ∀ j y, j < k → (allL n.toNat)[j]? = some y → seenL rows x ≠ seenL rows y) (fun k => i - k) 0 mo (by kernel_rfl) ?_ ⟨Nat.zero_le _, by intro j y h; omega⟩ ?_
    · refine ent_weaken [] rfl rfl (Nat.zero_le _) rfl rfl ?_
      simp only [go_sem, reduceIte, Nat.reduceEqDiff, Nat.reduceAdd, Nat.reduceLT, Nat.reduceLeDiff, Nat.reduceBEq, Nat.reduceMul, Nat.reduceSub, Nat.reduceDiv, Int.reduceNeg, Int.reduceLT, Int.reduceLE, Int.reduceEq, Int.reduceToNat, fillC, zc, List.replicate_succ, List.replicate_zero, List.flatten_cons, List.flatten_nil, toDs, toD, chunk, placeS, srcRows, List.all_cons, List.all_nil, List.all_map, Function.comp_def, List.take_nil, List.drop_nil, List.toList_toArray, C.eqbL, eqCs, eqC, List.drop_one, List.tail_cons, lim, tt3, tt4, tt5, tt22, tt24, tt29, tt26, tt30, tt36, ti3, ti22, ti29, ti26, eq26, planC, casesV]
      exact .refl _
    rintro k ⟨hk, hin⟩
    simp only [go_sem, reduceIte, Nat.reduceEqDiff, Nat.reduceAdd, Nat.reduceLT, Nat.reduceLeDiff, Nat.reduceBEq, Nat.reduceMul, Nat.reduceSub, Nat.reduceDiv, Int.reduceNeg, Int.reduceLT, Int.reduceLE, Int.reduceEq, Int.reduceToNat, fillC, zc, List.replicate_succ, List.replicate_zero, List.flatten_cons, List.flatten_nil, toDs, toD, chunk, placeS, srcRows, List.all_cons, List.all_nil, List.all_map, Function.comp_def, List.take_nil, List.drop_nil, List.toList_toArray, C.eqbL, eqCs, eqC, List.drop_one, List.tail_cons, lim, tt3, tt4, tt5, tt22, tt24, tt29, tt26, tt30, tt36, ti3, ti22, ti29, ti26, eq26, planC, casesV]
    refine go_if (fun h => ?_) (fun h => ?_)
    · have hkl : k < i := by simpa using h
      obtain ⟨y, hy⟩ := get_of_lt (show k < (allL n.toNat).length by omega)
      simp only [go_sem, reduceIte, Nat.reduceEqDiff, Nat.reduceAdd, Nat.reduceLT, Nat.reduceLeDiff, Nat.reduceBEq, Nat.reduceMul, Nat.reduceSub, Nat.reduceDiv, Int.reduceNeg, Int.reduceLT, Int.reduceLE, Int.reduceEq, Int.reduceToNat, fillC, zc, List.replicate_succ, List.replicate_zero, List.flatten_cons, List.flatten_nil, toDs, toD, chunk, placeS, srcRows, List.all_cons, List.all_nil, List.all_map, Function.comp_def, List.take_nil, List.drop_nil, List.toList_toArray, C.eqbL, eqCs, eqC, List.drop_one, List.tail_cons, lim, tt3, tt4, tt5, tt22, tt24, tt29, tt26, tt30, tt36, ti3, ti22, ti29, ti26, eq26, hx, hy, cD]
      refine ⟨by simp [hlt], ?_⟩
      refine dops_pure' (seen41 n rows x hp (hok x (List.mem_of_getElem? hx))) rfl rfl (by first | exact wk_refls _ | (repeat constructor)) (by kernel_rfl) ?_
      simp only [go_sem, reduceIte, Nat.reduceEqDiff, Nat.reduceAdd, Nat.reduceLT, Nat.reduceLeDiff, Nat.reduceBEq, Nat.reduceMul, Nat.reduceSub, Nat.reduceDiv, Int.reduceNeg, Int.reduceLT, Int.reduceLE, Int.reduceEq, Int.reduceToNat, fillC, zc, List.replicate_succ, List.replicate_zero, List.flatten_cons, List.flatten_nil, toDs, toD, chunk, placeS, srcRows, List.all_cons, List.all_nil, List.all_map, Function.comp_def, List.take_nil, List.drop_nil, List.toList_toArray, C.eqbL, eqCs, eqC, List.drop_one, List.tail_cons, lim, tt3, tt4, tt5, tt22, tt24, tt29, tt26, tt30, tt36, ti3, ti22, ti29, ti26, eq26, hx, hy, cD]
      refine ⟨by simp; omega, ?_⟩
      refine dops_pure' (seen41 n rows y hp (hok y (List.mem_of_getElem? hy))) rfl rfl (by first | exact wk_refls _ | (repeat constructor)) (by kernel_rfl) ?_
      simp only [go_sem, reduceIte, Nat.reduceEqDiff, Nat.reduceAdd, Nat.reduceLT, Nat.reduceLeDiff, Nat.reduceBEq, Nat.reduceMul, Nat.reduceSub, Nat.reduceDiv, Int.reduceNeg, Int.reduceLT, Int.reduceLE, Int.reduceEq, Int.reduceToNat, fillC, zc, List.replicate_succ, List.replicate_zero, List.flatten_cons, List.flatten_nil, toDs, toD, chunk, placeS, srcRows, List.all_cons, List.all_nil, List.all_map, Function.comp_def, List.take_nil, List.drop_nil, List.toList_toArray, C.eqbL, eqCs, eqC, List.drop_one, List.tail_cons, lim, tt3, tt4, tt5, tt22, tt24, tt29, tt26, tt30, tt36, ti3, ti22, ti29, ti26, eq26]
      refine dops_pure' (same_pure (seenL rows x) (seenL rows y)) rfl rfl (by first | exact wk_refls _ | (repeat constructor)) (by kernel_rfl) ?_
      simp only [go_sem, reduceIte, Nat.reduceEqDiff, Nat.reduceAdd, Nat.reduceLT, Nat.reduceLeDiff, Nat.reduceBEq, Nat.reduceMul, Nat.reduceSub, Nat.reduceDiv, Int.reduceNeg, Int.reduceLT, Int.reduceLE, Int.reduceEq, Int.reduceToNat, fillC, zc, List.replicate_succ, List.replicate_zero, List.flatten_cons, List.flatten_nil, toDs, toD, chunk, placeS, srcRows, List.all_cons, List.all_nil, List.all_map, Function.comp_def, List.take_nil, List.drop_nil, List.toList_toArray, C.eqbL, eqCs, eqC, List.drop_one, List.tail_cons, lim, tt3, tt4, tt5, tt22, tt24, tt29, tt26, tt30, tt36, ti3, ti22, ti29, ti26, eq26]
      refine go_if (fun hb => ?_) (fun hb => ?_)
      · have hb : seenL rows x = seenL rows y := by simpa using hb
        have : tellsB rows n.toNat = false := by
          simp only [tellsB, decide_eq_false_iff_not]
          exact not_nodup_of hkl (x := seenL rows x) (by rw [hget, hx]; rfl) (by rw [hget, hy, hb]; rfl)
        simp only [go_sem, reduceIte, Nat.reduceEqDiff, Nat.reduceAdd, Nat.reduceLT, Nat.reduceLeDiff, Nat.reduceBEq, Nat.reduceMul, Nat.reduceSub, Nat.reduceDiv, Int.reduceNeg, Int.reduceLT, Int.reduceLE, Int.reduceEq, Int.reduceToNat, fillC, zc, List.replicate_succ, List.replicate_zero, List.flatten_cons, List.flatten_nil, toDs, toD, chunk, placeS, srcRows, List.all_cons, List.all_nil, List.all_map, Function.comp_def, List.take_nil, List.drop_nil, List.toList_toArray, C.eqbL, eqCs, eqC, List.drop_one, List.tail_cons, lim, tt3, tt4, tt5, tt22, tt24, tt29, tt26, tt30, tt36, ti3, ti22, ti29, ti26, eq26, this]
      · simp only [go_sem, reduceIte, Nat.reduceEqDiff, Nat.reduceAdd, Nat.reduceLT, Nat.reduceLeDiff, Nat.reduceBEq, Nat.reduceMul, Nat.reduceSub, Nat.reduceDiv, Int.reduceNeg, Int.reduceLT, Int.reduceLE, Int.reduceEq, Int.reduceToNat, fillC, zc, List.replicate_succ, List.replicate_zero, List.flatten_cons, List.flatten_nil, toDs, toD, chunk, placeS, srcRows, List.all_cons, List.all_nil, List.all_map, Function.comp_def, List.take_nil, List.drop_nil, List.toList_toArray, C.eqbL, eqCs, eqC, List.drop_one, List.tail_cons, lim, tt3, tt4, tt5, tt22, tt24, tt29, tt26, tt30, tt36, ti3, ti22, ti29, ti26, eq26, wr_succ hkl (show i ≤ 140737488355328 by omega)]
        refine ⟨k + 1, ⟨hkl, upto_succ hin hy (by simpa using hb)⟩, by omega, ?_⟩
        refine ent_weaken [] rfl rfl (Nat.zero_le _) rfl rfl ?_
        simp only [go_sem, reduceIte, Nat.reduceEqDiff, Nat.reduceAdd, Nat.reduceLT, Nat.reduceLeDiff, Nat.reduceBEq, Nat.reduceMul, Nat.reduceSub, Nat.reduceDiv, Int.reduceNeg, Int.reduceLT, Int.reduceLE, Int.reduceEq, Int.reduceToNat, fillC, zc, List.replicate_succ, List.replicate_zero, List.flatten_cons, List.flatten_nil, toDs, toD, chunk, placeS, srcRows, List.all_cons, List.all_nil, List.all_map, Function.comp_def, List.take_nil, List.drop_nil, List.toList_toArray, C.eqbL, eqCs, eqC, List.drop_one, List.tail_cons, lim, tt3, tt4, tt5, tt22, tt24, tt29, tt26, tt30, tt36, ti3, ti22, ti29, ti26, eq26]
    · have hk' : k = i := by simp at h; omega
      subst hk'
      simp only [go_sem, reduceIte, Nat.reduceEqDiff, Nat.reduceAdd, Nat.reduceLT, Nat.reduceLeDiff, Nat.reduceBEq, Nat.reduceMul, Nat.reduceSub, Nat.reduceDiv, Int.reduceNeg, Int.reduceLT, Int.reduceLE, Int.reduceEq, Int.reduceToNat, fillC, zc, List.replicate_succ, List.replicate_zero, List.flatten_cons, List.flatten_nil, toDs, toD, chunk, placeS, srcRows, List.all_cons, List.all_nil, List.all_map, Function.comp_def, List.take_nil, List.drop_nil, List.toList_toArray, C.eqbL, eqCs, eqC, List.drop_one, List.tail_cons, lim, tt3, tt4, tt5, tt22, tt24, tt29, tt26, tt30, tt36, ti3, ti22, ti29, ti26, eq26, wr_succ hlt (show (allL n.toNat).length ≤ 140737488355328 by omega)]
      refine ⟨k + 1, ⟨hlt, ?_⟩, by omega, ?_⟩
      · intro j m a b h1 h2 ha hb
        rcases Nat.lt_succ_iff_lt_or_eq.1 h2 with h3 | h3
        · exact hall j m a b h1 h3 ha hb
        · subst h3; rw [hx] at ha; cases ha; exact hin m b h1 hb
      · refine ent_weaken [] rfl rfl (Nat.zero_le _) rfl rfl ?_
        simp only [go_sem, reduceIte, Nat.reduceEqDiff, Nat.reduceAdd, Nat.reduceLT, Nat.reduceLeDiff, Nat.reduceBEq, Nat.reduceMul, Nat.reduceSub, Nat.reduceDiv, Int.reduceNeg, Int.reduceLT, Int.reduceLE, Int.reduceEq, Int.reduceToNat, fillC, zc, List.replicate_succ, List.replicate_zero, List.flatten_cons, List.flatten_nil, toDs, toD, chunk, placeS, srcRows, List.all_cons, List.all_nil, List.all_map, Function.comp_def, List.take_nil, List.drop_nil, List.toList_toArray, C.eqbL, eqCs, eqC, List.drop_one, List.tail_cons, lim, tt3, tt4, tt5, tt22, tt24, tt29, tt26, tt30, tt36, ti3, ti22, ti29, ti26, eq26]
  · have hi' : i = (allL n.toNat).length := by simp at h; omega
    have : tellsB rows n.toNat = true := by
      simp only [tellsB, decide_eq_true_eq]
      refine nodup_of (fun a b x y hab hx hy => ?_)
      rw [hget] at hx hy
      simp only [Option.map_eq_some_iff] at hx hy
      obtain ⟨x', hx', rfl⟩ := hx
      obtain ⟨y', hy', rfl⟩ := hy
      exact hall a b x' y' hab (by have := (List.getElem?_eq_some_iff.1 hx').1; omega) hx' hy'
    simp only [go_sem, reduceIte, Nat.reduceEqDiff, Nat.reduceAdd, Nat.reduceLT, Nat.reduceLeDiff, Nat.reduceBEq, Nat.reduceMul, Nat.reduceSub, Nat.reduceDiv, Int.reduceNeg, Int.reduceLT, Int.reduceLE, Int.reduceEq, Int.reduceToNat, fillC, zc, List.replicate_succ, List.replicate_zero, List.flatten_cons, List.flatten_nil, toDs, toD, chunk, placeS, srcRows, List.all_cons, List.all_nil, List.all_map, Function.comp_def, List.take_nil, List.drop_nil, List.toList_toArray, C.eqbL, eqCs, eqC, List.drop_one, List.tail_cons, lim, tt3, tt4, tt5, tt22, tt24, tt29, tt26, tt30, tt36, ti3, ti22, ti29, ti26, eq26, this]
end Go.Proofs.Ytklmpopomokglaa
