/- Plans: what the reference's check says. -/
import Derived.Test.YtklmpopomokglaaT1
set_option linter.unusedSimpArgs false
set_option linter.unusedVariables false
namespace Go.Proofs.Ytklmpopomokglaa
open Go Go.Abs Go.Proofs

def rD (r : List Int) : List D := [.sl (r.map iD)]
def planC (n : Int) (rows : List (List Int)) : List C := [.d (.int .i64 n), .d (.sl (rows.map rD))]
def planV (n : Int) (rows : List (List Int)) : V := .agg (planC n rows)

def okPlan (n : Int) (rows : List (List Int)) : Int :=
  if 4 < rows.length then 6 else if n < 1 ∨ 39 < n then 2 else
  if rows.any (fun r => decide ((r.length : Int) ≠ n)) then 15 else
  if rows.any (fun r => r.any (fun x => decide (x < -1 ∨ 1 < x))) then 3 else
  if rows.any (fun r => decide (r.sum ≠ 0)) then 16 else 0

def planS (n : Int) (rows : List (List Int)) (l : List (Nat × V)) : St := { slots := (1, .c (.ptr 0 0)) :: l, heap := [.cells (planC n rows)], marks := [] }

theorem any_of_get {α : Type} {l : List α} {p : α → Bool} {i : Nat} {x : α} (h : l[i]? = some x) (hp : p x = true) : l.any p = true := List.any_eq_true.2 ⟨x, List.mem_of_getElem? h, hp⟩
theorem any_none {α : Type} {l : List α} {p : α → Bool} (h : ∀ (j : Nat) x, j < l.length → l[j]? = some x → p x = false) : l.any p = false := by
  rw [List.any_eq_false]
  intro x hx
  obtain ⟨j, hj⟩ := List.getElem?_of_mem hx
  rw [h j x (List.getElem?_eq_some_iff.1 hj).1 hj]; simp
theorem upto_succ {α : Type} {l : List α} {P : α → Prop} {i : Nat} {x : α} (h : ∀ (j : Nat) y, j < i → l[j]? = some y → P y) (hx : l[i]? = some x) (hp : P x) : ∀ (j : Nat) y, j < i + 1 → l[j]? = some y → P y := fun j y hj hy => by
  rcases Nat.lt_succ_iff_lt_or_eq.1 hj with h1 | h1
  · exact h j y h1 hy
  · subst h1; rw [hx] at hy; cases hy; exact hp
theorem sum_take {l : List Int} {k : Nat} {x : Int} (h : l[k]? = some x) : (l.take (k + 1)).sum = (l.take k).sum + x := by
  rw [take_succ_eq h, List.sum_append]; simp
theorem sum_bound : ∀ (l : List Int) (k : Nat), (∀ x ∈ l, -1 ≤ x ∧ x ≤ 1) → -(k : Int) ≤ (l.take k).sum ∧ (l.take k).sum ≤ k
  | [], k, _ => by simp
  | x :: l, 0, _ => by simp
  | x :: l, k + 1, h => by
    have h1 := h x (by simp)
    have h2 := sum_bound l k (fun y hy => h y (List.mem_cons_of_mem _ hy))
    simp only [List.take_succ_cons, List.sum_cons]
    omega

set_option maxHeartbeats 1000000 in
theorem refCheckPlan_pure (n : Int) (rows : List (List Int)) : Pure Try.prog 19 [planV n rows] (I (okPlan n rows)) := by
  refine pure_fit (X := tx) (nt := 95) (rs := [.tmp 2]) Try.func19 rfl rfl rfl rfl mo (by kernel_rfl) rfl rfl (fun hf => ?_)
  have hfit : rows.length ≤ 140737488355328 := by
    have h : Fit _ := hf (planV n rows) (by simp) (.d (.sl (rows.map rD))) (by simp [planC])
    have := h.len; simpa [lim] using this
  simp only [go_sem, reduceIte, Nat.reduceEqDiff, Nat.reduceAdd, Nat.reduceLT, Nat.reduceLeDiff, Nat.reduceBEq, Nat.reduceMul, Nat.reduceSub, Int.reduceNeg, Int.reduceLT, Int.reduceLE, Int.reduceEq, Int.reduceToNat, tt3, tt4, tt22, tt24, tt29, tt26, tt30, ti3, ti22, ti29, planV, planC]
  refine go_if (fun h => ?_) (fun h => ?_)
  · have h4 : 4 < rows.length := by simp at h; omega
    simp only [go_sem, reduceIte, Nat.reduceEqDiff, Nat.reduceAdd, Nat.reduceLT, Nat.reduceLeDiff, Nat.reduceBEq, Nat.reduceMul, Nat.reduceSub, Int.reduceNeg, Int.reduceLT, Int.reduceLE, Int.reduceEq, Int.reduceToNat, tt3, tt4, tt22, tt24, tt29, tt26, tt30, ti3, ti22, ti29, okPlan, h4]
  have h4 : ¬ 4 < rows.length := by simp at h; omega
  by_cases h1 : n < 1
  · simp only [go_sem, reduceIte, Nat.reduceEqDiff, Nat.reduceAdd, Nat.reduceLT, Nat.reduceLeDiff, Nat.reduceBEq, Nat.reduceMul, Nat.reduceSub, Int.reduceNeg, Int.reduceLT, Int.reduceLE, Int.reduceEq, Int.reduceToNat, tt3, tt4, tt22, tt24, tt29, tt26, tt30, ti3, ti22, ti29, h1, okPlan, h4]
  simp only [go_sem, reduceIte, Nat.reduceEqDiff, Nat.reduceAdd, Nat.reduceLT, Nat.reduceLeDiff, Nat.reduceBEq, Nat.reduceMul, Nat.reduceSub, Int.reduceNeg, Int.reduceLT, Int.reduceLE, Int.reduceEq, Int.reduceToNat, tt3, tt4, tt22, tt24, tt29, tt26, tt30, ti3, ti22, ti29, h1]
  refine go_if (fun h => ?_) (fun h => ?_)
  · have h39 : 39 < n := by simpa using h
    simp only [go_sem, reduceIte, Nat.reduceEqDiff, Nat.reduceAdd, Nat.reduceLT, Nat.reduceLeDiff, Nat.reduceBEq, Nat.reduceMul, Nat.reduceSub, Int.reduceNeg, Int.reduceLT, Int.reduceLE, Int.reduceEq, Int.reduceToNat, tt3, tt4, tt22, tt24, tt29, tt26, tt30, ti3, ti22, ti29, okPlan, h4, h1, h39]
  have h39 : ¬ 39 < n := by simpa using h
  simp only [go_sem, reduceIte, Nat.reduceEqDiff, Nat.reduceAdd, Nat.reduceLT, Nat.reduceLeDiff, Nat.reduceBEq, Nat.reduceMul, Nat.reduceSub, Int.reduceNeg, Int.reduceLT, Int.reduceLE, Int.reduceEq, Int.reduceToNat, tt3, tt4, tt22, tt24, tt29, tt26, tt30, ti3, ti22, ti29]
  have e0 : okPlan n rows = if rows.any (fun r => decide ((r.length : Int) ≠ n)) then 15 else
      if rows.any (fun r => r.any (fun x => decide (x < -1 ∨ 1 < x))) then 3 else
      if rows.any (fun r => decide (r.sum ≠ 0)) then 16 else 0 := by simp [okPlan, h4, h1, h39]
  rw [e0]
  refine go_loop (fun i : Nat => planS n rows [(3, I i)]) (fun i => i ≤ rows.length ∧ ∀ j r, j < i → rows[j]? = some r → (r.length : Int) = n) (fun i => rows.length - i) 0 mo (by kernel_rfl) ?_ ⟨Nat.zero_le _, by intro j r h; omega⟩ ?_
  · refine ent_weaken [] rfl rfl (Nat.zero_le _) rfl rfl ?_
    simp only [go_sem, reduceIte, Nat.reduceEqDiff, Nat.reduceAdd, Nat.reduceLT, Nat.reduceLeDiff, Nat.reduceBEq, Nat.reduceMul, Nat.reduceSub, Int.reduceNeg, Int.reduceLT, Int.reduceLE, Int.reduceEq, Int.reduceToNat, tt3, tt4, tt22, tt24, tt29, tt26, tt30, ti3, ti22, ti29, planS]
    exact .refl _
  rintro i ⟨hi, hall⟩
  simp only [go_sem, reduceIte, Nat.reduceEqDiff, Nat.reduceAdd, Nat.reduceLT, Nat.reduceLeDiff, Nat.reduceBEq, Nat.reduceMul, Nat.reduceSub, Int.reduceNeg, Int.reduceLT, Int.reduceLE, Int.reduceEq, Int.reduceToNat, tt3, tt4, tt22, tt24, tt29, tt26, tt30, ti3, ti22, ti29, planS, planC]
  refine go_if (fun h => ?_) (fun h => ?_)
  · have hlt : i < rows.length := by simpa using h
    obtain ⟨r, hr⟩ := get_of_lt hlt
    simp only [go_sem, reduceIte, Nat.reduceEqDiff, Nat.reduceAdd, Nat.reduceLT, Nat.reduceLeDiff, Nat.reduceBEq, Nat.reduceMul, Nat.reduceSub, Int.reduceNeg, Int.reduceLT, Int.reduceLE, Int.reduceEq, Int.reduceToNat, tt3, tt4, tt22, tt24, tt29, tt26, tt30, ti3, ti22, ti29, hr, rD]
    refine ⟨by simp [hlt], go_if (fun hb => ?_) (fun hb => ?_)⟩
    · have : rows.any (fun r => decide ((r.length : Int) ≠ n)) = true := any_of_get hr (by simpa using hb)
      simp only [go_sem, reduceIte, Nat.reduceEqDiff, Nat.reduceAdd, Nat.reduceLT, Nat.reduceLeDiff, Nat.reduceBEq, Nat.reduceMul, Nat.reduceSub, Int.reduceNeg, Int.reduceLT, Int.reduceLE, Int.reduceEq, Int.reduceToNat, tt3, tt4, tt22, tt24, tt29, tt26, tt30, ti3, ti22, ti29, this]
    · simp only [go_sem, reduceIte, Nat.reduceEqDiff, Nat.reduceAdd, Nat.reduceLT, Nat.reduceLeDiff, Nat.reduceBEq, Nat.reduceMul, Nat.reduceSub, Int.reduceNeg, Int.reduceLT, Int.reduceLE, Int.reduceEq, Int.reduceToNat, tt3, tt4, tt22, tt24, tt29, tt26, tt30, ti3, ti22, ti29, wr_succ hlt hfit]
      refine ⟨i + 1, ⟨hlt, upto_succ hall hr (by simpa using hb)⟩, by omega, ?_⟩
      refine ent_weaken [] rfl rfl (Nat.zero_le _) rfl rfl ?_
      simp only [go_sem, reduceIte, Nat.reduceEqDiff, Nat.reduceAdd, Nat.reduceLT, Nat.reduceLeDiff, Nat.reduceBEq, Nat.reduceMul, Nat.reduceSub, Int.reduceNeg, Int.reduceLT, Int.reduceLE, Int.reduceEq, Int.reduceToNat, tt3, tt4, tt22, tt24, tt29, tt26, tt30, ti3, ti22, ti29]
  have hlen : rows.any (fun r => decide ((r.length : Int) ≠ n)) = false := any_none (fun j r hj hr => by
    have : i = rows.length := by simp at h; omega
    have := hall j r (by omega) hr
    simp [this])
  have hall2 : ∀ r ∈ rows, (r.length : Int) = n := by simpa using hlen
  simp only [go_sem, reduceIte, Nat.reduceEqDiff, Nat.reduceAdd, Nat.reduceLT, Nat.reduceLeDiff, Nat.reduceBEq, Nat.reduceMul, Nat.reduceSub, Int.reduceNeg, Int.reduceLT, Int.reduceLE, Int.reduceEq, Int.reduceToNat, tt3, tt4, tt22, tt24, tt29, tt26, tt30, ti3, ti22, ti29, hlen]
  refine go_loop (fun i : Nat => planS n rows [(4, I i)]) (fun i => i ≤ rows.length ∧ ∀ j (r : List Int), j < i → rows[j]? = some r → r.any (fun x => decide (x < -1 ∨ 1 < x)) = false) (fun i => rows.length - i) 0 mo (by kernel_rfl) ?_ ⟨Nat.zero_le _, by intro j r h; omega⟩ ?_
  · refine ent_weaken [] rfl rfl (Nat.zero_le _) rfl rfl ?_
    simp only [go_sem, reduceIte, Nat.reduceEqDiff, Nat.reduceAdd, Nat.reduceLT, Nat.reduceLeDiff, Nat.reduceBEq, Nat.reduceMul, Nat.reduceSub, Int.reduceNeg, Int.reduceLT, Int.reduceLE, Int.reduceEq, Int.reduceToNat, tt3, tt4, tt22, tt24, tt29, tt26, tt30, ti3, ti22, ti29, planS]
    exact .refl _
  clear h hall hi
  rintro i ⟨hi, hrng⟩
  simp only [go_sem, reduceIte, Nat.reduceEqDiff, Nat.reduceAdd, Nat.reduceLT, Nat.reduceLeDiff, Nat.reduceBEq, Nat.reduceMul, Nat.reduceSub, Int.reduceNeg, Int.reduceLT, Int.reduceLE, Int.reduceEq, Int.reduceToNat, tt3, tt4, tt22, tt24, tt29, tt26, tt30, ti3, ti22, ti29, planS, planC]
  refine go_if (fun h => ?_) (fun h => ?_)
  · have hlt : i < rows.length := by simpa using h
    obtain ⟨r, hr⟩ := get_of_lt hlt
    have hrn : (r.length : Int) = n := hall2 r (List.mem_of_getElem? hr)
    simp only [go_sem, reduceIte, Nat.reduceEqDiff, Nat.reduceAdd, Nat.reduceLT, Nat.reduceLeDiff, Nat.reduceBEq, Nat.reduceMul, Nat.reduceSub, Int.reduceNeg, Int.reduceLT, Int.reduceLE, Int.reduceEq, Int.reduceToNat, tt3, tt4, tt22, tt24, tt29, tt26, tt30, ti3, ti22, ti29]
    refine go_loop (fun k : Nat => planS n rows [(4, I i), (5, I k)]) (fun k => k ≤ r.length ∧ ∀ j x, j < k → r[j]? = some x → -1 ≤ x ∧ x ≤ 1) (fun k => r.length - k) 0 mo (by kernel_rfl) ?_ ⟨Nat.zero_le _, by intro j r h; omega⟩ ?_
    · refine ent_weaken [] rfl rfl (Nat.zero_le _) rfl rfl ?_
      simp only [go_sem, reduceIte, Nat.reduceEqDiff, Nat.reduceAdd, Nat.reduceLT, Nat.reduceLeDiff, Nat.reduceBEq, Nat.reduceMul, Nat.reduceSub, Int.reduceNeg, Int.reduceLT, Int.reduceLE, Int.reduceEq, Int.reduceToNat, tt3, tt4, tt22, tt24, tt29, tt26, tt30, ti3, ti22, ti29, planS, planC]
      exact .refl _
    rintro k ⟨hk, hin⟩
    simp only [go_sem, reduceIte, Nat.reduceEqDiff, Nat.reduceAdd, Nat.reduceLT, Nat.reduceLeDiff, Nat.reduceBEq, Nat.reduceMul, Nat.reduceSub, Int.reduceNeg, Int.reduceLT, Int.reduceLE, Int.reduceEq, Int.reduceToNat, tt3, tt4, tt22, tt24, tt29, tt26, tt30, ti3, ti22, ti29, planS, planC]
    refine go_if (fun h => ?_) (fun h => ?_)
    · have hkl : k < r.length := by simp at h; omega
      obtain ⟨x, hx⟩ := get_of_lt hkl
      by_cases hlo : x < -1
      · simp only [go_sem, reduceIte, Nat.reduceEqDiff, Nat.reduceAdd, Nat.reduceLT, Nat.reduceLeDiff, Nat.reduceBEq, Nat.reduceMul, Nat.reduceSub, Int.reduceNeg, Int.reduceLT, Int.reduceLE, Int.reduceEq, Int.reduceToNat, tt3, tt4, tt22, tt24, tt29, tt26, tt30, ti3, ti22, ti29, hr, rD, hx, iD, hlo]
        refine ⟨by simp [hlt], by simp [hkl], ?_⟩
        have : rows.any (fun r => r.any (fun x => decide (x < -1 ∨ 1 < x))) = true := any_of_get hr (any_of_get hx (by simp [hlo]))
        simp only [this, if_true, if_false, Bool.false_eq_true]
      · simp only [go_sem, reduceIte, Nat.reduceEqDiff, Nat.reduceAdd, Nat.reduceLT, Nat.reduceLeDiff, Nat.reduceBEq, Nat.reduceMul, Nat.reduceSub, Int.reduceNeg, Int.reduceLT, Int.reduceLE, Int.reduceEq, Int.reduceToNat, tt3, tt4, tt22, tt24, tt29, tt26, tt30, ti3, ti22, ti29, hr, rD, hx, iD, hlo]
        refine ⟨by simp [hlt], by simp [hkl], by simp [hlt], by simp [hkl], go_if (fun hb => ?_) (fun hb => ?_)⟩
        · have : rows.any (fun r => r.any (fun x => decide (x < -1 ∨ 1 < x))) = true := any_of_get hr (any_of_get hx (by simp at hb; simp [hb]))
          simp only [go_sem, reduceIte, Nat.reduceEqDiff, Nat.reduceAdd, Nat.reduceLT, Nat.reduceLeDiff, Nat.reduceBEq, Nat.reduceMul, Nat.reduceSub, Int.reduceNeg, Int.reduceLT, Int.reduceLE, Int.reduceEq, Int.reduceToNat, tt3, tt4, tt22, tt24, tt29, tt26, tt30, ti3, ti22, ti29]
          simp only [this, if_true, if_false, Bool.false_eq_true]
        · simp only [go_sem, reduceIte, Nat.reduceEqDiff, Nat.reduceAdd, Nat.reduceLT, Nat.reduceLeDiff, Nat.reduceBEq, Nat.reduceMul, Nat.reduceSub, Int.reduceNeg, Int.reduceLT, Int.reduceLE, Int.reduceEq, Int.reduceToNat, tt3, tt4, tt22, tt24, tt29, tt26, tt30, ti3, ti22, ti29, wr_succ hkl (show r.length ≤ 140737488355328 by omega)]
          refine ⟨k + 1, ⟨hkl, upto_succ hin hx (by simp at hb; omega)⟩, by omega, ?_⟩
          refine ent_weaken [] rfl rfl (Nat.zero_le _) rfl rfl ?_
          simp only [go_sem, reduceIte, Nat.reduceEqDiff, Nat.reduceAdd, Nat.reduceLT, Nat.reduceLeDiff, Nat.reduceBEq, Nat.reduceMul, Nat.reduceSub, Int.reduceNeg, Int.reduceLT, Int.reduceLE, Int.reduceEq, Int.reduceToNat, tt3, tt4, tt22, tt24, tt29, tt26, tt30, ti3, ti22, ti29]
    · have hk' : k = r.length := by simp at h; omega
      simp only [go_sem, reduceIte, Nat.reduceEqDiff, Nat.reduceAdd, Nat.reduceLT, Nat.reduceLeDiff, Nat.reduceBEq, Nat.reduceMul, Nat.reduceSub, Int.reduceNeg, Int.reduceLT, Int.reduceLE, Int.reduceEq, Int.reduceToNat, tt3, tt4, tt22, tt24, tt29, tt26, tt30, ti3, ti22, ti29, wr_succ hlt hfit]
      refine ⟨i + 1, ⟨hlt, upto_succ hrng hr (any_none (fun j x hj hx => ?_))⟩, by omega, ?_⟩
      · have := hin j x (by omega) hx
        simp; omega
      · refine ent_weaken [] rfl rfl (Nat.zero_le _) rfl rfl ?_
        simp only [go_sem, reduceIte, Nat.reduceEqDiff, Nat.reduceAdd, Nat.reduceLT, Nat.reduceLeDiff, Nat.reduceBEq, Nat.reduceMul, Nat.reduceSub, Int.reduceNeg, Int.reduceLT, Int.reduceLE, Int.reduceEq, Int.reduceToNat, tt3, tt4, tt22, tt24, tt29, tt26, tt30, ti3, ti22, ti29]
  have hi' : i = rows.length := by simp at h; omega
  have hr0 : rows.any (fun r => r.any (fun x => decide (x < -1 ∨ 1 < x))) = false := any_none (fun j r hj hr => hrng j r (by omega) hr)
  have hsm : ∀ r ∈ rows, ∀ x ∈ r, -1 ≤ x ∧ x ≤ 1 := by
    intro r hr x hx
    have h1 := List.any_eq_false.1 hr0 r hr
    simp only [Bool.not_eq_true] at h1
    have h2 := List.any_eq_false.1 h1 x hx
    simp at h2; omega
  simp only [go_sem, reduceIte, Nat.reduceEqDiff, Nat.reduceAdd, Nat.reduceLT, Nat.reduceLeDiff, Nat.reduceBEq, Nat.reduceMul, Nat.reduceSub, Int.reduceNeg, Int.reduceLT, Int.reduceLE, Int.reduceEq, Int.reduceToNat, tt3, tt4, tt22, tt24, tt29, tt26, tt30, ti3, ti22, ti29, hr0]
  clear hi' h hi hrng
  refine go_loop (fun i : Nat => planS n rows [(6, I i)]) (fun i => i ≤ rows.length ∧ ∀ j (r : List Int), j < i → rows[j]? = some r → r.sum = 0) (fun i => rows.length - i) 0 mo (by kernel_rfl) ?_ ⟨Nat.zero_le _, by intro j r h; omega⟩ ?_
  · refine ent_weaken [] rfl rfl (Nat.zero_le _) rfl rfl ?_
    simp only [go_sem, reduceIte, Nat.reduceEqDiff, Nat.reduceAdd, Nat.reduceLT, Nat.reduceLeDiff, Nat.reduceBEq, Nat.reduceMul, Nat.reduceSub, Int.reduceNeg, Int.reduceLT, Int.reduceLE, Int.reduceEq, Int.reduceToNat, tt3, tt4, tt22, tt24, tt29, tt26, tt30, ti3, ti22, ti29, planS, planC]
    exact .refl _
  rintro i ⟨hi, hz⟩
  simp only [go_sem, reduceIte, Nat.reduceEqDiff, Nat.reduceAdd, Nat.reduceLT, Nat.reduceLeDiff, Nat.reduceBEq, Nat.reduceMul, Nat.reduceSub, Int.reduceNeg, Int.reduceLT, Int.reduceLE, Int.reduceEq, Int.reduceToNat, tt3, tt4, tt22, tt24, tt29, tt26, tt30, ti3, ti22, ti29, planS, planC]
  refine go_if (fun h => ?_) (fun h => ?_)
  · have hlt : i < rows.length := by simpa using h
    obtain ⟨r, hr⟩ := get_of_lt hlt
    have hrn : (r.length : Int) = n := hall2 r (List.mem_of_getElem? hr)
    have hsr := hsm r (List.mem_of_getElem? hr)
    simp only [go_sem, reduceIte, Nat.reduceEqDiff, Nat.reduceAdd, Nat.reduceLT, Nat.reduceLeDiff, Nat.reduceBEq, Nat.reduceMul, Nat.reduceSub, Int.reduceNeg, Int.reduceLT, Int.reduceLE, Int.reduceEq, Int.reduceToNat, tt3, tt4, tt22, tt24, tt29, tt26, tt30, ti3, ti22, ti29]
    refine go_loop (fun k : Nat => planS n rows [(6, I i), (7, I (r.take k).sum), (8, I k)]) (fun k => k ≤ r.length) (fun k => r.length - k) 0 mo (by kernel_rfl) ?_ (Nat.zero_le _) ?_
    · refine ent_weaken [] rfl rfl (Nat.zero_le _) rfl rfl ?_
      simp only [go_sem, reduceIte, Nat.reduceEqDiff, Nat.reduceAdd, Nat.reduceLT, Nat.reduceLeDiff, Nat.reduceBEq, Nat.reduceMul, Nat.reduceSub, Int.reduceNeg, Int.reduceLT, Int.reduceLE, Int.reduceEq, Int.reduceToNat, tt3, tt4, tt22, tt24, tt29, tt26, tt30, ti3, ti22, ti29, planS, planC]
      exact ⟨.refl _, .refl _⟩
    rintro k hk
    simp only [go_sem, reduceIte, Nat.reduceEqDiff, Nat.reduceAdd, Nat.reduceLT, Nat.reduceLeDiff, Nat.reduceBEq, Nat.reduceMul, Nat.reduceSub, Int.reduceNeg, Int.reduceLT, Int.reduceLE, Int.reduceEq, Int.reduceToNat, tt3, tt4, tt22, tt24, tt29, tt26, tt30, ti3, ti22, ti29, planS, planC]
    refine go_if (fun h => ?_) (fun h => ?_)
    · have hkl : k < r.length := by simp at h; omega
      obtain ⟨x, hx⟩ := get_of_lt hkl
      have hb := sum_bound r k hsr
      have hxb := hsr x (List.mem_of_getElem? hx)
      have hw : wr .i64 ((r.take k).sum + x) = (r.take (k + 1)).sum := by rw [sum_take hx, wr_i64] <;> omega
      simp only [go_sem, reduceIte, Nat.reduceEqDiff, Nat.reduceAdd, Nat.reduceLT, Nat.reduceLeDiff, Nat.reduceBEq, Nat.reduceMul, Nat.reduceSub, Int.reduceNeg, Int.reduceLT, Int.reduceLE, Int.reduceEq, Int.reduceToNat, tt3, tt4, tt22, tt24, tt29, tt26, tt30, ti3, ti22, ti29, hr, rD, hx, iD, wr_succ hkl (show r.length ≤ 140737488355328 by omega), hw]
      refine ⟨by simp [hlt], by simp [hkl], k + 1, hkl, by omega, ?_⟩
      refine ent_weaken [] rfl rfl (Nat.zero_le _) rfl rfl ?_
      simp only [go_sem, reduceIte, Nat.reduceEqDiff, Nat.reduceAdd, Nat.reduceLT, Nat.reduceLeDiff, Nat.reduceBEq, Nat.reduceMul, Nat.reduceSub, Int.reduceNeg, Int.reduceLT, Int.reduceLE, Int.reduceEq, Int.reduceToNat, tt3, tt4, tt22, tt24, tt29, tt26, tt30, ti3, ti22, ti29]
    · have hk' : k = r.length := by simp at h; omega
      subst hk'
      simp only [go_sem, reduceIte, Nat.reduceEqDiff, Nat.reduceAdd, Nat.reduceLT, Nat.reduceLeDiff, Nat.reduceBEq, Nat.reduceMul, Nat.reduceSub, Int.reduceNeg, Int.reduceLT, Int.reduceLE, Int.reduceEq, Int.reduceToNat, tt3, tt4, tt22, tt24, tt29, tt26, tt30, ti3, ti22, ti29, List.take_length]
      refine go_if (fun hb => ?_) (fun hb => ?_)
      · have : rows.any (fun r => decide (r.sum ≠ 0)) = true := any_of_get hr (by simpa using hb)
        simp only [go_sem, reduceIte, Nat.reduceEqDiff, Nat.reduceAdd, Nat.reduceLT, Nat.reduceLeDiff, Nat.reduceBEq, Nat.reduceMul, Nat.reduceSub, Int.reduceNeg, Int.reduceLT, Int.reduceLE, Int.reduceEq, Int.reduceToNat, tt3, tt4, tt22, tt24, tt29, tt26, tt30, ti3, ti22, ti29]
        simp only [this, if_true, if_false, Bool.false_eq_true]
      · simp only [go_sem, reduceIte, Nat.reduceEqDiff, Nat.reduceAdd, Nat.reduceLT, Nat.reduceLeDiff, Nat.reduceBEq, Nat.reduceMul, Nat.reduceSub, Int.reduceNeg, Int.reduceLT, Int.reduceLE, Int.reduceEq, Int.reduceToNat, tt3, tt4, tt22, tt24, tt29, tt26, tt30, ti3, ti22, ti29, wr_succ hlt hfit]
        refine ⟨i + 1, ⟨hlt, upto_succ hz hr (by simpa using hb)⟩, by omega, ?_⟩
        refine ent_weaken [] rfl rfl (Nat.zero_le _) rfl rfl ?_
        simp only [go_sem, reduceIte, Nat.reduceEqDiff, Nat.reduceAdd, Nat.reduceLT, Nat.reduceLeDiff, Nat.reduceBEq, Nat.reduceMul, Nat.reduceSub, Int.reduceNeg, Int.reduceLT, Int.reduceLE, Int.reduceEq, Int.reduceToNat, tt3, tt4, tt22, tt24, tt29, tt26, tt30, ti3, ti22, ti29]
  · have hi' : i = rows.length := by simp at h; omega
    have : rows.any (fun r => decide (r.sum ≠ 0)) = false := any_none (fun j r hj hr => by simp [hz j r (by omega) hr])
    simp only [go_sem, reduceIte, Nat.reduceEqDiff, Nat.reduceAdd, Nat.reduceLT, Nat.reduceLeDiff, Nat.reduceBEq, Nat.reduceMul, Nat.reduceSub, Int.reduceNeg, Int.reduceLT, Int.reduceLE, Int.reduceEq, Int.reduceToNat, tt3, tt4, tt22, tt24, tt29, tt26, tt30, ti3, ti22, ti29]
    simp only [this, if_true, if_false, Bool.false_eq_true]

end Go.Proofs.Ytklmpopomokglaa
