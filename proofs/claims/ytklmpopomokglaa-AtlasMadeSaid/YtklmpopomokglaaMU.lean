
import Derived.Test.YtklmpopomokglaaTab
import Derived.Test.YtklmpopomokglaaAbsG
set_option linter.unusedSimpArgs false
set_option linter.unusedVariables false
namespace Go.Proofs.Ytklmpopomokglaa
open Go Go.Abs Go.Proofs

def iD (n : Int) : List D := [.int .i64 n]
def ints (l : List Int) : V := .c (.d (.sl (l.map iD)))
theorem mo : tx.P.follows .mixedOrders = true := by kernel_rfl
theorem fit_ints {l : List Int} (h : FitV (ints l)) : l.length ≤ 140737488355328 := by have h : Fit _ := h; have := h.len; simpa [lim] using this
theorem wr_succ {i n : Nat} (h : i < n) (hn : n ≤ 140737488355328) : wr .i64 ((i : Int) + 1) = ((i + 1 : Nat) : Int) := by rw [wr_i64] <;> omega
theorem get_of_lt {α : Type} {l : List α} {i : Nat} (h : i < l.length) : ∃ x, l[i]? = some x := ⟨l[i], by simp [h]⟩
theorem take_succ_eq {α : Type} {l : List α} {i : Nat} {x : α} (h : l[i]? = some x) : l.take (i + 1) = l.take i ++ [x] := by
  rw [List.take_add_one, h]; rfl

set_option maxHeartbeats 400000 in
theorem same_pure (a b : List Int) : Pure Try.prog 20 [ints a, ints b] (B (decide (a = b))) := by
  refine pure_fit (X := tx) (nt := 26) (rs := [.tmp 4]) Try.func20 rfl rfl rfl rfl mo (by kernel_rfl) rfl rfl (fun hf => ?_)
  have ha := fit_ints (hf (ints a) (by simp))
  simp only [go_sem, reduceIte, Nat.reduceEqDiff, Nat.reduceAdd, Nat.reduceLT, Nat.reduceLeDiff, Nat.reduceBEq, Nat.reduceMul, Nat.reduceSub, Nat.reduceDiv, Int.reduceNeg, Int.reduceLT, Int.reduceLE, Int.reduceEq, Int.reduceToNat, tt3, tt29, ints]
  refine go_if (fun h => ?_) (fun h => ?_)
  · simp only [go_sem, reduceIte, Nat.reduceEqDiff, Nat.reduceAdd, Nat.reduceLT, Nat.reduceLeDiff, Nat.reduceBEq, Nat.reduceMul, Nat.reduceSub, Nat.reduceDiv, Int.reduceNeg, Int.reduceLT, Int.reduceLE, Int.reduceEq, Int.reduceToNat]
    have hne : a ≠ b := fun e => by simp [e] at h
    simp [hne]
  · simp only [go_sem, reduceIte, Nat.reduceEqDiff, Nat.reduceAdd, Nat.reduceLT, Nat.reduceLeDiff, Nat.reduceBEq, Nat.reduceMul, Nat.reduceSub, Nat.reduceDiv, Int.reduceNeg, Int.reduceLT, Int.reduceLE, Int.reduceEq, Int.reduceToNat]
    have hlen : a.length = b.length := by simp at h; omega
    refine go_loop (fun i : Nat => { slots := [(0, ints a), (1, ints b), (5, I i)], heap := [], marks := [] }) (fun i => i ≤ a.length ∧ a.take i = b.take i) (fun i => a.length - i) 0 mo (by kernel_rfl) ?_ ?_ ?_
    · refine ent_weaken [] rfl rfl (Nat.le_refl _) rfl rfl ?_
      simp only [go_sem, reduceIte, Nat.reduceEqDiff, Nat.reduceAdd, Nat.reduceLT, Nat.reduceLeDiff, Nat.reduceBEq, Nat.reduceMul, Nat.reduceSub, Nat.reduceDiv, Int.reduceNeg, Int.reduceLT, Int.reduceLE, Int.reduceEq, Int.reduceToNat, ints]
      exact .refl _
    · simp
    · rintro i ⟨hi, ht⟩
      simp only [go_sem, reduceIte, Nat.reduceEqDiff, Nat.reduceAdd, Nat.reduceLT, Nat.reduceLeDiff, Nat.reduceBEq, Nat.reduceMul, Nat.reduceSub, Nat.reduceDiv, Int.reduceNeg, Int.reduceLT, Int.reduceLE, Int.reduceEq, Int.reduceToNat, tt3, tt29, ints]
      refine go_if (fun h => ?_) (fun h => ?_)
      · have hlt : i < a.length := by simpa using h
        obtain ⟨x, hx⟩ := get_of_lt hlt
        obtain ⟨y, hy⟩ := get_of_lt (hlen ▸ hlt)
        simp only [go_sem, reduceIte, Nat.reduceEqDiff, Nat.reduceAdd, Nat.reduceLT, Nat.reduceLeDiff, Nat.reduceBEq, Nat.reduceMul, Nat.reduceSub, Nat.reduceDiv, Int.reduceNeg, Int.reduceLT, Int.reduceLE, Int.reduceEq, Int.reduceToNat, tt3, tt29, hx, hy, iD, wr_succ hlt ha]
        refine ⟨by simp [hlt], by simp; omega, go_if (fun hn => ?_) (fun hn => ?_)⟩
        · have hne : a ≠ b := fun e => by subst e; simp [hx] at hy; simp [hy] at hn
          simp only [go_sem, reduceIte, Nat.reduceEqDiff, Nat.reduceAdd, Nat.reduceLT, Nat.reduceLeDiff, Nat.reduceBEq, Nat.reduceMul, Nat.reduceSub, Nat.reduceDiv, Int.reduceNeg, Int.reduceLT, Int.reduceLE, Int.reduceEq, Int.reduceToNat, tt3, tt29]
          simp [hne]
        · simp only [go_sem, reduceIte, Nat.reduceEqDiff, Nat.reduceAdd, Nat.reduceLT, Nat.reduceLeDiff, Nat.reduceBEq, Nat.reduceMul, Nat.reduceSub, Nat.reduceDiv, Int.reduceNeg, Int.reduceLT, Int.reduceLE, Int.reduceEq, Int.reduceToNat, tt3, tt29, wr_succ hlt ha]
          refine ⟨i + 1, ⟨hlt, ?_⟩, by omega, ent_weaken [] rfl rfl (Nat.le_refl _) rfl rfl ?_⟩
          · have : x = y := by simpa using hn
            rw [take_succ_eq hx, take_succ_eq hy, ht, this]
          · simp only [go_sem, reduceIte, Nat.reduceEqDiff, Nat.reduceAdd, Nat.reduceLT, Nat.reduceLeDiff, Nat.reduceBEq, Nat.reduceMul, Nat.reduceSub, Nat.reduceDiv, Int.reduceNeg, Int.reduceLT, Int.reduceLE, Int.reduceEq, Int.reduceToNat, ints]
      · simp only [go_sem, reduceIte, Nat.reduceEqDiff, Nat.reduceAdd, Nat.reduceLT, Nat.reduceLeDiff, Nat.reduceBEq, Nat.reduceMul, Nat.reduceSub, Nat.reduceDiv, Int.reduceNeg, Int.reduceLT, Int.reduceLE, Int.reduceEq, Int.reduceToNat]
        have : i = a.length := by simp at h; omega
        subst this
        rw [List.take_length] at ht
        rw [hlen, List.take_length] at ht
        simp [ht]
end Go.Proofs.Ytklmpopomokglaa
/- Plans: what the reference's check says. -/
set_option linter.unusedSimpArgs false
set_option linter.unusedVariables false
namespace Go.Proofs.Ytklmpopomokglaa
open Go Go.Abs Go.Proofs

def rD (r : List Int) : List D := [.sl (r.map iD)]
def planC (n : Int) (rows : List (List Int)) : List C := [.d (.int .i64 n), .d (.sl (rows.map rD))]
def planV (n : Int) (rows : List (List Int)) : V := .agg (planC n rows)

def okPlan (n : Int) (rows : List (List Int)) : Int :=
  if 4 < rows.length then 6 else if n < 1 ∨ 39 < n then 2 else
  if rows.any (fun r => decide ((r.length : Int) ≠ n)) then 15 else
  if rows.any (fun r => r.any (fun x => decide (x < -1 ∨ 1 < x))) then 3 else
  if rows.any (fun r => decide (r.sum ≠ 0)) then 16 else 0

def planS (n : Int) (rows : List (List Int)) (l : List (Nat × V)) : St := { slots := (1, .c (.ptr 0 0)) :: l, heap := [.cells (planC n rows)], marks := [] }

theorem any_of_get {α : Type} {l : List α} {p : α → Bool} {i : Nat} {x : α} (h : l[i]? = some x) (hp : p x = true) : l.any p = true := List.any_eq_true.2 ⟨x, List.mem_of_getElem? h, hp⟩
theorem any_none {α : Type} {l : List α} {p : α → Bool} (h : ∀ (j : Nat) x, j < l.length → l[j]? = some x → p x = false) : l.any p = false := by
  rw [List.any_eq_false]
  intro x hx
  obtain ⟨j, hj⟩ := List.getElem?_of_mem hx
  rw [h j x (List.getElem?_eq_some_iff.1 hj).1 hj]; simp
theorem upto_succ {α : Type} {l : List α} {P : α → Prop} {i : Nat} {x : α} (h : ∀ (j : Nat) y, j < i → l[j]? = some y → P y) (hx : l[i]? = some x) (hp : P x) : ∀ (j : Nat) y, j < i + 1 → l[j]? = some y → P y := fun j y hj hy => by
  rcases Nat.lt_succ_iff_lt_or_eq.1 hj with h1 | h1
  · exact h j y h1 hy
  · subst h1; rw [hx] at hy; cases hy; exact hp
theorem sum_take {l : List Int} {k : Nat} {x : Int} (h : l[k]? = some x) : (l.take (k + 1)).sum = (l.take k).sum + x := by
  rw [take_succ_eq h, List.sum_append]; simp
theorem sum_bound : ∀ (l : List Int) (k : Nat), (∀ x ∈ l, -1 ≤ x ∧ x ≤ 1) → -(k : Int) ≤ (l.take k).sum ∧ (l.take k).sum ≤ k
  | [], k, _ => by simp
  | x :: l, 0, _ => by simp
  | x :: l, k + 1, h => by
    have h1 := h x (by simp)
    have h2 := sum_bound l k (fun y hy => h y (List.mem_cons_of_mem _ hy))
    simp only [List.take_succ_cons, List.sum_cons]
    omega

set_option maxHeartbeats 1000000 in
theorem refCheckPlan_pure (n : Int) (rows : List (List Int)) : Pure Try.prog 19 [planV n rows] (I (okPlan n rows)) := by
  refine pure_fit (X := tx) (nt := 95) (rs := [.tmp 2]) Try.func19 rfl rfl rfl rfl mo (by kernel_rfl) rfl rfl (fun hf => ?_)
  have hfit : rows.length ≤ 140737488355328 := by
    have h : Fit _ := hf (planV n rows) (by simp) (.d (.sl (rows.map rD))) (by simp [planC])
    have := h.len; simpa [lim] using this
  simp only [go_sem, reduceIte, Nat.reduceEqDiff, Nat.reduceAdd, Nat.reduceLT, Nat.reduceLeDiff, Nat.reduceBEq, Nat.reduceMul, Nat.reduceSub, Nat.reduceDiv, Int.reduceNeg, Int.reduceLT, Int.reduceLE, Int.reduceEq, Int.reduceToNat, tt3, tt4, tt22, tt24, tt29, tt26, tt30, ti3, ti22, ti29, planV, planC]
  refine go_if (fun h => ?_) (fun h => ?_)
  · have h4 : 4 < rows.length := by simp at h; omega
    simp only [go_sem, reduceIte, Nat.reduceEqDiff, Nat.reduceAdd, Nat.reduceLT, Nat.reduceLeDiff, Nat.reduceBEq, Nat.reduceMul, Nat.reduceSub, Nat.reduceDiv, Int.reduceNeg, Int.reduceLT, Int.reduceLE, Int.reduceEq, Int.reduceToNat, tt3, tt4, tt22, tt24, tt29, tt26, tt30, ti3, ti22, ti29, okPlan, h4]
  have h4 : ¬ 4 < rows.length := by simp at h; omega
  by_cases h1 : n < 1
  · simp only [go_sem, reduceIte, Nat.reduceEqDiff, Nat.reduceAdd, Nat.reduceLT, Nat.reduceLeDiff, Nat.reduceBEq, Nat.reduceMul, Nat.reduceSub, Nat.reduceDiv, Int.reduceNeg, Int.reduceLT, Int.reduceLE, Int.reduceEq, Int.reduceToNat, tt3, tt4, tt22, tt24, tt29, tt26, tt30, ti3, ti22, ti29, h1, okPlan, h4]
  simp only [go_sem, reduceIte, Nat.reduceEqDiff, Nat.reduceAdd, Nat.reduceLT, Nat.reduceLeDiff, Nat.reduceBEq, Nat.reduceMul, Nat.reduceSub, Nat.reduceDiv, Int.reduceNeg, Int.reduceLT, Int.reduceLE, Int.reduceEq, Int.reduceToNat, tt3, tt4, tt22, tt24, tt29, tt26, tt30, ti3, ti22, ti29, h1]
  refine go_if (fun h => ?_) (fun h => ?_)
  · have h39 : 39 < n := by simpa using h
    simp only [go_sem, reduceIte, Nat.reduceEqDiff, Nat.reduceAdd, Nat.reduceLT, Nat.reduceLeDiff, Nat.reduceBEq, Nat.reduceMul, Nat.reduceSub, Nat.reduceDiv, Int.reduceNeg, Int.reduceLT, Int.reduceLE, Int.reduceEq, Int.reduceToNat, tt3, tt4, tt22, tt24, tt29, tt26, tt30, ti3, ti22, ti29, okPlan, h4, h1, h39]
  have h39 : ¬ 39 < n := by simpa using h
  simp only [go_sem, reduceIte, Nat.reduceEqDiff, Nat.reduceAdd, Nat.reduceLT, Nat.reduceLeDiff, Nat.reduceBEq, Nat.reduceMul, Nat.reduceSub, Nat.reduceDiv, Int.reduceNeg, Int.reduceLT, Int.reduceLE, Int.reduceEq, Int.reduceToNat, tt3, tt4, tt22, tt24, tt29, tt26, tt30, ti3, ti22, ti29]
  have e0 : okPlan n rows = if rows.any (fun r => decide ((r.length : Int) ≠ n)) then 15 else
      if rows.any (fun r => r.any (fun x => decide (x < -1 ∨ 1 < x))) then 3 else
      if rows.any (fun r => decide (r.sum ≠ 0)) then 16 else 0 := by simp [okPlan, h4, h1, h39]
  rw [e0]
  refine go_loop (fun i : Nat => planS n rows [(3, I i)]) (fun i => i ≤ rows.length ∧ ∀ j r, j < i → rows[j]? = some r → (r.length : Int) = n) (fun i => rows.length - i) 0 mo (by kernel_rfl) ?_ ⟨Nat.zero_le _, by intro j r h; omega⟩ ?_
  · refine ent_weaken [] rfl rfl (Nat.zero_le _) rfl rfl ?_
    simp only [go_sem, reduceIte, Nat.reduceEqDiff, Nat.reduceAdd, Nat.reduceLT, Nat.reduceLeDiff, Nat.reduceBEq, Nat.reduceMul, Nat.reduceSub, Nat.reduceDiv, Int.reduceNeg, Int.reduceLT, Int.reduceLE, Int.reduceEq, Int.reduceToNat, tt3, tt4, tt22, tt24, tt29, tt26, tt30, ti3, ti22, ti29, planS]
    exact .refl _
  rintro i ⟨hi, hall⟩
  simp only [go_sem, reduceIte, Nat.reduceEqDiff, Nat.reduceAdd, Nat.reduceLT, Nat.reduceLeDiff, Nat.reduceBEq, Nat.reduceMul, Nat.reduceSub, Nat.reduceDiv, Int.reduceNeg, Int.reduceLT, Int.reduceLE, Int.reduceEq, Int.reduceToNat, tt3, tt4, tt22, tt24, tt29, tt26, tt30, ti3, ti22, ti29, planS, planC]
  refine go_if (fun h => ?_) (fun h => ?_)
  · have hlt : i < rows.length := by simpa using h
    obtain ⟨r, hr⟩ := get_of_lt hlt
    simp only [go_sem, reduceIte, Nat.reduceEqDiff, Nat.reduceAdd, Nat.reduceLT, Nat.reduceLeDiff, Nat.reduceBEq, Nat.reduceMul, Nat.reduceSub, Nat.reduceDiv, Int.reduceNeg, Int.reduceLT, Int.reduceLE, Int.reduceEq, Int.reduceToNat, tt3, tt4, tt22, tt24, tt29, tt26, tt30, ti3, ti22, ti29, hr, rD]
    refine ⟨by simp [hlt], go_if (fun hb => ?_) (fun hb => ?_)⟩
    · have : rows.any (fun r => decide ((r.length : Int) ≠ n)) = true := any_of_get hr (by simpa using hb)
      simp only [go_sem, reduceIte, Nat.reduceEqDiff, Nat.reduceAdd, Nat.reduceLT, Nat.reduceLeDiff, Nat.reduceBEq, Nat.reduceMul, Nat.reduceSub, Nat.reduceDiv, Int.reduceNeg, Int.reduceLT, Int.reduceLE, Int.reduceEq, Int.reduceToNat, tt3, tt4, tt22, tt24, tt29, tt26, tt30, ti3, ti22, ti29, this]
    · simp only [go_sem, reduceIte, Nat.reduceEqDiff, Nat.reduceAdd, Nat.reduceLT, Nat.reduceLeDiff, Nat.reduceBEq, Nat.reduceMul, Nat.reduceSub, Nat.reduceDiv, Int.reduceNeg, Int.reduceLT, Int.reduceLE, Int.reduceEq, Int.reduceToNat, tt3, tt4, tt22, tt24, tt29, tt26, tt30, ti3, ti22, ti29, wr_succ hlt hfit]
      refine ⟨i + 1, ⟨hlt, upto_succ hall hr (by simpa using hb)⟩, by omega, ?_⟩
      refine ent_weaken [] rfl rfl (Nat.zero_le _) rfl rfl ?_
      simp only [go_sem, reduceIte, Nat.reduceEqDiff, Nat.reduceAdd, Nat.reduceLT, Nat.reduceLeDiff, Nat.reduceBEq, Nat.reduceMul, Nat.reduceSub, Nat.reduceDiv, Int.reduceNeg, Int.reduceLT, Int.reduceLE, Int.reduceEq, Int.reduceToNat, tt3, tt4, tt22, tt24, tt29, tt26, tt30, ti3, ti22, ti29]
  have hlen : rows.any (fun r => decide ((r.length : Int) ≠ n)) = false := any_none (fun j r hj hr => by
    have : i = rows.length := by simp at h; omega
    have := hall j r (by omega) hr
    simp [this])
  have hall2 : ∀ r ∈ rows, (r.length : Int) = n := by simpa using hlen
  simp only [go_sem, reduceIte, Nat.reduceEqDiff, Nat.reduceAdd, Nat.reduceLT, Nat.reduceLeDiff, Nat.reduceBEq, Nat.reduceMul, Nat.reduceSub, Nat.reduceDiv, Int.reduceNeg, Int.reduceLT, Int.reduceLE, Int.reduceEq, Int.reduceToNat, tt3, tt4, tt22, tt24, tt29, tt26, tt30, ti3, ti22, ti29, hlen]
  refine go_loop (fun i : Nat => planS n rows [(4, I i)]) (fun i => i ≤ rows.length ∧ ∀ j (r : List Int), j < i → rows[j]? = some r → r.any (fun x => decide (x < -1 ∨ 1 < x)) = false) (fun i => rows.length - i) 0 mo (by kernel_rfl) ?_ ⟨Nat.zero_le _, by intro j r h; omega⟩ ?_
  · refine ent_weaken [] rfl rfl (Nat.zero_le _) rfl rfl ?_
    simp only [go_sem, reduceIte, Nat.reduceEqDiff, Nat.reduceAdd, Nat.reduceLT, Nat.reduceLeDiff, Nat.reduceBEq, Nat.reduceMul, Nat.reduceSub, Nat.reduceDiv, Int.reduceNeg, Int.reduceLT, Int.reduceLE, Int.reduceEq, Int.reduceToNat, tt3, tt4, tt22, tt24, tt29, tt26, tt30, ti3, ti22, ti29, planS]
    exact .refl _
  clear h hall hi
  rintro i ⟨hi, hrng⟩
  simp only [go_sem, reduceIte, Nat.reduceEqDiff, Nat.reduceAdd, Nat.reduceLT, Nat.reduceLeDiff, Nat.reduceBEq, Nat.reduceMul, Nat.reduceSub, Nat.reduceDiv, Int.reduceNeg, Int.reduceLT, Int.reduceLE, Int.reduceEq, Int.reduceToNat, tt3, tt4, tt22, tt24, tt29, tt26, tt30, ti3, ti22, ti29, planS, planC]
  refine go_if (fun h => ?_) (fun h => ?_)
  · have hlt : i < rows.length := by simpa using h
    obtain ⟨r, hr⟩ := get_of_lt hlt
    have hrn : (r.length : Int) = n := hall2 r (List.mem_of_getElem? hr)
    simp only [go_sem, reduceIte, Nat.reduceEqDiff, Nat.reduceAdd, Nat.reduceLT, Nat.reduceLeDiff, Nat.reduceBEq, Nat.reduceMul, Nat.reduceSub, Nat.reduceDiv, Int.reduceNeg, Int.reduceLT, Int.reduceLE, Int.reduceEq, Int.reduceToNat, tt3, tt4, tt22, tt24, tt29, tt26, tt30, ti3, ti22, ti29]
    refine go_loop (fun k : Nat => planS n rows [(4, I i), (5, I k)]) (fun k => k ≤ r.length ∧ ∀ j x, j < k → r[j]? = some x → -1 ≤ x ∧ x ≤ 1) (fun k => r.length - k) 0 mo (by kernel_rfl) ?_ ⟨Nat.zero_le _, by intro j r h; omega⟩ ?_
    · refine ent_weaken [] rfl rfl (Nat.zero_le _) rfl rfl ?_
      simp only [go_sem, reduceIte, Nat.reduceEqDiff, Nat.reduceAdd, Nat.reduceLT, Nat.reduceLeDiff, Nat.reduceBEq, Nat.reduceMul, Nat.reduceSub, Nat.reduceDiv, Int.reduceNeg, Int.reduceLT, Int.reduceLE, Int.reduceEq, Int.reduceToNat, tt3, tt4, tt22, tt24, tt29, tt26, tt30, ti3, ti22, ti29, planS, planC]
      exact .refl _
    rintro k ⟨hk, hin⟩
    simp only [go_sem, reduceIte, Nat.reduceEqDiff, Nat.reduceAdd, Nat.reduceLT, Nat.reduceLeDiff, Nat.reduceBEq, Nat.reduceMul, Nat.reduceSub, Nat.reduceDiv, Int.reduceNeg, Int.reduceLT, Int.reduceLE, Int.reduceEq, Int.reduceToNat, tt3, tt4, tt22, tt24, tt29, tt26, tt30, ti3, ti22, ti29, planS, planC]
    refine go_if (fun h => ?_) (fun h => ?_)
    · have hkl : k < r.length := by simp at h; omega
      obtain ⟨x, hx⟩ := get_of_lt hkl
      by_cases hlo : x < -1
      · simp only [go_sem, reduceIte, Nat.reduceEqDiff, Nat.reduceAdd, Nat.reduceLT, Nat.reduceLeDiff, Nat.reduceBEq, Nat.reduceMul, Nat.reduceSub, Nat.reduceDiv, Int.reduceNeg, Int.reduceLT, Int.reduceLE, Int.reduceEq, Int.reduceToNat, tt3, tt4, tt22, tt24, tt29, tt26, tt30, ti3, ti22, ti29, hr, rD, hx, iD, hlo]
        refine ⟨by simp [hlt], by simp [hkl], ?_⟩
        have : rows.any (fun r => r.any (fun x => decide (x < -1 ∨ 1 < x))) = true := any_of_get hr (any_of_get hx (by simp [hlo]))
        simp only [this, if_true, if_false, Bool.false_eq_true]
      · simp only [go_sem, reduceIte, Nat.reduceEqDiff, Nat.reduceAdd, Nat.reduceLT, Nat.reduceLeDiff, Nat.reduceBEq, Nat.reduceMul, Nat.reduceSub, Nat.reduceDiv, Int.reduceNeg, Int.reduceLT, Int.reduceLE, Int.reduceEq, Int.reduceToNat, tt3, tt4, tt22, tt24, tt29, tt26, tt30, ti3, ti22, ti29, hr, rD, hx, iD, hlo]
        refine ⟨by simp [hlt], by simp [hkl], by simp [hlt], by simp [hkl], go_if (fun hb => ?_) (fun hb => ?_)⟩
        · have : rows.any (fun r => r.any (fun x => decide (x < -1 ∨ 1 < x))) = true := any_of_get hr (any_of_get hx (by simp at hb; simp [hb]))
          simp only [go_sem, reduceIte, Nat.reduceEqDiff, Nat.reduceAdd, Nat.reduceLT, Nat.reduceLeDiff, Nat.reduceBEq, Nat.reduceMul, Nat.reduceSub, Nat.reduceDiv, Int.reduceNeg, Int.reduceLT, Int.reduceLE, Int.reduceEq, Int.reduceToNat, tt3, tt4, tt22, tt24, tt29, tt26, tt30, ti3, ti22, ti29]
          simp only [this, if_true, if_false, Bool.false_eq_true]
        · simp only [go_sem, reduceIte, Nat.reduceEqDiff, Nat.reduceAdd, Nat.reduceLT, Nat.reduceLeDiff, Nat.reduceBEq, Nat.reduceMul, Nat.reduceSub, Nat.reduceDiv, Int.reduceNeg, Int.reduceLT, Int.reduceLE, Int.reduceEq, Int.reduceToNat, tt3, tt4, tt22, tt24, tt29, tt26, tt30, ti3, ti22, ti29, wr_succ hkl (show r.length ≤ 140737488355328 by omega)]
          refine ⟨k + 1, ⟨hkl, upto_succ hin hx (by simp at hb; omega)⟩, by omega, ?_⟩
          refine ent_weaken [] rfl rfl (Nat.zero_le _) rfl rfl ?_
          simp only [go_sem, reduceIte, Nat.reduceEqDiff, Nat.reduceAdd, Nat.reduceLT, Nat.reduceLeDiff, Nat.reduceBEq, Nat.reduceMul, Nat.reduceSub, Nat.reduceDiv, Int.reduceNeg, Int.reduceLT, Int.reduceLE, Int.reduceEq, Int.reduceToNat, tt3, tt4, tt22, tt24, tt29, tt26, tt30, ti3, ti22, ti29]
    · have hk' : k = r.length := by simp at h; omega
      simp only [go_sem, reduceIte, Nat.reduceEqDiff, Nat.reduceAdd, Nat.reduceLT, Nat.reduceLeDiff, Nat.reduceBEq, Nat.reduceMul, Nat.reduceSub, Nat.reduceDiv, Int.reduceNeg, Int.reduceLT, Int.reduceLE, Int.reduceEq, Int.reduceToNat, tt3, tt4, tt22, tt24, tt29, tt26, tt30, ti3, ti22, ti29, wr_succ hlt hfit]
      refine ⟨i + 1, ⟨hlt, upto_succ hrng hr (any_none (fun j x hj hx => ?_))⟩, by omega, ?_⟩
      · have := hin j x (by omega) hx
        simp; omega
      · refine ent_weaken [] rfl rfl (Nat.zero_le _) rfl rfl ?_
        simp only [go_sem, reduceIte, Nat.reduceEqDiff, Nat.reduceAdd, Nat.reduceLT, Nat.reduceLeDiff, Nat.reduceBEq, Nat.reduceMul, Nat.reduceSub, Nat.reduceDiv, Int.reduceNeg, Int.reduceLT, Int.reduceLE, Int.reduceEq, Int.reduceToNat, tt3, tt4, tt22, tt24, tt29, tt26, tt30, ti3, ti22, ti29]
  have hi' : i = rows.length := by simp at h; omega
  have hr0 : rows.any (fun r => r.any (fun x => decide (x < -1 ∨ 1 < x))) = false := any_none (fun j r hj hr => hrng j r (by omega) hr)
  have hsm : ∀ r ∈ rows, ∀ x ∈ r, -1 ≤ x ∧ x ≤ 1 := by
    intro r hr x hx
    have h1 := List.any_eq_false.1 hr0 r hr
    simp only [Bool.not_eq_true] at h1
    have h2 := List.any_eq_false.1 h1 x hx
    simp at h2; omega
  simp only [go_sem, reduceIte, Nat.reduceEqDiff, Nat.reduceAdd, Nat.reduceLT, Nat.reduceLeDiff, Nat.reduceBEq, Nat.reduceMul, Nat.reduceSub, Nat.reduceDiv, Int.reduceNeg, Int.reduceLT, Int.reduceLE, Int.reduceEq, Int.reduceToNat, tt3, tt4, tt22, tt24, tt29, tt26, tt30, ti3, ti22, ti29, hr0]
  clear hi' h hi hrng
  refine go_loop (fun i : Nat => planS n rows [(6, I i)]) (fun i => i ≤ rows.length ∧ ∀ j (r : List Int), j < i → rows[j]? = some r → r.sum = 0) (fun i => rows.length - i) 0 mo (by kernel_rfl) ?_ ⟨Nat.zero_le _, by intro j r h; omega⟩ ?_
  · refine ent_weaken [] rfl rfl (Nat.zero_le _) rfl rfl ?_
    simp only [go_sem, reduceIte, Nat.reduceEqDiff, Nat.reduceAdd, Nat.reduceLT, Nat.reduceLeDiff, Nat.reduceBEq, Nat.reduceMul, Nat.reduceSub, Nat.reduceDiv, Int.reduceNeg, Int.reduceLT, Int.reduceLE, Int.reduceEq, Int.reduceToNat, tt3, tt4, tt22, tt24, tt29, tt26, tt30, ti3, ti22, ti29, planS, planC]
    exact .refl _
  rintro i ⟨hi, hz⟩
  simp only [go_sem, reduceIte, Nat.reduceEqDiff, Nat.reduceAdd, Nat.reduceLT, Nat.reduceLeDiff, Nat.reduceBEq, Nat.reduceMul, Nat.reduceSub, Nat.reduceDiv, Int.reduceNeg, Int.reduceLT, Int.reduceLE, Int.reduceEq, Int.reduceToNat, tt3, tt4, tt22, tt24, tt29, tt26, tt30, ti3, ti22, ti29, planS, planC]
  refine go_if (fun h => ?_) (fun h => ?_)
  · have hlt : i < rows.length := by simpa using h
    obtain ⟨r, hr⟩ := get_of_lt hlt
    have hrn : (r.length : Int) = n := hall2 r (List.mem_of_getElem? hr)
    have hsr := hsm r (List.mem_of_getElem? hr)
    simp only [go_sem, reduceIte, Nat.reduceEqDiff, Nat.reduceAdd, Nat.reduceLT, Nat.reduceLeDiff, Nat.reduceBEq, Nat.reduceMul, Nat.reduceSub, Nat.reduceDiv, Int.reduceNeg, Int.reduceLT, Int.reduceLE, Int.reduceEq, Int.reduceToNat, tt3, tt4, tt22, tt24, tt29, tt26, tt30, ti3, ti22, ti29]
    refine go_loop (fun k : Nat => planS n rows [(6, I i), (7, I (r.take k).sum), (8, I k)]) (fun k => k ≤ r.length) (fun k => r.length - k) 0 mo (by kernel_rfl) ?_ (Nat.zero_le _) ?_
    · refine ent_weaken [] rfl rfl (Nat.zero_le _) rfl rfl ?_
      simp only [go_sem, reduceIte, Nat.reduceEqDiff, Nat.reduceAdd, Nat.reduceLT, Nat.reduceLeDiff, Nat.reduceBEq, Nat.reduceMul, Nat.reduceSub, Nat.reduceDiv, Int.reduceNeg, Int.reduceLT, Int.reduceLE, Int.reduceEq, Int.reduceToNat, tt3, tt4, tt22, tt24, tt29, tt26, tt30, ti3, ti22, ti29, planS, planC]
      exact ⟨.refl _, .refl _⟩
    rintro k hk
    simp only [go_sem, reduceIte, Nat.reduceEqDiff, Nat.reduceAdd, Nat.reduceLT, Nat.reduceLeDiff, Nat.reduceBEq, Nat.reduceMul, Nat.reduceSub, Nat.reduceDiv, Int.reduceNeg, Int.reduceLT, Int.reduceLE, Int.reduceEq, Int.reduceToNat, tt3, tt4, tt22, tt24, tt29, tt26, tt30, ti3, ti22, ti29, planS, planC]
    refine go_if (fun h => ?_) (fun h => ?_)
    · have hkl : k < r.length := by simp at h; omega
      obtain ⟨x, hx⟩ := get_of_lt hkl
      have hb := sum_bound r k hsr
      have hxb := hsr x (List.mem_of_getElem? hx)
      have hw : wr .i64 ((r.take k).sum + x) = (r.take (k + 1)).sum := by rw [sum_take hx, wr_i64] <;> omega
      simp only [go_sem, reduceIte, Nat.reduceEqDiff, Nat.reduceAdd, Nat.reduceLT, Nat.reduceLeDiff, Nat.reduceBEq, Nat.reduceMul, Nat.reduceSub, Nat.reduceDiv, Int.reduceNeg, Int.reduceLT, Int.reduceLE, Int.reduceEq, Int.reduceToNat, tt3, tt4, tt22, tt24, tt29, tt26, tt30, ti3, ti22, ti29, hr, rD, hx, iD, wr_succ hkl (show r.length ≤ 140737488355328 by omega), hw]
      refine ⟨by simp [hlt], by simp [hkl], k + 1, hkl, by omega, ?_⟩
      refine ent_weaken [] rfl rfl (Nat.zero_le _) rfl rfl ?_
      simp only [go_sem, reduceIte, Nat.reduceEqDiff, Nat.reduceAdd, Nat.reduceLT, Nat.reduceLeDiff, Nat.reduceBEq, Nat.reduceMul, Nat.reduceSub, Nat.reduceDiv, Int.reduceNeg, Int.reduceLT, Int.reduceLE, Int.reduceEq, Int.reduceToNat, tt3, tt4, tt22, tt24, tt29, tt26, tt30, ti3, ti22, ti29]
    · have hk' : k = r.length := by simp at h; omega
      subst hk'
      simp only [go_sem, reduceIte, Nat.reduceEqDiff, Nat.reduceAdd, Nat.reduceLT, Nat.reduceLeDiff, Nat.reduceBEq, Nat.reduceMul, Nat.reduceSub, Nat.reduceDiv, Int.reduceNeg, Int.reduceLT, Int.reduceLE, Int.reduceEq, Int.reduceToNat, tt3, tt4, tt22, tt24, tt29, tt26, tt30, ti3, ti22, ti29, List.take_length]
      refine go_if (fun hb => ?_) (fun hb => ?_)
      · have : rows.any (fun r => decide (r.sum ≠ 0)) = true := any_of_get hr (by simpa using hb)
        simp only [go_sem, reduceIte, Nat.reduceEqDiff, Nat.reduceAdd, Nat.reduceLT, Nat.reduceLeDiff, Nat.reduceBEq, Nat.reduceMul, Nat.reduceSub, Nat.reduceDiv, Int.reduceNeg, Int.reduceLT, Int.reduceLE, Int.reduceEq, Int.reduceToNat, tt3, tt4, tt22, tt24, tt29, tt26, tt30, ti3, ti22, ti29]
        simp only [this, if_true, if_false, Bool.false_eq_true]
      · simp only [go_sem, reduceIte, Nat.reduceEqDiff, Nat.reduceAdd, Nat.reduceLT, Nat.reduceLeDiff, Nat.reduceBEq, Nat.reduceMul, Nat.reduceSub, Nat.reduceDiv, Int.reduceNeg, Int.reduceLT, Int.reduceLE, Int.reduceEq, Int.reduceToNat, tt3, tt4, tt22, tt24, tt29, tt26, tt30, ti3, ti22, ti29, wr_succ hlt hfit]
        refine ⟨i + 1, ⟨hlt, upto_succ hz hr (by simpa using hb)⟩, by omega, ?_⟩
        refine ent_weaken [] rfl rfl (Nat.zero_le _) rfl rfl ?_
        simp only [go_sem, reduceIte, Nat.reduceEqDiff, Nat.reduceAdd, Nat.reduceLT, Nat.reduceLeDiff, Nat.reduceBEq, Nat.reduceMul, Nat.reduceSub, Nat.reduceDiv, Int.reduceNeg, Int.reduceLT, Int.reduceLE, Int.reduceEq, Int.reduceToNat, tt3, tt4, tt22, tt24, tt29, tt26, tt30, ti3, ti22, ti29]
  · have hi' : i = rows.length := by simp at h; omega
    have : rows.any (fun r => decide (r.sum ≠ 0)) = false := any_none (fun j r hj hr => by simp [hz j r (by omega) hr])
    simp only [go_sem, reduceIte, Nat.reduceEqDiff, Nat.reduceAdd, Nat.reduceLT, Nat.reduceLeDiff, Nat.reduceBEq, Nat.reduceMul, Nat.reduceSub, Nat.reduceDiv, Int.reduceNeg, Int.reduceLT, Int.reduceLE, Int.reduceEq, Int.reduceToNat, tt3, tt4, tt22, tt24, tt29, tt26, tt30, ti3, ti22, ti29]
    simp only [this, if_true, if_false, Bool.false_eq_true]

end Go.Proofs.Ytklmpopomokglaa
/- The reference's small functions: great, IsCase, Seen, All. -/
set_option linter.unusedSimpArgs false
set_option linter.unusedVariables false
namespace Go.Proofs.Ytklmpopomokglaa
open Go Go.Abs Go.Proofs

def cC (c : Int × Int) : List C := [.d (.int .i64 c.1), .d (.int .i64 c.2)]
def caseV (c : Int × Int) : V := .agg (cC c)
def cD (c : Int × Int) : List D := [.int .i64 c.1, .int .i64 c.2]
def casesV (l : List (Int × Int)) : V := .c (.d (.sl (l.map cD)))

def greatP (rows : List (List Int)) : Bool := decide (8 < rows.length) || rows.any (fun r => decide (60 < r.length))
theorem fit_plan {n : Int} {rows : List (List Int)} (h : FitV (planV n rows)) : rows.length ≤ 140737488355328 ∧ ∀ r ∈ rows, r.length ≤ 140737488355328 := by
  have h1 : Fit _ := h (.d (.sl (rows.map rD))) (by simp [planC])
  refine ⟨by have := h1.len; simpa [lim] using this, fun r hr => ?_⟩
  have h2 := h1.sub (r := rD r) (List.mem_map_of_mem hr) (x := .sl (r.map iD)) (by simp [rD])
  have := h2.len; simpa [lim] using this

set_option maxHeartbeats 1000000 in
theorem great_pure (n : Int) (rows : List (List Int)) : Pure Try.prog 14 [planV n rows] (B (greatP rows)) := by
  refine pure_fit (X := tx) (nt := 22) (rs := [.tmp 2]) Try.func14 rfl rfl rfl rfl mo (by kernel_rfl) rfl rfl (fun hf => ?_)
  obtain ⟨hfit, _⟩ := fit_plan (hf (planV n rows) (by simp))
  simp only [go_sem, reduceIte, Nat.reduceEqDiff, Nat.reduceAdd, Nat.reduceLT, Nat.reduceLeDiff, Nat.reduceBEq, Nat.reduceMul, Nat.reduceSub, Nat.reduceDiv, Int.reduceNeg, Int.reduceLT, Int.reduceLE, Int.reduceEq, Int.reduceToNat, tt3, tt4, tt22, tt24, tt29, tt26, tt30, tt36, ti3, ti22, ti29, ti26, planV, planC]
  refine go_if (fun h => ?_) (fun h => ?_)
  · have h8 : 8 < rows.length := by simp at h; omega
    simp only [go_sem, reduceIte, Nat.reduceEqDiff, Nat.reduceAdd, Nat.reduceLT, Nat.reduceLeDiff, Nat.reduceBEq, Nat.reduceMul, Nat.reduceSub, Nat.reduceDiv, Int.reduceNeg, Int.reduceLT, Int.reduceLE, Int.reduceEq, Int.reduceToNat, tt3, tt4, tt22, tt24, tt29, tt26, tt30, tt36, ti3, ti22, ti29, ti26, greatP, h8, Bool.true_or]
  have h8 : ¬ 8 < rows.length := by simp at h; omega
  simp only [go_sem, reduceIte, Nat.reduceEqDiff, Nat.reduceAdd, Nat.reduceLT, Nat.reduceLeDiff, Nat.reduceBEq, Nat.reduceMul, Nat.reduceSub, Nat.reduceDiv, Int.reduceNeg, Int.reduceLT, Int.reduceLE, Int.reduceEq, Int.reduceToNat, tt3, tt4, tt22, tt24, tt29, tt26, tt30, tt36, ti3, ti22, ti29, ti26, greatP, h8, Bool.false_or]
  refine go_loop (fun i : Nat => planS n rows [(3, I i)]) (fun i => i ≤ rows.length ∧ ∀ j (r : List Int), j < i → rows[j]? = some r → decide (60 < r.length) = false) (fun i => rows.length - i) 0 mo (by kernel_rfl) ?_ ⟨Nat.zero_le _, by intro j r h; omega⟩ ?_
  · refine ent_weaken [] rfl rfl (Nat.zero_le _) rfl rfl ?_
    simp only [go_sem, reduceIte, Nat.reduceEqDiff, Nat.reduceAdd, Nat.reduceLT, Nat.reduceLeDiff, Nat.reduceBEq, Nat.reduceMul, Nat.reduceSub, Nat.reduceDiv, Int.reduceNeg, Int.reduceLT, Int.reduceLE, Int.reduceEq, Int.reduceToNat, tt3, tt4, tt22, tt24, tt29, tt26, tt30, tt36, ti3, ti22, ti29, ti26, planS, planC]
    exact .refl _
  rintro i ⟨hi, hall⟩
  simp only [go_sem, reduceIte, Nat.reduceEqDiff, Nat.reduceAdd, Nat.reduceLT, Nat.reduceLeDiff, Nat.reduceBEq, Nat.reduceMul, Nat.reduceSub, Nat.reduceDiv, Int.reduceNeg, Int.reduceLT, Int.reduceLE, Int.reduceEq, Int.reduceToNat, tt3, tt4, tt22, tt24, tt29, tt26, tt30, tt36, ti3, ti22, ti29, ti26, planS, planC]
  refine go_if (fun h => ?_) (fun h => ?_)
  · have hlt : i < rows.length := by simpa using h
    obtain ⟨r, hr⟩ := get_of_lt hlt
    simp only [go_sem, reduceIte, Nat.reduceEqDiff, Nat.reduceAdd, Nat.reduceLT, Nat.reduceLeDiff, Nat.reduceBEq, Nat.reduceMul, Nat.reduceSub, Nat.reduceDiv, Int.reduceNeg, Int.reduceLT, Int.reduceLE, Int.reduceEq, Int.reduceToNat, tt3, tt4, tt22, tt24, tt29, tt26, tt30, tt36, ti3, ti22, ti29, ti26, hr, rD]
    refine ⟨by simp [hlt], go_if (fun hb => ?_) (fun hb => ?_)⟩
    · have : rows.any (fun r => decide (60 < r.length)) = true := any_of_get hr (by simp at hb; simp; omega)
      simp only [go_sem, reduceIte, Nat.reduceEqDiff, Nat.reduceAdd, Nat.reduceLT, Nat.reduceLeDiff, Nat.reduceBEq, Nat.reduceMul, Nat.reduceSub, Nat.reduceDiv, Int.reduceNeg, Int.reduceLT, Int.reduceLE, Int.reduceEq, Int.reduceToNat, tt3, tt4, tt22, tt24, tt29, tt26, tt30, tt36, ti3, ti22, ti29, ti26, this]
    · simp only [go_sem, reduceIte, Nat.reduceEqDiff, Nat.reduceAdd, Nat.reduceLT, Nat.reduceLeDiff, Nat.reduceBEq, Nat.reduceMul, Nat.reduceSub, Nat.reduceDiv, Int.reduceNeg, Int.reduceLT, Int.reduceLE, Int.reduceEq, Int.reduceToNat, tt3, tt4, tt22, tt24, tt29, tt26, tt30, tt36, ti3, ti22, ti29, ti26, wr_succ hlt hfit]
      refine ⟨i + 1, ⟨hlt, upto_succ hall hr (by simp at hb; simp; omega)⟩, by omega, ?_⟩
      refine ent_weaken [] rfl rfl (Nat.zero_le _) rfl rfl ?_
      simp only [go_sem, reduceIte, Nat.reduceEqDiff, Nat.reduceAdd, Nat.reduceLT, Nat.reduceLeDiff, Nat.reduceBEq, Nat.reduceMul, Nat.reduceSub, Nat.reduceDiv, Int.reduceNeg, Int.reduceLT, Int.reduceLE, Int.reduceEq, Int.reduceToNat, tt3, tt4, tt22, tt24, tt29, tt26, tt30, tt36, ti3, ti22, ti29, ti26]
  · have hi' : i = rows.length := by simp at h; omega
    have : rows.any (fun r => decide (60 < r.length)) = false := any_none (fun j r hj hr => hall j r (by omega) hr)
    simp only [go_sem, reduceIte, Nat.reduceEqDiff, Nat.reduceAdd, Nat.reduceLT, Nat.reduceLeDiff, Nat.reduceBEq, Nat.reduceMul, Nat.reduceSub, Nat.reduceDiv, Int.reduceNeg, Int.reduceLT, Int.reduceLE, Int.reduceEq, Int.reduceToNat, tt3, tt4, tt22, tt24, tt29, tt26, tt30, tt36, ti3, ti22, ti29, ti26, this]

def isCase (n : Int) (c : Int × Int) : Bool := if c.2 = 0 then decide (c.1 = 0) else decide ((c.2 = 1 ∨ c.2 = -1) ∧ 0 ≤ c.1 ∧ c.1 < n)

set_option maxHeartbeats 1000000 in
theorem isCase_pure (n : Int) (rows : List (List Int)) (c : Int × Int) : Pure Try.prog 36 [planV n rows, caseV c] (B (isCase n c)) := by
  refine pure_fit (X := tx) (nt := 31) (rs := [.tmp 4]) Try.func36 rfl rfl rfl rfl mo (by kernel_rfl) rfl rfl (fun hf => ?_)
  simp only [go_sem, reduceIte, Nat.reduceEqDiff, Nat.reduceAdd, Nat.reduceLT, Nat.reduceLeDiff, Nat.reduceBEq, Nat.reduceMul, Nat.reduceSub, Nat.reduceDiv, Int.reduceNeg, Int.reduceLT, Int.reduceLE, Int.reduceEq, Int.reduceToNat, tt3, tt4, tt22, tt24, tt29, tt26, tt30, tt36, ti3, ti22, ti29, ti26, planV, planC, caseV, cC]
  by_cases h0 : c.2 = 0
  · simp only [go_sem, reduceIte, Nat.reduceEqDiff, Nat.reduceAdd, Nat.reduceLT, Nat.reduceLeDiff, Nat.reduceBEq, Nat.reduceMul, Nat.reduceSub, Nat.reduceDiv, Int.reduceNeg, Int.reduceLT, Int.reduceLE, Int.reduceEq, Int.reduceToNat, tt3, tt4, tt22, tt24, tt29, tt26, tt30, tt36, ti3, ti22, ti29, ti26, h0, isCase]
  by_cases h1 : c.2 = 1
  · by_cases h3 : 0 ≤ c.1 <;> simp only [go_sem, reduceIte, Nat.reduceEqDiff, Nat.reduceAdd, Nat.reduceLT, Nat.reduceLeDiff, Nat.reduceBEq, Nat.reduceMul, Nat.reduceSub, Nat.reduceDiv, Int.reduceNeg, Int.reduceLT, Int.reduceLE, Int.reduceEq, Int.reduceToNat, tt3, tt4, tt22, tt24, tt29, tt26, tt30, tt36, ti3, ti22, ti29, ti26, h0, h1, h3, isCase]
    all_goals simp [h3]
  by_cases h2 : c.2 = -1
  · by_cases h3 : 0 ≤ c.1 <;> simp only [go_sem, reduceIte, Nat.reduceEqDiff, Nat.reduceAdd, Nat.reduceLT, Nat.reduceLeDiff, Nat.reduceBEq, Nat.reduceMul, Nat.reduceSub, Nat.reduceDiv, Int.reduceNeg, Int.reduceLT, Int.reduceLE, Int.reduceEq, Int.reduceToNat, tt3, tt4, tt22, tt24, tt29, tt26, tt30, tt36, ti3, ti22, ti29, ti26, h0, h1, h2, h3, isCase]
    all_goals simp [h3]
  · simp only [go_sem, reduceIte, Nat.reduceEqDiff, Nat.reduceAdd, Nat.reduceLT, Nat.reduceLeDiff, Nat.reduceBEq, Nat.reduceMul, Nat.reduceSub, Nat.reduceDiv, Int.reduceNeg, Int.reduceLT, Int.reduceLE, Int.reduceEq, Int.reduceToNat, tt3, tt4, tt22, tt24, tt29, tt26, tt30, tt36, ti3, ti22, ti29, ti26, h0, h1, h2, isCase]
    simp [h1, h2]
end Go.Proofs.Ytklmpopomokglaa
/- IndexFunc and ContainsFunc, at any heap. -/
set_option linter.unusedSimpArgs false
set_option linter.unusedVariables false
namespace Go.Proofs.Ytklmpopomokglaa
open Go Go.Abs Go.Proofs

def idxOf {α : Type} (p : α → Bool) : List α → Int
  | [] => -1
  | x :: l => if p x then 0 else if idxOf p l < 0 then -1 else idxOf p l + 1
theorem idxOf_at {α : Type} {p : α → Bool} : ∀ {l : List α} {i : Nat} {x : α}, (∀ j y, j < i → l[j]? = some y → p y = false) → l[i]? = some x → p x = true → idxOf p l = i
  | y :: l, 0, x, _, hx, hp => by simp at hx; subst hx; simp [idxOf, hp]
  | y :: l, i + 1, x, h, hx, hp => by
    have h0 := h 0 y (by omega) rfl
    have ih := idxOf_at (l := l) (i := i) (fun j z hj hz => h (j + 1) z (by omega) (by simpa using hz)) (by simpa using hx) hp
    simp only [idxOf, h0, ih]
    simp; omega
theorem idxOf_none {α : Type} {p : α → Bool} : ∀ {l : List α}, (∀ (j : Nat) y, j < l.length → l[j]? = some y → p y = false) → idxOf p l = -1
  | [], _ => rfl
  | y :: l, h => by
    have h0 := h 0 y (by simp) rfl
    have ih := idxOf_none (l := l) (fun j z hj hz => h (j + 1) z (by simpa using hj) (by simpa using hz))
    simp [idxOf, h0, ih]
theorem idxOf_nonneg {α : Type} {p : α → Bool} : ∀ (l : List α), 0 ≤ idxOf p l ↔ l.any p = true
  | [] => by simp [idxOf]
  | y :: l => by
    have ih := idxOf_nonneg (p := p) l
    by_cases hy : p y = true
    · simp [idxOf, hy]
    · simp only [idxOf, hy, List.any_cons, Bool.false_or, if_false, Bool.false_eq_true, ← ih, eq_self]
      split <;> omega
theorem idxOf_any {α : Type} {p : α → Bool} (l : List α) : decide (0 ≤ idxOf p l) = l.any p := by
  rw [Bool.eq_iff_iff, decide_eq_true_eq, idxOf_nonneg]

set_option maxHeartbeats 1000000 in
theorem idx62 (l : List (List Int)) (g : Nat) (caps : List C) (p : (List Int) → Bool) (H : List AB) (hH : H.all (AB.low H.length) = true) (hcaps : C.lowL H.length caps = true)
    (hp : ∀ x ∈ l, ACall Try.prog g (ints x :: caps.map .c) H (one (B (p x)) H)) : ACall Try.prog 62 [.c (.d (.sl (l.map rD))), .c (.fn (.func g) caps)] H (one (I (idxOf p l)) H) := by
  refine acall_at (X := tx) (nt := 19) (rs := [.tmp 4]) Try.func62 rfl rfl rfl rfl mo (by kernel_rfl) rfl hH (fun hf => ?_)
  have hfit : l.length ≤ 140737488355328 := by
    have h : Fit _ := hf (.c (.d (.sl (l.map rD)))) (by simp)
    have := h.len; simpa [lim] using this
  simp only [go_sem, reduceIte, Nat.reduceEqDiff, Nat.reduceAdd, Nat.reduceLT, Nat.reduceLeDiff, Nat.reduceBEq, Nat.reduceMul, Nat.reduceSub, Nat.reduceDiv, Int.reduceNeg, Int.reduceLT, Int.reduceLE, Int.reduceEq, Int.reduceToNat, tt3, tt4, tt22, tt24, tt29, tt26, tt30, tt36, ti3, ti22, ti29, ti26]
  refine go_loop (fun i : Nat => { slots := [(0, .c (.d (.sl (l.map rD)))), (1, .c (.fn (.func g) caps)), (7, I l.length), (8, I i)], heap := H, marks := [] }) (fun i => i ≤ l.length ∧ ∀ j x, j < i → l[j]? = some x → p x = false) (fun i => l.length - i) 0 mo (by kernel_rfl) ?_ ⟨Nat.zero_le _, by intro j r h; omega⟩ ?_
  · refine ent_weaken [] (by simp) rfl (Nat.le_refl _) hH rfl ?_
    simp only [go_sem, reduceIte, Nat.reduceEqDiff, Nat.reduceAdd, Nat.reduceLT, Nat.reduceLeDiff, Nat.reduceBEq, Nat.reduceMul, Nat.reduceSub, Nat.reduceDiv, Int.reduceNeg, Int.reduceLT, Int.reduceLE, Int.reduceEq, Int.reduceToNat, tt3, tt4, tt22, tt24, tt29, tt26, tt30, tt36, ti3, ti22, ti29, ti26, hcaps]
    exact .refl _
  rintro i ⟨hi, hall⟩
  simp only [go_sem, reduceIte, Nat.reduceEqDiff, Nat.reduceAdd, Nat.reduceLT, Nat.reduceLeDiff, Nat.reduceBEq, Nat.reduceMul, Nat.reduceSub, Nat.reduceDiv, Int.reduceNeg, Int.reduceLT, Int.reduceLE, Int.reduceEq, Int.reduceToNat, tt3, tt4, tt22, tt24, tt29, tt26, tt30, tt36, ti3, ti22, ti29, ti26]
  refine go_if (fun h => ?_) (fun h => ?_)
  · have hlt : i < l.length := by simpa using h
    obtain ⟨x, hx⟩ := get_of_lt hlt
    simp only [go_sem, reduceIte, Nat.reduceEqDiff, Nat.reduceAdd, Nat.reduceLT, Nat.reduceLeDiff, Nat.reduceBEq, Nat.reduceMul, Nat.reduceSub, Nat.reduceDiv, Int.reduceNeg, Int.reduceLT, Int.reduceLE, Int.reduceEq, Int.reduceToNat, tt3, tt4, tt22, tt24, tt29, tt26, tt30, tt36, ti3, ti22, ti29, ti26, hx, rD, cC, rD, iD, cD]
    refine ⟨by simp [hlt], ?_⟩
    refine aops_at (hp x (List.mem_of_getElem? hx)) rfl rfl (by first | exact wk_refls _ | (repeat constructor)) ?_
    simp only [go_sem, reduceIte, Nat.reduceEqDiff, Nat.reduceAdd, Nat.reduceLT, Nat.reduceLeDiff, Nat.reduceBEq, Nat.reduceMul, Nat.reduceSub, Nat.reduceDiv, Int.reduceNeg, Int.reduceLT, Int.reduceLE, Int.reduceEq, Int.reduceToNat, tt3, tt4, tt22, tt24, tt29, tt26, tt30, tt36, ti3, ti22, ti29, ti26]
    refine go_if (fun hb => ?_) (fun hb => ?_)
    · simp only [go_sem, reduceIte, Nat.reduceEqDiff, Nat.reduceAdd, Nat.reduceLT, Nat.reduceLeDiff, Nat.reduceBEq, Nat.reduceMul, Nat.reduceSub, Nat.reduceDiv, Int.reduceNeg, Int.reduceLT, Int.reduceLE, Int.reduceEq, Int.reduceToNat, tt3, tt4, tt22, tt24, tt29, tt26, tt30, tt36, ti3, ti22, ti29, ti26]
      have e : idxOf p l = i := idxOf_at hall hx hb
      rw [e]
      exact ⟨.refl _, [], by simp⟩
    · simp only [go_sem, reduceIte, Nat.reduceEqDiff, Nat.reduceAdd, Nat.reduceLT, Nat.reduceLeDiff, Nat.reduceBEq, Nat.reduceMul, Nat.reduceSub, Nat.reduceDiv, Int.reduceNeg, Int.reduceLT, Int.reduceLE, Int.reduceEq, Int.reduceToNat, tt3, tt4, tt22, tt24, tt29, tt26, tt30, tt36, ti3, ti22, ti29, ti26, wr_succ hlt hfit]
      refine ⟨i + 1, ⟨hlt, upto_succ hall hx hb⟩, by omega, ?_⟩
      refine ent_weaken [] (by simp) rfl (Nat.le_refl _) hH rfl ?_
      simp only [go_sem, reduceIte, Nat.reduceEqDiff, Nat.reduceAdd, Nat.reduceLT, Nat.reduceLeDiff, Nat.reduceBEq, Nat.reduceMul, Nat.reduceSub, Nat.reduceDiv, Int.reduceNeg, Int.reduceLT, Int.reduceLE, Int.reduceEq, Int.reduceToNat, tt3, tt4, tt22, tt24, tt29, tt26, tt30, tt36, ti3, ti22, ti29, ti26, hcaps]
  · have hi' : i = l.length := by simp at h; omega
    have e : idxOf p l = -1 := idxOf_none (fun j x hj hx => hall j x (by omega) hx)
    simp only [go_sem, reduceIte, Nat.reduceEqDiff, Nat.reduceAdd, Nat.reduceLT, Nat.reduceLeDiff, Nat.reduceBEq, Nat.reduceMul, Nat.reduceSub, Nat.reduceDiv, Int.reduceNeg, Int.reduceLT, Int.reduceLE, Int.reduceEq, Int.reduceToNat, tt3, tt4, tt22, tt24, tt29, tt26, tt30, tt36, ti3, ti22, ti29, ti26]
    rw [e]
    exact ⟨.refl _, [], by simp⟩

set_option maxHeartbeats 1000000 in
theorem has42 (l : List (List Int)) (g : Nat) (caps : List C) (p : (List Int) → Bool) (H : List AB) (hH : H.all (AB.low H.length) = true) (hcaps : C.lowL H.length caps = true)
    (hp : ∀ x ∈ l, ACall Try.prog g (ints x :: caps.map .c) H (one (B (p x)) H)) : ACall Try.prog 42 [.c (.d (.sl (l.map rD))), .c (.fn (.func g) caps)] H (one (B (l.any p)) H) := by
  refine acall_at (X := tx) (nt := 9) (rs := [.tmp 4]) Try.func42 rfl rfl rfl rfl mo (by kernel_rfl) rfl hH (fun hf => ?_)
  simp only [go_sem, reduceIte, Nat.reduceEqDiff, Nat.reduceAdd, Nat.reduceLT, Nat.reduceLeDiff, Nat.reduceBEq, Nat.reduceMul, Nat.reduceSub, Nat.reduceDiv, Int.reduceNeg, Int.reduceLT, Int.reduceLE, Int.reduceEq, Int.reduceToNat, tt3, tt4, tt22, tt24, tt29, tt26, tt30, tt36, ti3, ti22, ti29, ti26]
  refine aops_at (idx62 l g caps p H hH hcaps hp) rfl rfl (by first | exact wk_refls _ | (repeat constructor)) ?_
  simp only [go_sem, reduceIte, Nat.reduceEqDiff, Nat.reduceAdd, Nat.reduceLT, Nat.reduceLeDiff, Nat.reduceBEq, Nat.reduceMul, Nat.reduceSub, Nat.reduceDiv, Int.reduceNeg, Int.reduceLT, Int.reduceLE, Int.reduceEq, Int.reduceToNat, tt3, tt4, tt22, tt24, tt29, tt26, tt30, tt36, ti3, ti22, ti29, ti26]
  rw [idxOf_any]
  exact ⟨.refl _, [], by simp⟩

set_option maxHeartbeats 1000000 in
theorem idx63 (l : List Int) (g : Nat) (caps : List C) (p : Int → Bool) (H : List AB) (hH : H.all (AB.low H.length) = true) (hcaps : C.lowL H.length caps = true)
    (hp : ∀ x ∈ l, ACall Try.prog g (I x :: caps.map .c) H (one (B (p x)) H)) : ACall Try.prog 63 [.c (.d (.sl (l.map iD))), .c (.fn (.func g) caps)] H (one (I (idxOf p l)) H) := by
  refine acall_at (X := tx) (nt := 19) (rs := [.tmp 4]) Try.func63 rfl rfl rfl rfl mo (by kernel_rfl) rfl hH (fun hf => ?_)
  have hfit : l.length ≤ 140737488355328 := by
    have h : Fit _ := hf (.c (.d (.sl (l.map iD)))) (by simp)
    have := h.len; simpa [lim] using this
  simp only [go_sem, reduceIte, Nat.reduceEqDiff, Nat.reduceAdd, Nat.reduceLT, Nat.reduceLeDiff, Nat.reduceBEq, Nat.reduceMul, Nat.reduceSub, Nat.reduceDiv, Int.reduceNeg, Int.reduceLT, Int.reduceLE, Int.reduceEq, Int.reduceToNat, tt3, tt4, tt22, tt24, tt29, tt26, tt30, tt36, ti3, ti22, ti29, ti26]
  refine go_loop (fun i : Nat => { slots := [(0, .c (.d (.sl (l.map iD)))), (1, .c (.fn (.func g) caps)), (7, I l.length), (8, I i)], heap := H, marks := [] }) (fun i => i ≤ l.length ∧ ∀ j x, j < i → l[j]? = some x → p x = false) (fun i => l.length - i) 0 mo (by kernel_rfl) ?_ ⟨Nat.zero_le _, by intro j r h; omega⟩ ?_
  · refine ent_weaken [] (by simp) rfl (Nat.le_refl _) hH rfl ?_
    simp only [go_sem, reduceIte, Nat.reduceEqDiff, Nat.reduceAdd, Nat.reduceLT, Nat.reduceLeDiff, Nat.reduceBEq, Nat.reduceMul, Nat.reduceSub, Nat.reduceDiv, Int.reduceNeg, Int.reduceLT, Int.reduceLE, Int.reduceEq, Int.reduceToNat, tt3, tt4, tt22, tt24, tt29, tt26, tt30, tt36, ti3, ti22, ti29, ti26, hcaps]
    exact .refl _
  rintro i ⟨hi, hall⟩
  simp only [go_sem, reduceIte, Nat.reduceEqDiff, Nat.reduceAdd, Nat.reduceLT, Nat.reduceLeDiff, Nat.reduceBEq, Nat.reduceMul, Nat.reduceSub, Nat.reduceDiv, Int.reduceNeg, Int.reduceLT, Int.reduceLE, Int.reduceEq, Int.reduceToNat, tt3, tt4, tt22, tt24, tt29, tt26, tt30, tt36, ti3, ti22, ti29, ti26]
  refine go_if (fun h => ?_) (fun h => ?_)
  · have hlt : i < l.length := by simpa using h
    obtain ⟨x, hx⟩ := get_of_lt hlt
    simp only [go_sem, reduceIte, Nat.reduceEqDiff, Nat.reduceAdd, Nat.reduceLT, Nat.reduceLeDiff, Nat.reduceBEq, Nat.reduceMul, Nat.reduceSub, Nat.reduceDiv, Int.reduceNeg, Int.reduceLT, Int.reduceLE, Int.reduceEq, Int.reduceToNat, tt3, tt4, tt22, tt24, tt29, tt26, tt30, tt36, ti3, ti22, ti29, ti26, hx, iD, cC, rD, iD, cD]
    refine ⟨by simp [hlt], ?_⟩
    refine aops_at (hp x (List.mem_of_getElem? hx)) rfl rfl (by first | exact wk_refls _ | (repeat constructor)) ?_
    simp only [go_sem, reduceIte, Nat.reduceEqDiff, Nat.reduceAdd, Nat.reduceLT, Nat.reduceLeDiff, Nat.reduceBEq, Nat.reduceMul, Nat.reduceSub, Nat.reduceDiv, Int.reduceNeg, Int.reduceLT, Int.reduceLE, Int.reduceEq, Int.reduceToNat, tt3, tt4, tt22, tt24, tt29, tt26, tt30, tt36, ti3, ti22, ti29, ti26]
    refine go_if (fun hb => ?_) (fun hb => ?_)
    · simp only [go_sem, reduceIte, Nat.reduceEqDiff, Nat.reduceAdd, Nat.reduceLT, Nat.reduceLeDiff, Nat.reduceBEq, Nat.reduceMul, Nat.reduceSub, Nat.reduceDiv, Int.reduceNeg, Int.reduceLT, Int.reduceLE, Int.reduceEq, Int.reduceToNat, tt3, tt4, tt22, tt24, tt29, tt26, tt30, tt36, ti3, ti22, ti29, ti26]
      have e : idxOf p l = i := idxOf_at hall hx hb
      rw [e]
      exact ⟨.refl _, [], by simp⟩
    · simp only [go_sem, reduceIte, Nat.reduceEqDiff, Nat.reduceAdd, Nat.reduceLT, Nat.reduceLeDiff, Nat.reduceBEq, Nat.reduceMul, Nat.reduceSub, Nat.reduceDiv, Int.reduceNeg, Int.reduceLT, Int.reduceLE, Int.reduceEq, Int.reduceToNat, tt3, tt4, tt22, tt24, tt29, tt26, tt30, tt36, ti3, ti22, ti29, ti26, wr_succ hlt hfit]
      refine ⟨i + 1, ⟨hlt, upto_succ hall hx hb⟩, by omega, ?_⟩
      refine ent_weaken [] (by simp) rfl (Nat.le_refl _) hH rfl ?_
      simp only [go_sem, reduceIte, Nat.reduceEqDiff, Nat.reduceAdd, Nat.reduceLT, Nat.reduceLeDiff, Nat.reduceBEq, Nat.reduceMul, Nat.reduceSub, Nat.reduceDiv, Int.reduceNeg, Int.reduceLT, Int.reduceLE, Int.reduceEq, Int.reduceToNat, tt3, tt4, tt22, tt24, tt29, tt26, tt30, tt36, ti3, ti22, ti29, ti26, hcaps]
  · have hi' : i = l.length := by simp at h; omega
    have e : idxOf p l = -1 := idxOf_none (fun j x hj hx => hall j x (by omega) hx)
    simp only [go_sem, reduceIte, Nat.reduceEqDiff, Nat.reduceAdd, Nat.reduceLT, Nat.reduceLeDiff, Nat.reduceBEq, Nat.reduceMul, Nat.reduceSub, Nat.reduceDiv, Int.reduceNeg, Int.reduceLT, Int.reduceLE, Int.reduceEq, Int.reduceToNat, tt3, tt4, tt22, tt24, tt29, tt26, tt30, tt36, ti3, ti22, ti29, ti26]
    rw [e]
    exact ⟨.refl _, [], by simp⟩

set_option maxHeartbeats 1000000 in
theorem has49 (l : List Int) (g : Nat) (caps : List C) (p : Int → Bool) (H : List AB) (hH : H.all (AB.low H.length) = true) (hcaps : C.lowL H.length caps = true)
    (hp : ∀ x ∈ l, ACall Try.prog g (I x :: caps.map .c) H (one (B (p x)) H)) : ACall Try.prog 49 [.c (.d (.sl (l.map iD))), .c (.fn (.func g) caps)] H (one (B (l.any p)) H) := by
  refine acall_at (X := tx) (nt := 9) (rs := [.tmp 4]) Try.func49 rfl rfl rfl rfl mo (by kernel_rfl) rfl hH (fun hf => ?_)
  simp only [go_sem, reduceIte, Nat.reduceEqDiff, Nat.reduceAdd, Nat.reduceLT, Nat.reduceLeDiff, Nat.reduceBEq, Nat.reduceMul, Nat.reduceSub, Nat.reduceDiv, Int.reduceNeg, Int.reduceLT, Int.reduceLE, Int.reduceEq, Int.reduceToNat, tt3, tt4, tt22, tt24, tt29, tt26, tt30, tt36, ti3, ti22, ti29, ti26]
  refine aops_at (idx63 l g caps p H hH hcaps hp) rfl rfl (by first | exact wk_refls _ | (repeat constructor)) ?_
  simp only [go_sem, reduceIte, Nat.reduceEqDiff, Nat.reduceAdd, Nat.reduceLT, Nat.reduceLeDiff, Nat.reduceBEq, Nat.reduceMul, Nat.reduceSub, Nat.reduceDiv, Int.reduceNeg, Int.reduceLT, Int.reduceLE, Int.reduceEq, Int.reduceToNat, tt3, tt4, tt22, tt24, tt29, tt26, tt30, tt36, ti3, ti22, ti29, ti26]
  rw [idxOf_any]
  exact ⟨.refl _, [], by simp⟩

set_option maxHeartbeats 1000000 in
theorem idx66 (l : List (Int × Int)) (g : Nat) (caps : List C) (p : (Int × Int) → Bool) (H : List AB) (hH : H.all (AB.low H.length) = true) (hcaps : C.lowL H.length caps = true)
    (hp : ∀ x ∈ l, ACall Try.prog g (caseV x :: caps.map .c) H (one (B (p x)) H)) : ACall Try.prog 66 [.c (.d (.sl (l.map cD))), .c (.fn (.func g) caps)] H (one (I (idxOf p l)) H) := by
  refine acall_at (X := tx) (nt := 19) (rs := [.tmp 4]) Try.func66 rfl rfl rfl rfl mo (by kernel_rfl) rfl hH (fun hf => ?_)
  have hfit : l.length ≤ 140737488355328 := by
    have h : Fit _ := hf (.c (.d (.sl (l.map cD)))) (by simp)
    have := h.len; simpa [lim] using this
  simp only [go_sem, reduceIte, Nat.reduceEqDiff, Nat.reduceAdd, Nat.reduceLT, Nat.reduceLeDiff, Nat.reduceBEq, Nat.reduceMul, Nat.reduceSub, Nat.reduceDiv, Int.reduceNeg, Int.reduceLT, Int.reduceLE, Int.reduceEq, Int.reduceToNat, tt3, tt4, tt22, tt24, tt29, tt26, tt30, tt36, ti3, ti22, ti29, ti26]
  refine go_loop (fun i : Nat => { slots := [(0, .c (.d (.sl (l.map cD)))), (1, .c (.fn (.func g) caps)), (7, I l.length), (8, I i)], heap := H, marks := [] }) (fun i => i ≤ l.length ∧ ∀ j x, j < i → l[j]? = some x → p x = false) (fun i => l.length - i) 0 mo (by kernel_rfl) ?_ ⟨Nat.zero_le _, by intro j r h; omega⟩ ?_
  · refine ent_weaken [] (by simp) rfl (Nat.le_refl _) hH rfl ?_
    simp only [go_sem, reduceIte, Nat.reduceEqDiff, Nat.reduceAdd, Nat.reduceLT, Nat.reduceLeDiff, Nat.reduceBEq, Nat.reduceMul, Nat.reduceSub, Nat.reduceDiv, Int.reduceNeg, Int.reduceLT, Int.reduceLE, Int.reduceEq, Int.reduceToNat, tt3, tt4, tt22, tt24, tt29, tt26, tt30, tt36, ti3, ti22, ti29, ti26, hcaps]
    exact .refl _
  rintro i ⟨hi, hall⟩
  simp only [go_sem, reduceIte, Nat.reduceEqDiff, Nat.reduceAdd, Nat.reduceLT, Nat.reduceLeDiff, Nat.reduceBEq, Nat.reduceMul, Nat.reduceSub, Nat.reduceDiv, Int.reduceNeg, Int.reduceLT, Int.reduceLE, Int.reduceEq, Int.reduceToNat, tt3, tt4, tt22, tt24, tt29, tt26, tt30, tt36, ti3, ti22, ti29, ti26]
  refine go_if (fun h => ?_) (fun h => ?_)
  · have hlt : i < l.length := by simpa using h
    obtain ⟨x, hx⟩ := get_of_lt hlt
    simp only [go_sem, reduceIte, Nat.reduceEqDiff, Nat.reduceAdd, Nat.reduceLT, Nat.reduceLeDiff, Nat.reduceBEq, Nat.reduceMul, Nat.reduceSub, Nat.reduceDiv, Int.reduceNeg, Int.reduceLT, Int.reduceLE, Int.reduceEq, Int.reduceToNat, tt3, tt4, tt22, tt24, tt29, tt26, tt30, tt36, ti3, ti22, ti29, ti26, hx, cD, cC, rD, iD, cD]
    refine ⟨by simp [hlt], ?_⟩
    refine aops_at (hp x (List.mem_of_getElem? hx)) rfl rfl (by first | exact wk_refls _ | (repeat constructor)) ?_
    simp only [go_sem, reduceIte, Nat.reduceEqDiff, Nat.reduceAdd, Nat.reduceLT, Nat.reduceLeDiff, Nat.reduceBEq, Nat.reduceMul, Nat.reduceSub, Nat.reduceDiv, Int.reduceNeg, Int.reduceLT, Int.reduceLE, Int.reduceEq, Int.reduceToNat, tt3, tt4, tt22, tt24, tt29, tt26, tt30, tt36, ti3, ti22, ti29, ti26]
    refine go_if (fun hb => ?_) (fun hb => ?_)
    · simp only [go_sem, reduceIte, Nat.reduceEqDiff, Nat.reduceAdd, Nat.reduceLT, Nat.reduceLeDiff, Nat.reduceBEq, Nat.reduceMul, Nat.reduceSub, Nat.reduceDiv, Int.reduceNeg, Int.reduceLT, Int.reduceLE, Int.reduceEq, Int.reduceToNat, tt3, tt4, tt22, tt24, tt29, tt26, tt30, tt36, ti3, ti22, ti29, ti26]
      have e : idxOf p l = i := idxOf_at hall hx hb
      rw [e]
      exact ⟨.refl _, [], by simp⟩
    · simp only [go_sem, reduceIte, Nat.reduceEqDiff, Nat.reduceAdd, Nat.reduceLT, Nat.reduceLeDiff, Nat.reduceBEq, Nat.reduceMul, Nat.reduceSub, Nat.reduceDiv, Int.reduceNeg, Int.reduceLT, Int.reduceLE, Int.reduceEq, Int.reduceToNat, tt3, tt4, tt22, tt24, tt29, tt26, tt30, tt36, ti3, ti22, ti29, ti26, wr_succ hlt hfit]
      refine ⟨i + 1, ⟨hlt, upto_succ hall hx hb⟩, by omega, ?_⟩
      refine ent_weaken [] (by simp) rfl (Nat.le_refl _) hH rfl ?_
      simp only [go_sem, reduceIte, Nat.reduceEqDiff, Nat.reduceAdd, Nat.reduceLT, Nat.reduceLeDiff, Nat.reduceBEq, Nat.reduceMul, Nat.reduceSub, Nat.reduceDiv, Int.reduceNeg, Int.reduceLT, Int.reduceLE, Int.reduceEq, Int.reduceToNat, tt3, tt4, tt22, tt24, tt29, tt26, tt30, tt36, ti3, ti22, ti29, ti26, hcaps]
  · have hi' : i = l.length := by simp at h; omega
    have e : idxOf p l = -1 := idxOf_none (fun j x hj hx => hall j x (by omega) hx)
    simp only [go_sem, reduceIte, Nat.reduceEqDiff, Nat.reduceAdd, Nat.reduceLT, Nat.reduceLeDiff, Nat.reduceBEq, Nat.reduceMul, Nat.reduceSub, Nat.reduceDiv, Int.reduceNeg, Int.reduceLT, Int.reduceLE, Int.reduceEq, Int.reduceToNat, tt3, tt4, tt22, tt24, tt29, tt26, tt30, tt36, ti3, ti22, ti29, ti26]
    rw [e]
    exact ⟨.refl _, [], by simp⟩

set_option maxHeartbeats 1000000 in
theorem has59 (l : List (Int × Int)) (g : Nat) (caps : List C) (p : (Int × Int) → Bool) (H : List AB) (hH : H.all (AB.low H.length) = true) (hcaps : C.lowL H.length caps = true)
    (hp : ∀ x ∈ l, ACall Try.prog g (caseV x :: caps.map .c) H (one (B (p x)) H)) : ACall Try.prog 59 [.c (.d (.sl (l.map cD))), .c (.fn (.func g) caps)] H (one (B (l.any p)) H) := by
  refine acall_at (X := tx) (nt := 9) (rs := [.tmp 4]) Try.func59 rfl rfl rfl rfl mo (by kernel_rfl) rfl hH (fun hf => ?_)
  simp only [go_sem, reduceIte, Nat.reduceEqDiff, Nat.reduceAdd, Nat.reduceLT, Nat.reduceLeDiff, Nat.reduceBEq, Nat.reduceMul, Nat.reduceSub, Nat.reduceDiv, Int.reduceNeg, Int.reduceLT, Int.reduceLE, Int.reduceEq, Int.reduceToNat, tt3, tt4, tt22, tt24, tt29, tt26, tt30, tt36, ti3, ti22, ti29, ti26]
  refine aops_at (idx66 l g caps p H hH hcaps hp) rfl rfl (by first | exact wk_refls _ | (repeat constructor)) ?_
  simp only [go_sem, reduceIte, Nat.reduceEqDiff, Nat.reduceAdd, Nat.reduceLT, Nat.reduceLeDiff, Nat.reduceBEq, Nat.reduceMul, Nat.reduceSub, Nat.reduceDiv, Int.reduceNeg, Int.reduceLT, Int.reduceLE, Int.reduceEq, Int.reduceToNat, tt3, tt4, tt22, tt24, tt29, tt26, tt30, tt36, ti3, ti22, ti29, ti26]
  rw [idxOf_any]
  exact ⟨.refl _, [], by simp⟩
end Go.Proofs.Ytklmpopomokglaa
