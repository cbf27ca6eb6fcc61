/- The reference's small functions: great, IsCase, Seen, All. -/
import Derived.Test.YtklmpopomokglaaU1
set_option linter.unusedSimpArgs false
set_option linter.unusedVariables false
namespace Go.Proofs.Ytklmpopomokglaa
open Go Go.Abs Go.Proofs

def cC (c : Int × Int) : List C := [.d (.int .i64 c.1), .d (.int .i64 c.2)]
def caseV (c : Int × Int) : V := .agg (cC c)
def cD (c : Int × Int) : List D := [.int .i64 c.1, .int .i64 c.2]
def casesV (l : List (Int × Int)) : V := .c (.d (.sl (l.map cD)))

def greatP (rows : List (List Int)) : Bool := decide (8 < rows.length) || rows.any (fun r => decide (60 < r.length))
theorem fit_plan {n : Int} {rows : List (List Int)} (h : FitV (planV n rows)) : rows.length ≤ 140737488355328 ∧ ∀ r ∈ rows, r.length ≤ 140737488355328 := by
  have h1 : Fit _ := h (.d (.sl (rows.map rD))) (by simp [planC])
  refine ⟨by have := h1.len; simpa [lim] using this, fun r hr => ?_⟩
  have h2 := h1.sub (r := rD r) (List.mem_map_of_mem hr) (x := .sl (r.map iD)) (by simp [rD])
  have := h2.len; simpa [lim] using this

set_option maxHeartbeats 1000000 in
theorem great_pure (n : Int) (rows : List (List Int)) : Pure Try.prog 14 [planV n rows] (B (greatP rows)) := by
  refine pure_fit (X := tx) (nt := 22) (rs := [.tmp 2]) Try.func14 rfl rfl rfl rfl mo (by kernel_rfl) rfl rfl (fun hf => ?_)
  obtain ⟨hfit, _⟩ := fit_plan (hf (planV n rows) (by simp))
  simp only [go_sem, reduceIte, Nat.reduceEqDiff, Nat.reduceAdd, Nat.reduceLT, Nat.reduceLeDiff, Nat.reduceBEq, Nat.reduceMul, Nat.reduceSub, Int.reduceNeg, Int.reduceLT, Int.reduceLE, Int.reduceEq, Int.reduceToNat, tt3, tt4, tt22, tt24, tt29, tt26, tt30, tt36, ti3, ti22, ti29, ti26, planV, planC]
  refine go_if (fun h => ?_) (fun h => ?_)
  · have h8 : 8 < rows.length := by simp at h; omega
    simp only [go_sem, reduceIte, Nat.reduceEqDiff, Nat.reduceAdd, Nat.reduceLT, Nat.reduceLeDiff, Nat.reduceBEq, Nat.reduceMul, Nat.reduceSub, Int.reduceNeg, Int.reduceLT, Int.reduceLE, Int.reduceEq, Int.reduceToNat, tt3, tt4, tt22, tt24, tt29, tt26, tt30, tt36, ti3, ti22, ti29, ti26, greatP, h8, Bool.true_or]
  have h8 : ¬ 8 < rows.length := by simp at h; omega
  simp only [go_sem, reduceIte, Nat.reduceEqDiff, Nat.reduceAdd, Nat.reduceLT, Nat.reduceLeDiff, Nat.reduceBEq, Nat.reduceMul, Nat.reduceSub, Int.reduceNeg, Int.reduceLT, Int.reduceLE, Int.reduceEq, Int.reduceToNat, tt3, tt4, tt22, tt24, tt29, tt26, tt30, tt36, ti3, ti22, ti29, ti26, greatP, h8, Bool.false_or]
  refine go_loop (fun i : Nat => planS n rows [(3, I i)]) (fun i => i ≤ rows.length ∧ ∀ j (r : List Int), j < i → rows[j]? = some r → decide (60 < r.length) = false) (fun i => rows.length - i) 0 mo (by kernel_rfl) ?_ ⟨Nat.zero_le _, by intro j r h; omega⟩ ?_
  · refine ent_weaken [] rfl rfl (Nat.zero_le _) rfl rfl ?_
    simp only [go_sem, reduceIte, Nat.reduceEqDiff, Nat.reduceAdd, Nat.reduceLT, Nat.reduceLeDiff, Nat.reduceBEq, Nat.reduceMul, Nat.reduceSub, Int.reduceNeg, Int.reduceLT, Int.reduceLE, Int.reduceEq, Int.reduceToNat, tt3, tt4, tt22, tt24, tt29, tt26, tt30, tt36, ti3, ti22, ti29, ti26, planS, planC]
    exact .refl _
  rintro i ⟨hi, hall⟩
  simp only [go_sem, reduceIte, Nat.reduceEqDiff, Nat.reduceAdd, Nat.reduceLT, Nat.reduceLeDiff, Nat.reduceBEq, Nat.reduceMul, Nat.reduceSub, Int.reduceNeg, Int.reduceLT, Int.reduceLE, Int.reduceEq, Int.reduceToNat, tt3, tt4, tt22, tt24, tt29, tt26, tt30, tt36, ti3, ti22, ti29, ti26, planS, planC]
  refine go_if (fun h => ?_) (fun h => ?_)
  · have hlt : i < rows.length := by simpa using h
    obtain ⟨r, hr⟩ := get_of_lt hlt
    simp only [go_sem, reduceIte, Nat.reduceEqDiff, Nat.reduceAdd, Nat.reduceLT, Nat.reduceLeDiff, Nat.reduceBEq, Nat.reduceMul, Nat.reduceSub, Int.reduceNeg, Int.reduceLT, Int.reduceLE, Int.reduceEq, Int.reduceToNat, tt3, tt4, tt22, tt24, tt29, tt26, tt30, tt36, ti3, ti22, ti29, ti26, hr, rD]
    refine ⟨by simp [hlt], go_if (fun hb => ?_) (fun hb => ?_)⟩
    · have : rows.any (fun r => decide (60 < r.length)) = true := any_of_get hr (by simp at hb; simp; omega)
      simp only [go_sem, reduceIte, Nat.reduceEqDiff, Nat.reduceAdd, Nat.reduceLT, Nat.reduceLeDiff, Nat.reduceBEq, Nat.reduceMul, Nat.reduceSub, Int.reduceNeg, Int.reduceLT, Int.reduceLE, Int.reduceEq, Int.reduceToNat, tt3, tt4, tt22, tt24, tt29, tt26, tt30, tt36, ti3, ti22, ti29, ti26, this]
    · simp only [go_sem, reduceIte, Nat.reduceEqDiff, Nat.reduceAdd, Nat.reduceLT, Nat.reduceLeDiff, Nat.reduceBEq, Nat.reduceMul, Nat.reduceSub, Int.reduceNeg, Int.reduceLT, Int.reduceLE, Int.reduceEq, Int.reduceToNat, tt3, tt4, tt22, tt24, tt29, tt26, tt30, tt36, ti3, ti22, ti29, ti26, wr_succ hlt hfit]
      refine ⟨i + 1, ⟨hlt, upto_succ hall hr (by simp at hb; simp; omega)⟩, by omega, ?_⟩
      refine ent_weaken [] rfl rfl (Nat.zero_le _) rfl rfl ?_
      simp only [go_sem, reduceIte, Nat.reduceEqDiff, Nat.reduceAdd, Nat.reduceLT, Nat.reduceLeDiff, Nat.reduceBEq, Nat.reduceMul, Nat.reduceSub, Int.reduceNeg, Int.reduceLT, Int.reduceLE, Int.reduceEq, Int.reduceToNat, tt3, tt4, tt22, tt24, tt29, tt26, tt30, tt36, ti3, ti22, ti29, ti26]
  · have hi' : i = rows.length := by simp at h; omega
    have : rows.any (fun r => decide (60 < r.length)) = false := any_none (fun j r hj hr => hall j r (by omega) hr)
    simp only [go_sem, reduceIte, Nat.reduceEqDiff, Nat.reduceAdd, Nat.reduceLT, Nat.reduceLeDiff, Nat.reduceBEq, Nat.reduceMul, Nat.reduceSub, Int.reduceNeg, Int.reduceLT, Int.reduceLE, Int.reduceEq, Int.reduceToNat, tt3, tt4, tt22, tt24, tt29, tt26, tt30, tt36, ti3, ti22, ti29, ti26, this]

def isCase (n : Int) (c : Int × Int) : Bool := if c.2 = 0 then decide (c.1 = 0) else decide ((c.2 = 1 ∨ c.2 = -1) ∧ 0 ≤ c.1 ∧ c.1 < n)

set_option maxHeartbeats 1000000 in
theorem isCase_pure (n : Int) (rows : List (List Int)) (c : Int × Int) : Pure Try.prog 36 [planV n rows, caseV c] (B (isCase n c)) := by
  refine pure_fit (X := tx) (nt := 31) (rs := [.tmp 4]) Try.func36 rfl rfl rfl rfl mo (by kernel_rfl) rfl rfl (fun hf => ?_)
  simp only [go_sem, reduceIte, Nat.reduceEqDiff, Nat.reduceAdd, Nat.reduceLT, Nat.reduceLeDiff, Nat.reduceBEq, Nat.reduceMul, Nat.reduceSub, Int.reduceNeg, Int.reduceLT, Int.reduceLE, Int.reduceEq, Int.reduceToNat, tt3, tt4, tt22, tt24, tt29, tt26, tt30, tt36, ti3, ti22, ti29, ti26, planV, planC, caseV, cC]
  by_cases h0 : c.2 = 0
  · simp only [go_sem, reduceIte, Nat.reduceEqDiff, Nat.reduceAdd, Nat.reduceLT, Nat.reduceLeDiff, Nat.reduceBEq, Nat.reduceMul, Nat.reduceSub, Int.reduceNeg, Int.reduceLT, Int.reduceLE, Int.reduceEq, Int.reduceToNat, tt3, tt4, tt22, tt24, tt29, tt26, tt30, tt36, ti3, ti22, ti29, ti26, h0, isCase]
  by_cases h1 : c.2 = 1
  · by_cases h3 : 0 ≤ c.1 <;> simp only [go_sem, reduceIte, Nat.reduceEqDiff, Nat.reduceAdd, Nat.reduceLT, Nat.reduceLeDiff, Nat.reduceBEq, Nat.reduceMul, Nat.reduceSub, Int.reduceNeg, Int.reduceLT, Int.reduceLE, Int.reduceEq, Int.reduceToNat, tt3, tt4, tt22, tt24, tt29, tt26, tt30, tt36, ti3, ti22, ti29, ti26, h0, h1, h3, isCase]
    all_goals simp [h3]
  by_cases h2 : c.2 = -1
  · by_cases h3 : 0 ≤ c.1 <;> simp only [go_sem, reduceIte, Nat.reduceEqDiff, Nat.reduceAdd, Nat.reduceLT, Nat.reduceLeDiff, Nat.reduceBEq, Nat.reduceMul, Nat.reduceSub, Int.reduceNeg, Int.reduceLT, Int.reduceLE, Int.reduceEq, Int.reduceToNat, tt3, tt4, tt22, tt24, tt29, tt26, tt30, tt36, ti3, ti22, ti29, ti26, h0, h1, h2, h3, isCase]
    all_goals simp [h3]
  · simp only [go_sem, reduceIte, Nat.reduceEqDiff, Nat.reduceAdd, Nat.reduceLT, Nat.reduceLeDiff, Nat.reduceBEq, Nat.reduceMul, Nat.reduceSub, Int.reduceNeg, Int.reduceLT, Int.reduceLE, Int.reduceEq, Int.reduceToNat, tt3, tt4, tt22, tt24, tt29, tt26, tt30, tt36, ti3, ti22, ti29, ti26, h0, h1, h2, isCase]
    simp [h1, h2]
end Go.Proofs.Ytklmpopomokglaa
