/- Units: whole numbers carried over by a whole number. -/
import Derived.Test.YtfgdbeijjbijnaaGreatDoorG17
import Derived.Test.YtfgdbeijjbijnaaGreatDoorG12
set_option linter.unusedSimpArgs false
set_option linter.unusedVariables false
set_option linter.unusedSimpArgs false
set_option linter.unusedVariables false
set_option maxRecDepth 100000
namespace Go.Proofs.YtfgdbeijjbijnaaGreatDoor
open Go Go.Abs Go.Proofs
def kp234 : List (Nat × List Nat) := [(0, [0, 1]), (1, [0, 1, 7, 8]), (2, [0, 1, 7, 8, 9]), (3, [0, 1, 5, 7, 8]), (4, [0, 1, 5, 7, 8, 16]), (5, [4]), (6, [0, 1, 7, 8]), (7, [4])]
theorem lk234 : lookK kp234 0 = some [0, 1] ∧ lookK kp234 1 = some [0, 1, 7, 8] ∧ lookK kp234 2 = some [0, 1, 7, 8, 9] ∧ lookK kp234 3 = some [0, 1, 5, 7, 8] ∧ lookK kp234 4 = some [0, 1, 5, 7, 8, 16] ∧ lookK kp234 5 = some [4] ∧ lookK kp234 6 = some [0, 1, 7, 8] ∧ lookK kp234 7 = some [4] := ⟨rfl, rfl, rfl, rfl, rfl, rfl, rfl, rfl⟩
def kp152 : List (Nat × List Nat) := [(0, [0, 1]), (1, [4])]
theorem lk152 : lookK kp152 0 = some [0, 1] ∧ lookK kp152 1 = some [4] := ⟨rfl, rfl⟩
def kp378 : List (Nat × List Nat) := [(0, [0, 1, 2]), (1, [4])]
theorem lk378 : lookK kp378 0 = some [0, 1, 2] ∧ lookK kp378 1 = some [4] := ⟨rfl, rfl⟩
def kp313 : List (Nat × List Nat) := [(0, [2, 3, 4]), (1, [6])]
theorem lk313 : lookK kp313 0 = some [2, 3, 4] ∧ lookK kp313 1 = some [6] := ⟨rfl, rfl⟩
def kp314 : List (Nat × List Nat) := [(0, [0, 1]), (1, [0, 1, 6]), (2, [0, 1]), (3, [4])]
theorem lk314 : lookK kp314 0 = some [0, 1] ∧ lookK kp314 1 = some [0, 1, 6] ∧ lookK kp314 2 = some [0, 1] ∧ lookK kp314 3 = some [4] := ⟨rfl, rfl, rfl, rfl⟩
def kp243 : List (Nat × List Nat) := [(0, [1]), (1, [2])]
theorem lk243 : lookK kp243 0 = some [1] ∧ lookK kp243 1 = some [2] := ⟨rfl, rfl⟩
def kp244 : List (Nat × List Nat) := [(0, [2, 3]), (1, [4])]
theorem lk244 : lookK kp244 0 = some [2, 3] ∧ lookK kp244 1 = some [4] := ⟨rfl, rfl⟩
def kp169 : List (Nat × List Nat) := [(0, [1]), (1, [19]), (2, [2]), (3, [2])]
theorem lk169 : lookK kp169 0 = some [1] ∧ lookK kp169 1 = some [19] ∧ lookK kp169 2 = some [2] ∧ lookK kp169 3 = some [2] := ⟨rfl, rfl, rfl, rfl⟩
def kp246 : List (Nat × List Nat) := [(0, [0, 2]), (1, [0, 2, 4]), (2, [2, 4, 11, 12, 13]), (3, [2, 4, 11, 12, 13, 14]), (4, [2, 4, 6, 11, 12, 13]), (5, [2, 4, 7, 8, 11, 12, 13]), (6, [2, 4, 7, 8, 9, 11, 12, 13]), (7, [2, 4, 11, 12, 13]), (8, [2, 4, 11, 12, 13, 39]), (9, [2, 3]), (10, [2, 4, 11, 12, 13]), (11, [2, 3])]
theorem lk246 : lookK kp246 0 = some [0, 2] ∧ lookK kp246 1 = some [0, 2, 4] ∧ lookK kp246 2 = some [2, 4, 11, 12, 13] ∧ lookK kp246 3 = some [2, 4, 11, 12, 13, 14] ∧ lookK kp246 4 = some [2, 4, 6, 11, 12, 13] ∧ lookK kp246 5 = some [2, 4, 7, 8, 11, 12, 13] ∧ lookK kp246 6 = some [2, 4, 7, 8, 9, 11, 12, 13] ∧ lookK kp246 7 = some [2, 4, 11, 12, 13] ∧ lookK kp246 8 = some [2, 4, 11, 12, 13, 39] ∧ lookK kp246 9 = some [2, 3] ∧ lookK kp246 10 = some [2, 4, 11, 12, 13] ∧ lookK kp246 11 = some [2, 3] := ⟨rfl, rfl, rfl, rfl, rfl, rfl, rfl, rfl, rfl, rfl, rfl, rfl⟩
def kp172 : List (Nat × List Nat) := [(0, [2, 3, 4]), (1, [2, 3, 4, 6, 7]), (2, [4, 6, 7, 8, 9]), (3, [4, 5])]
theorem lk172 : lookK kp172 0 = some [2, 3, 4] ∧ lookK kp172 1 = some [2, 3, 4, 6, 7] ∧ lookK kp172 2 = some [4, 6, 7, 8, 9] ∧ lookK kp172 3 = some [4, 5] := ⟨rfl, rfl, rfl, rfl⟩
def kp171 : List (Nat × List Nat) := [(0, [1]), (1, [2])]
theorem lk171 : lookK kp171 0 = some [1] ∧ lookK kp171 1 = some [2] := ⟨rfl, rfl⟩
def kp245 : List (Nat × List Nat) := [(0, [0, 1]), (1, [0, 1, 7, 8]), (2, [0, 1, 7, 8, 9]), (3, [0, 1, 5, 7, 8]), (4, [0, 1, 5, 7, 8, 16]), (5, [4]), (6, [0, 1, 7, 8]), (7, [4])]
theorem lk245 : lookK kp245 0 = some [0, 1] ∧ lookK kp245 1 = some [0, 1, 7, 8] ∧ lookK kp245 2 = some [0, 1, 7, 8, 9] ∧ lookK kp245 3 = some [0, 1, 5, 7, 8] ∧ lookK kp245 4 = some [0, 1, 5, 7, 8, 16] ∧ lookK kp245 5 = some [4] ∧ lookK kp245 6 = some [0, 1, 7, 8] ∧ lookK kp245 7 = some [4] := ⟨rfl, rfl, rfl, rfl, rfl, rfl, rfl, rfl⟩

set_option maxHeartbeats 1000000 in
theorem idx234 (l : List Int) (g : Nat) (caps : List C) (p : Int → Bool) (H : List AB) (hH : H.all (AB.low H.length) = true) (hcaps : C.lowL H.length caps = true)
    (hp : ∀ x ∈ l, ACall Tryz.prog g (I x :: caps.map .c) H (one (B (p x)) H)) : ACall Tryz.prog 234 [.c (.d (.sl (l.map iD))), .c (.fn (.func g) caps)] H (one (I (idxOf p l)) H) := by
  refine acall_at (X := tx) (nt := 19) (rs := [.tmp 4]) Tryz.func234 rfl rfl rfl rfl mo (by kernel_rfl) rfl hH (fun hf => ?_)
  have hfit : l.length ≤ 140737488355328 := by
    have h : Fit _ := hf (.c (.d (.sl (l.map iD)))) (by simp)
    have := h.len; simpa [lim] using this
  simp (config := { maxSteps := 2000000 }) only [go_sem, reduceIte, Nat.reduceEqDiff, Nat.reduceAdd, Nat.reduceLT, Nat.reduceLeDiff, Nat.reduceBEq, Nat.reduceMul, Nat.reduceSub, Nat.reduceDiv, Int.reduceNeg, Int.reduceLT, Int.reduceLE, Int.reduceEq, Int.reduceToNat, lk234, lk152, lk378, lk313, lk314, lk243, lk244, lk169, lk246, lk172, lk171, lk245]
  refine go_loop (fun i : Nat => { slots := [(0, .c (.d (.sl (l.map iD)))), (1, .c (.fn (.func g) caps)), (7, I l.length), (8, I i)], heap := H, marks := [] }) (fun i => i ≤ l.length ∧ ∀ j x, j < i → l[j]? = some x → p x = false) (fun i => l.length - i) 0 mo (by kernel_rfl) ?_ ⟨Nat.zero_le _, by intro j r h; omega⟩ ?_
  · refine ent_weaken [] (by simp) rfl (Nat.le_refl _) hH rfl ?_
    simp (config := { maxSteps := 2000000 }) only [go_sem, reduceIte, Nat.reduceEqDiff, Nat.reduceAdd, Nat.reduceLT, Nat.reduceLeDiff, Nat.reduceBEq, Nat.reduceMul, Nat.reduceSub, Nat.reduceDiv, Int.reduceNeg, Int.reduceLT, Int.reduceLE, Int.reduceEq, Int.reduceToNat, lk234, lk152, lk378, lk313, lk314, lk243, lk244, lk169, lk246, lk172, lk171, lk245, hcaps]
    all_goals first | exact .refl _ | exact ⟨.refl _, .refl _⟩ | exact ⟨.refl _, .refl _, .refl _⟩ | exact ⟨.refl _, _, rfl⟩ | exact ⟨_, rfl⟩ | exact ⟨.refl _, [], by simp⟩ | exact ⟨[], by simp⟩
  rintro i ⟨hi, hall⟩
  simp (config := { maxSteps := 2000000 }) only [go_sem, reduceIte, Nat.reduceEqDiff, Nat.reduceAdd, Nat.reduceLT, Nat.reduceLeDiff, Nat.reduceBEq, Nat.reduceMul, Nat.reduceSub, Nat.reduceDiv, Int.reduceNeg, Int.reduceLT, Int.reduceLE, Int.reduceEq, Int.reduceToNat, lk234, lk152, lk378, lk313, lk314, lk243, lk244, lk169, lk246, lk172, lk171, lk245]
  refine go_if (fun h => ?_) (fun h => ?_)
  · have hlt : i < l.length := by simpa using h
    obtain ⟨x, hx⟩ := get_of_lt hlt
    simp (config := { maxSteps := 2000000 }) only [go_sem, reduceIte, Nat.reduceEqDiff, Nat.reduceAdd, Nat.reduceLT, Nat.reduceLeDiff, Nat.reduceBEq, Nat.reduceMul, Nat.reduceSub, Nat.reduceDiv, Int.reduceNeg, Int.reduceLT, Int.reduceLE, Int.reduceEq, Int.reduceToNat, lk234, lk152, lk378, lk313, lk314, lk243, lk244, lk169, lk246, lk172, lk171, lk245, hx, iD]
    refine ⟨by simp [hlt], ?_⟩
    refine aops_at (hp x (List.mem_of_getElem? hx)) rfl rfl (by first | exact wk_refls _ | (repeat constructor)) ?_
    simp (config := { maxSteps := 2000000 }) only [go_sem, reduceIte, Nat.reduceEqDiff, Nat.reduceAdd, Nat.reduceLT, Nat.reduceLeDiff, Nat.reduceBEq, Nat.reduceMul, Nat.reduceSub, Nat.reduceDiv, Int.reduceNeg, Int.reduceLT, Int.reduceLE, Int.reduceEq, Int.reduceToNat, lk234, lk152, lk378, lk313, lk314, lk243, lk244, lk169, lk246, lk172, lk171, lk245]
    refine go_if (fun hb => ?_) (fun hb => ?_)
    · simp (config := { maxSteps := 2000000 }) only [go_sem, reduceIte, Nat.reduceEqDiff, Nat.reduceAdd, Nat.reduceLT, Nat.reduceLeDiff, Nat.reduceBEq, Nat.reduceMul, Nat.reduceSub, Nat.reduceDiv, Int.reduceNeg, Int.reduceLT, Int.reduceLE, Int.reduceEq, Int.reduceToNat, lk234, lk152, lk378, lk313, lk314, lk243, lk244, lk169, lk246, lk172, lk171, lk245]
      have e : idxOf p l = i := idxOf_at hall hx hb
      rw [e]
      all_goals first | exact .refl _ | exact ⟨.refl _, .refl _⟩ | exact ⟨.refl _, .refl _, .refl _⟩ | exact ⟨.refl _, _, rfl⟩ | exact ⟨_, rfl⟩ | exact ⟨.refl _, [], by simp⟩ | exact ⟨[], by simp⟩
    · simp (config := { maxSteps := 2000000 }) only [go_sem, reduceIte, Nat.reduceEqDiff, Nat.reduceAdd, Nat.reduceLT, Nat.reduceLeDiff, Nat.reduceBEq, Nat.reduceMul, Nat.reduceSub, Nat.reduceDiv, Int.reduceNeg, Int.reduceLT, Int.reduceLE, Int.reduceEq, Int.reduceToNat, lk234, lk152, lk378, lk313, lk314, lk243, lk244, lk169, lk246, lk172, lk171, lk245, wr_succ hlt hfit]
      refine ⟨i + 1, ⟨hlt, upto_succ hall hx hb⟩, by omega, ?_⟩
      refine ent_weaken [] (by simp) rfl (Nat.le_refl _) hH rfl ?_
      simp (config := { maxSteps := 2000000 }) only [go_sem, reduceIte, Nat.reduceEqDiff, Nat.reduceAdd, Nat.reduceLT, Nat.reduceLeDiff, Nat.reduceBEq, Nat.reduceMul, Nat.reduceSub, Nat.reduceDiv, Int.reduceNeg, Int.reduceLT, Int.reduceLE, Int.reduceEq, Int.reduceToNat, lk234, lk152, lk378, lk313, lk314, lk243, lk244, lk169, lk246, lk172, lk171, lk245, hcaps]
  · have hi' : i = l.length := by simp at h; omega
    have e : idxOf p l = -1 := idxOf_none (fun j x hj hx => hall j x (by omega) hx)
    simp (config := { maxSteps := 2000000 }) only [go_sem, reduceIte, Nat.reduceEqDiff, Nat.reduceAdd, Nat.reduceLT, Nat.reduceLeDiff, Nat.reduceBEq, Nat.reduceMul, Nat.reduceSub, Nat.reduceDiv, Int.reduceNeg, Int.reduceLT, Int.reduceLE, Int.reduceEq, Int.reduceToNat, lk234, lk152, lk378, lk313, lk314, lk243, lk244, lk169, lk246, lk172, lk171, lk245]
    rw [e]
    all_goals first | exact .refl _ | exact ⟨.refl _, .refl _⟩ | exact ⟨.refl _, .refl _, .refl _⟩ | exact ⟨.refl _, _, rfl⟩ | exact ⟨_, rfl⟩ | exact ⟨.refl _, [], by simp⟩ | exact ⟨[], by simp⟩
set_option maxHeartbeats 1000000 in
theorem has152 (l : List Int) (g : Nat) (caps : List C) (p : Int → Bool) (H : List AB) (hH : H.all (AB.low H.length) = true) (hcaps : C.lowL H.length caps = true)
    (hp : ∀ x ∈ l, ACall Tryz.prog g (I x :: caps.map .c) H (one (B (p x)) H)) : ACall Tryz.prog 152 [.c (.d (.sl (l.map iD))), .c (.fn (.func g) caps)] H (one (B (l.any p)) H) := by
  refine acall_at (X := tx) (nt := 9) (rs := [.tmp 4]) Tryz.func152 rfl rfl rfl rfl mo (by kernel_rfl) rfl hH (fun hf => ?_)
  simp (config := { maxSteps := 2000000 }) only [go_sem, reduceIte, Nat.reduceEqDiff, Nat.reduceAdd, Nat.reduceLT, Nat.reduceLeDiff, Nat.reduceBEq, Nat.reduceMul, Nat.reduceSub, Nat.reduceDiv, Int.reduceNeg, Int.reduceLT, Int.reduceLE, Int.reduceEq, Int.reduceToNat, lk234, lk152, lk378, lk313, lk314, lk243, lk244, lk169, lk246, lk172, lk171, lk245]
  refine aops_at (idx234 l g caps p H hH hcaps hp) rfl rfl (by first | exact wk_refls _ | (repeat constructor)) ?_
  simp (config := { maxSteps := 2000000 }) only [go_sem, reduceIte, Nat.reduceEqDiff, Nat.reduceAdd, Nat.reduceLT, Nat.reduceLeDiff, Nat.reduceBEq, Nat.reduceMul, Nat.reduceSub, Nat.reduceDiv, Int.reduceNeg, Int.reduceLT, Int.reduceLE, Int.reduceEq, Int.reduceToNat, lk234, lk152, lk378, lk313, lk314, lk243, lk244, lk169, lk246, lk172, lk171, lk245]
  rw [idxOf_any]
  all_goals first | exact .refl _ | exact ⟨.refl _, .refl _⟩ | exact ⟨.refl _, .refl _, .refl _⟩ | exact ⟨.refl _, _, rfl⟩ | exact ⟨_, rfl⟩ | exact ⟨.refl _, [], by simp⟩ | exact ⟨[], by simp⟩
theorem chk378 (lo hi x : Int) : ACall Tryz.prog 378 [I x, .c (.ptr 0 0), .c (.ptr 1 0)] (Hw lo hi) (one (B (decide (x < lo) || decide (hi < x))) (Hw lo hi)) := by
  refine acall_at (X := tx) (nt := 13) (rs := [.tmp 4]) Tryz.func378 rfl rfl rfl rfl mo (by kernel_rfl) rfl rfl (fun hf => ?_)
  by_cases h : x < lo
  · simp (config := { maxSteps := 2000000 }) only [go_sem, reduceIte, Nat.reduceEqDiff, Nat.reduceAdd, Nat.reduceLT, Nat.reduceLeDiff, Nat.reduceBEq, Nat.reduceMul, Nat.reduceSub, Nat.reduceDiv, Int.reduceNeg, Int.reduceLT, Int.reduceLE, Int.reduceEq, Int.reduceToNat, lk234, lk152, lk378, lk313, lk314, lk243, lk244, lk169, lk246, lk172, lk171, lk245, Hw, h]
    all_goals first | exact .refl _ | exact ⟨.refl _, .refl _⟩ | exact ⟨.refl _, .refl _, .refl _⟩ | exact ⟨.refl _, _, rfl⟩ | exact ⟨_, rfl⟩ | exact ⟨.refl _, [], by simp⟩ | exact ⟨[], by simp⟩
  · simp (config := { maxSteps := 2000000 }) only [go_sem, reduceIte, Nat.reduceEqDiff, Nat.reduceAdd, Nat.reduceLT, Nat.reduceLeDiff, Nat.reduceBEq, Nat.reduceMul, Nat.reduceSub, Nat.reduceDiv, Int.reduceNeg, Int.reduceLT, Int.reduceLE, Int.reduceEq, Int.reduceToNat, lk234, lk152, lk378, lk313, lk314, lk243, lk244, lk169, lk246, lk172, lk171, lk245, Hw, h]
    all_goals first | exact .refl _ | exact ⟨.refl _, .refl _⟩ | exact ⟨.refl _, .refl _, .refl _⟩ | exact ⟨.refl _, _, rfl⟩ | exact ⟨_, rfl⟩ | exact ⟨.refl _, [], by simp⟩ | exact ⟨[], by simp⟩
set_option maxHeartbeats 1000000 in
theorem within313 (lo hi : Int) (l : List Int) : Pure Tryz.prog 313 [I lo, I hi, ints l] (B (inR lo hi l)) := by
  refine pure_wk (X := tx) (nt := 11) (rs := [.tmp 6]) Tryz.func313 rfl rfl rfl rfl mo (by kernel_rfl) rfl rfl (fun hf => ?_)
  simp (config := { maxSteps := 2000000 }) only [go_sem, reduceIte, Nat.reduceEqDiff, Nat.reduceAdd, Nat.reduceLT, Nat.reduceLeDiff, Nat.reduceBEq, Nat.reduceMul, Nat.reduceSub, Nat.reduceDiv, Int.reduceNeg, Int.reduceLT, Int.reduceLE, Int.reduceEq, Int.reduceToNat, lk234, lk152, lk378, lk313, lk314, lk243, lk244, lk169, lk246, lk172, lk171, lk245, ints]
  refine aops_at (has152 l 378 [.ptr 0 0, .ptr 1 0] (fun n => decide (n < lo) || decide (hi < n)) (Hw lo hi) rfl rfl (fun x _ => chk378 lo hi x)) rfl rfl (by first | exact wk_refls _ | (repeat constructor)) ?_
  simp (config := { maxSteps := 2000000 }) only [go_sem, reduceIte, Nat.reduceEqDiff, Nat.reduceAdd, Nat.reduceLT, Nat.reduceLeDiff, Nat.reduceBEq, Nat.reduceMul, Nat.reduceSub, Nat.reduceDiv, Int.reduceNeg, Int.reduceLT, Int.reduceLE, Int.reduceEq, Int.reduceToNat, lk234, lk152, lk378, lk313, lk314, lk243, lk244, lk169, lk246, lk172, lk171, lk245, inR]
def nn (a : Int) : Nat → Int × Int
  | 0 => (a, 1)
  | _ => (1, 0)
set_option maxHeartbeats 1000000 in
theorem common314 (a : Int) : Pure Tryz.prog 314 [I a, I 1] (I 1) := by
  refine pure_wkE (bad := []) (kp := kp314) (X := tx) (nt := 12) (rs := [.tmp 4]) Tryz.func314 rfl rfl rfl rfl mo (by kernel_rfl) rfl rfl (fun hf => ?_)
  simp (config := { maxSteps := 2000000 }) only [go_sem, reduceIte, Nat.reduceEqDiff, Nat.reduceAdd, Nat.reduceLT, Nat.reduceLeDiff, Nat.reduceBEq, Nat.reduceMul, Nat.reduceSub, Nat.reduceDiv, Int.reduceNeg, Int.reduceLT, Int.reduceLE, Int.reduceEq, Int.reduceToNat, lk234, lk152, lk378, lk313, lk314, lk243, lk244, lk169, lk246, lk172, lk171, lk245]
  refine goE_loop (bad := []) (kp := kp314) (fun k : Nat => { slots := [(0, I (nn a k).1), (1, I (nn a k).2)], heap := [], marks := [] }) (fun k => k ≤ 1) (fun k => 1 - k) 0 mo (by kernel_rfl) ?_ (Nat.zero_le _) ?_
  · refine ent_weaken [] (by simp) rfl (Nat.le_refl _) rfl rfl ?_
    simp (config := { maxSteps := 2000000 }) only [go_sem, reduceIte, Nat.reduceEqDiff, Nat.reduceAdd, Nat.reduceLT, Nat.reduceLeDiff, Nat.reduceBEq, Nat.reduceMul, Nat.reduceSub, Nat.reduceDiv, Int.reduceNeg, Int.reduceLT, Int.reduceLE, Int.reduceEq, Int.reduceToNat, lk234, lk152, lk378, lk313, lk314, lk243, lk244, lk169, lk246, lk172, lk171, lk245, nn]
    all_goals first | exact .refl _ | exact ⟨.refl _, .refl _⟩ | exact ⟨.refl _, .refl _, .refl _⟩ | exact ⟨.refl _, _, rfl⟩ | exact ⟨_, rfl⟩ | exact ⟨.refl _, [], by simp⟩ | exact ⟨[], by simp⟩
  rintro k hk
  rcases Nat.le_one_iff_eq_zero_or_eq_one.1 hk with rfl | rfl
  · have e : Int.tmod a 1 = 0 := by simp
    simp (config := { maxSteps := 2000000 }) only [go_sem, reduceIte, Nat.reduceEqDiff, Nat.reduceAdd, Nat.reduceLT, Nat.reduceLeDiff, Nat.reduceBEq, Nat.reduceMul, Nat.reduceSub, Nat.reduceDiv, Int.reduceNeg, Int.reduceLT, Int.reduceLE, Int.reduceEq, Int.reduceToNat, lk234, lk152, lk378, lk313, lk314, lk243, lk244, lk169, lk246, lk172, lk171, lk245, nn]
    refine ⟨1, Nat.le_refl _, by decide, ?_⟩
    rw [e]
    refine ent_weaken [] (by simp) rfl (Nat.le_refl _) rfl rfl ?_
    simp (config := { maxSteps := 2000000 }) only [go_sem, reduceIte, Nat.reduceEqDiff, Nat.reduceAdd, Nat.reduceLT, Nat.reduceLeDiff, Nat.reduceBEq, Nat.reduceMul, Nat.reduceSub, Nat.reduceDiv, Int.reduceNeg, Int.reduceLT, Int.reduceLE, Int.reduceEq, Int.reduceToNat, lk234, lk152, lk378, lk313, lk314, lk243, lk244, lk169, lk246, lk172, lk171, lk245]
    all_goals first | exact .refl _ | exact ⟨.refl _, .refl _⟩ | exact ⟨.refl _, .refl _, .refl _⟩ | exact ⟨.refl _, _, rfl⟩ | exact ⟨_, rfl⟩ | exact ⟨.refl _, [], by simp⟩ | exact ⟨[], by simp⟩
  · simp (config := { maxSteps := 2000000 }) only [go_sem, reduceIte, Nat.reduceEqDiff, Nat.reduceAdd, Nat.reduceLT, Nat.reduceLeDiff, Nat.reduceBEq, Nat.reduceMul, Nat.reduceSub, Nat.reduceDiv, Int.reduceNeg, Int.reduceLT, Int.reduceLE, Int.reduceEq, Int.reduceToNat, lk234, lk152, lk378, lk313, lk314, lk243, lk244, lk169, lk246, lk172, lk171, lk245, nn]
    all_goals first | exact .refl _ | exact ⟨.refl _, .refl _⟩ | exact ⟨.refl _, .refl _, .refl _⟩ | exact ⟨.refl _, _, rfl⟩ | exact ⟨_, rfl⟩ | exact ⟨.refl _, [], by simp⟩ | exact ⟨[], by simp⟩
def rtC (a : Int) : List C := [.d (.int .i64 a), .d (.int .i64 1)]
def rtD (a : Int) : List D := [.int .i64 a, .int .i64 1]
def rtV (a : Int) : V := .agg (rtC a)
def spV (a : Int) : V := .agg (rtC a ++ rtC a)
theorem inR_one {a : Int} (h1 : 1 ≤ a) (h2 : a ≤ 1000000000) : inR 1 1000000000 [a, 1] = true := by
  simp [inR]; omega
set_option maxHeartbeats 1000000 in
theorem isFraction243 (a : Int) (h1 : 1 ≤ a) (h2 : a ≤ 1000000000) : Pure Tryz.prog 243 [rtV a] (B true) := by
  refine pure_wkE (bad := []) (kp := kp243) (X := tx) (nt := 17) (rs := [.tmp 2]) Tryz.func243 rfl rfl rfl rfl mo (by kernel_rfl) rfl rfl (fun hf => ?_)
  have e := inR_one h1 h2
  have hw := within313 1 1000000000 [a, 1]
  simp only [ints, iD, List.map_cons, List.map_nil, e] at hw
  simp (config := { maxSteps := 2000000 }) only [go_sem, reduceIte, Nat.reduceEqDiff, Nat.reduceAdd, Nat.reduceLT, Nat.reduceLeDiff, Nat.reduceBEq, Nat.reduceMul, Nat.reduceSub, Nat.reduceDiv, Int.reduceNeg, Int.reduceLT, Int.reduceLE, Int.reduceEq, Int.reduceToNat, lk234, lk152, lk378, lk313, lk314, lk243, lk244, lk169, lk246, lk172, lk171, lk245, rtV, rtC]
  refine aops_pure' (hw) rfl rfl (by first | exact wk_refls _ | (repeat constructor)) ?_
  simp (config := { maxSteps := 2000000 }) only [go_sem, reduceIte, Nat.reduceEqDiff, Nat.reduceAdd, Nat.reduceLT, Nat.reduceLeDiff, Nat.reduceBEq, Nat.reduceMul, Nat.reduceSub, Nat.reduceDiv, Int.reduceNeg, Int.reduceLT, Int.reduceLE, Int.reduceEq, Int.reduceToNat, lk234, lk152, lk378, lk313, lk314, lk243, lk244, lk169, lk246, lk172, lk171, lk245]
  refine aops_pure' (common314 a) rfl rfl (by first | exact wk_refls _ | (repeat constructor)) ?_
  simp (config := { maxSteps := 2000000 }) only [go_sem, reduceIte, Nat.reduceEqDiff, Nat.reduceAdd, Nat.reduceLT, Nat.reduceLeDiff, Nat.reduceBEq, Nat.reduceMul, Nat.reduceSub, Nat.reduceDiv, Int.reduceNeg, Int.reduceLT, Int.reduceLE, Int.reduceEq, Int.reduceToNat, lk234, lk152, lk378, lk313, lk314, lk243, lk244, lk169, lk246, lk172, lk171, lk245]
  all_goals first | exact .refl _ | exact ⟨.refl _, .refl _⟩ | exact ⟨.refl _, .refl _, .refl _⟩ | exact ⟨.refl _, _, rfl⟩ | exact ⟨_, rfl⟩ | exact ⟨.refl _, [], by simp⟩ | exact ⟨[], by simp⟩
set_option maxHeartbeats 1000000 in
theorem less244 (a : Int) : Pure Tryz.prog 244 [rtV a, rtV a] (B false) := by
  refine pure_wkE (bad := []) (kp := kp244) (X := tx) (nt := 16) (rs := [.tmp 4]) Tryz.func244 rfl rfl rfl rfl mo (by kernel_rfl) rfl rfl (fun hf => ?_)
  have e : decide (wr .i64 (a * 1) < wr .i64 (a * 1)) = false := by simp
  simp (config := { maxSteps := 2000000 }) only [go_sem, reduceIte, Nat.reduceEqDiff, Nat.reduceAdd, Nat.reduceLT, Nat.reduceLeDiff, Nat.reduceBEq, Nat.reduceMul, Nat.reduceSub, Nat.reduceDiv, Int.reduceNeg, Int.reduceLT, Int.reduceLE, Int.reduceEq, Int.reduceToNat, lk234, lk152, lk378, lk313, lk314, lk243, lk244, lk169, lk246, lk172, lk171, lk245, rtV, rtC, e]
  all_goals first | exact .refl _ | exact ⟨.refl _, .refl _⟩ | exact ⟨.refl _, .refl _, .refl _⟩ | exact ⟨.refl _, _, rfl⟩ | exact ⟨_, rfl⟩ | exact ⟨.refl _, [], by simp⟩ | exact ⟨[], by simp⟩
set_option maxHeartbeats 1000000 in
theorem checkSpan169 (a : Int) (h1 : 1 ≤ a) (h2 : a ≤ 1000000000) : Pure Tryz.prog 169 [spV a] (I 0) := by
  refine pure_wkE (bad := []) (kp := kp169) (X := tx) (nt := 20) (rs := [.tmp 2]) Tryz.func169 rfl rfl rfl rfl mo (by kernel_rfl) rfl rfl (fun hf => ?_)
  have hi := isFraction243 a h1 h2
  have hl := less244 a
  simp only [rtV, rtC] at hi hl
  simp (config := { maxSteps := 2000000 }) only [go_sem, reduceIte, Nat.reduceEqDiff, Nat.reduceAdd, Nat.reduceLT, Nat.reduceLeDiff, Nat.reduceBEq, Nat.reduceMul, Nat.reduceSub, Nat.reduceDiv, Int.reduceNeg, Int.reduceLT, Int.reduceLE, Int.reduceEq, Int.reduceToNat, lk234, lk152, lk378, lk313, lk314, lk243, lk244, lk169, lk246, lk172, lk171, lk245, spV, rtC]
  refine aops_pure' (hi) rfl rfl (by first | exact wk_refls _ | (repeat constructor)) ?_
  simp (config := { maxSteps := 2000000 }) only [go_sem, reduceIte, Nat.reduceEqDiff, Nat.reduceAdd, Nat.reduceLT, Nat.reduceLeDiff, Nat.reduceBEq, Nat.reduceMul, Nat.reduceSub, Nat.reduceDiv, Int.reduceNeg, Int.reduceLT, Int.reduceLE, Int.reduceEq, Int.reduceToNat, lk234, lk152, lk378, lk313, lk314, lk243, lk244, lk169, lk246, lk172, lk171, lk245]
  refine aops_pure' (hi) rfl rfl (by first | exact wk_refls _ | (repeat constructor)) ?_
  simp (config := { maxSteps := 2000000 }) only [go_sem, reduceIte, Nat.reduceEqDiff, Nat.reduceAdd, Nat.reduceLT, Nat.reduceLeDiff, Nat.reduceBEq, Nat.reduceMul, Nat.reduceSub, Nat.reduceDiv, Int.reduceNeg, Int.reduceLT, Int.reduceLE, Int.reduceEq, Int.reduceToNat, lk234, lk152, lk378, lk313, lk314, lk243, lk244, lk169, lk246, lk172, lk171, lk245]
  refine aops_pure' (hl) rfl rfl (by first | exact wk_refls _ | (repeat constructor)) ?_
  simp (config := { maxSteps := 2000000 }) only [go_sem, reduceIte, Nat.reduceEqDiff, Nat.reduceAdd, Nat.reduceLT, Nat.reduceLeDiff, Nat.reduceBEq, Nat.reduceMul, Nat.reduceSub, Nat.reduceDiv, Int.reduceNeg, Int.reduceLT, Int.reduceLE, Int.reduceEq, Int.reduceToNat, lk234, lk152, lk378, lk313, lk314, lk243, lk244, lk169, lk246, lk172, lk171, lk245]
  all_goals first | exact .refl _ | exact ⟨.refl _, .refl _⟩ | exact ⟨.refl _, .refl _, .refl _⟩ | exact ⟨.refl _, _, rfl⟩ | exact ⟨_, rfl⟩ | exact ⟨.refl _, [], by simp⟩ | exact ⟨[], by simp⟩
def prN (x y : Int) : Nat → Int
  | 0 => 1
  | 1 => x
  | _ => x * y
theorem div_one_wr {n : Int} (h1 : 1 ≤ n) (h2 : n ≤ 1000000000) : wr .i64 (Int.tdiv n 1) = n := by
  rw [Int.tdiv_one]; exact wr_id (by omega) (by omega)
def kz : Nat → Int
  | 0 => 0
  | 1 => 1
  | _ => 2
def prS (x y : Int) (k : Nat) : St := { slots := [(2, .c (.ptr 0 0)), (4, .c (.ptr 1 0)), (11, .c (.d (.sl [rtD x, rtD y]))), (12, I 2), (13, I (kz k))], heap := [.cells [.d (.int .i64 0), .d (.int .i64 0)], .cells (rtC (prN x y k))], marks := [] }
set_option maxHeartbeats 4000000 in
theorem product246 (x y : Int) (hx : 1 ≤ x) (hy : 1 ≤ y) (hxm : x ≤ 1000000000) (hxy : x * y ≤ 1000000000) : Pure Tryz.prog 246 [.c (.d (.sl [rtD x, rtD y]))] (.tup [rtV (x * y), B true]) := by
  refine pure_wkE (bad := []) (kp := kp246) (X := tx) (nt := 43) (rs := [.cell 2 100, .tmp 3]) Tryz.func246 rfl rfl rfl rfl mo (by kernel_rfl) rfl rfl (fun hf => ?_)
  have hxy1 : 1 ≤ x * y := Int.mul_pos hx hy
  simp (config := { maxSteps := 2000000 }) only [go_sem, reduceIte, Nat.reduceEqDiff, Nat.reduceAdd, Nat.reduceLT, Nat.reduceLeDiff, Nat.reduceBEq, Nat.reduceMul, Nat.reduceSub, Nat.reduceDiv, Int.reduceNeg, Int.reduceLT, Int.reduceLE, Int.reduceEq, Int.reduceToNat, lk234, lk152, lk378, lk313, lk314, lk243, lk244, lk169, lk246, lk172, lk171, lk245, rtD]
  refine goE_loop (bad := []) (kp := kp246) (prS x y) (fun k => k ≤ 2) (fun k => 2 - k) 0 mo (by kernel_rfl) ?_ (Nat.zero_le _) ?_
  · exact Ent.refl
  have w3 : wr .i64 (Int.tdiv (wr .i64 (1 * 1)) 1) = 1 := by decide
  have w4 : wr .i64 (0 + 1) = 1 := by decide
  have w5 : wr .i64 (1 + 1) = 2 := by decide
  rintro k hk
  have hk' : k = 0 ∨ k = 1 ∨ k = 2 := by omega
  rcases hk' with rfl | rfl | rfl
  · have w1 : wr .i64 (1 * x) = x := by rw [Int.one_mul]; exact wr_id (by omega) (by omega)
    have w2 := div_one_wr hx hxm
    have hf := isFraction243 x hx hxm
    simp only [rtV, rtC] at hf
    simp (config := { maxSteps := 2000000 }) only [go_sem, reduceIte, Nat.reduceEqDiff, Nat.reduceAdd, Nat.reduceLT, Nat.reduceLeDiff, Nat.reduceBEq, Nat.reduceMul, Nat.reduceSub, Nat.reduceDiv, Int.reduceNeg, Int.reduceLT, Int.reduceLE, Int.reduceEq, Int.reduceToNat, lk234, lk152, lk378, lk313, lk314, lk243, lk244, lk169, lk246, lk172, lk171, lk245, prS, kz, rtD, rtC, prN, w1]
    refine ⟨by decide, ?_⟩
    refine aops_pure' (common314 x) rfl rfl (by first | exact wk_refls _ | (repeat constructor)) ?_
    simp (config := { maxSteps := 2000000 }) only [go_sem, reduceIte, Nat.reduceEqDiff, Nat.reduceAdd, Nat.reduceLT, Nat.reduceLeDiff, Nat.reduceBEq, Nat.reduceMul, Nat.reduceSub, Nat.reduceDiv, Int.reduceNeg, Int.reduceLT, Int.reduceLE, Int.reduceEq, Int.reduceToNat, lk234, lk152, lk378, lk313, lk314, lk243, lk244, lk169, lk246, lk172, lk171, lk245, w2]
    refine aops_pure' (hf) rfl rfl (by first | exact wk_refls _ | (repeat constructor)) ?_
    simp (config := { maxSteps := 2000000 }) only [go_sem, reduceIte, Nat.reduceEqDiff, Nat.reduceAdd, Nat.reduceLT, Nat.reduceLeDiff, Nat.reduceBEq, Nat.reduceMul, Nat.reduceSub, Nat.reduceDiv, Int.reduceNeg, Int.reduceLT, Int.reduceLE, Int.reduceEq, Int.reduceToNat, lk234, lk152, lk378, lk313, lk314, lk243, lk244, lk169, lk246, lk172, lk171, lk245]
    refine ⟨1, by decide, by decide, ?_⟩
    rw [w3, w4]
    refine ent_weaken [.cells (rtC x)] rfl rfl (Nat.zero_le _) rfl rfl ?_
    simp (config := { maxSteps := 2000000 }) only [go_sem, reduceIte, Nat.reduceEqDiff, Nat.reduceAdd, Nat.reduceLT, Nat.reduceLeDiff, Nat.reduceBEq, Nat.reduceMul, Nat.reduceSub, Nat.reduceDiv, Int.reduceNeg, Int.reduceLT, Int.reduceLE, Int.reduceEq, Int.reduceToNat, lk234, lk152, lk378, lk313, lk314, lk243, lk244, lk169, lk246, lk172, lk171, lk245]
    all_goals first | exact .refl _ | exact ⟨.refl _, .refl _⟩ | exact ⟨.refl _, .refl _, .refl _⟩ | exact ⟨.refl _, _, rfl⟩ | exact ⟨_, rfl⟩ | exact ⟨.refl _, [], by simp⟩ | exact ⟨[], by simp⟩
  · have w1 : wr .i64 (x * y) = x * y := wr_id (by omega) (by omega)
    have w2 := div_one_wr hxy1 hxy
    have hf := isFraction243 (x * y) hxy1 hxy
    simp only [rtV, rtC] at hf
    simp (config := { maxSteps := 2000000 }) only [go_sem, reduceIte, Nat.reduceEqDiff, Nat.reduceAdd, Nat.reduceLT, Nat.reduceLeDiff, Nat.reduceBEq, Nat.reduceMul, Nat.reduceSub, Nat.reduceDiv, Int.reduceNeg, Int.reduceLT, Int.reduceLE, Int.reduceEq, Int.reduceToNat, lk234, lk152, lk378, lk313, lk314, lk243, lk244, lk169, lk246, lk172, lk171, lk245, prS, kz, rtD, rtC, prN, w1]
    refine ⟨by decide, ?_⟩
    refine aops_pure' (common314 (x * y)) rfl rfl (by first | exact wk_refls _ | (repeat constructor)) ?_
    simp (config := { maxSteps := 2000000 }) only [go_sem, reduceIte, Nat.reduceEqDiff, Nat.reduceAdd, Nat.reduceLT, Nat.reduceLeDiff, Nat.reduceBEq, Nat.reduceMul, Nat.reduceSub, Nat.reduceDiv, Int.reduceNeg, Int.reduceLT, Int.reduceLE, Int.reduceEq, Int.reduceToNat, lk234, lk152, lk378, lk313, lk314, lk243, lk244, lk169, lk246, lk172, lk171, lk245, w2]
    refine aops_pure' (hf) rfl rfl (by first | exact wk_refls _ | (repeat constructor)) ?_
    simp (config := { maxSteps := 2000000 }) only [go_sem, reduceIte, Nat.reduceEqDiff, Nat.reduceAdd, Nat.reduceLT, Nat.reduceLeDiff, Nat.reduceBEq, Nat.reduceMul, Nat.reduceSub, Nat.reduceDiv, Int.reduceNeg, Int.reduceLT, Int.reduceLE, Int.reduceEq, Int.reduceToNat, lk234, lk152, lk378, lk313, lk314, lk243, lk244, lk169, lk246, lk172, lk171, lk245]
    refine ⟨2, by decide, by decide, ?_⟩
    rw [w3, w5]
    refine ent_weaken [.cells (rtC y)] rfl rfl (Nat.zero_le _) rfl rfl ?_
    simp (config := { maxSteps := 2000000 }) only [go_sem, reduceIte, Nat.reduceEqDiff, Nat.reduceAdd, Nat.reduceLT, Nat.reduceLeDiff, Nat.reduceBEq, Nat.reduceMul, Nat.reduceSub, Nat.reduceDiv, Int.reduceNeg, Int.reduceLT, Int.reduceLE, Int.reduceEq, Int.reduceToNat, lk234, lk152, lk378, lk313, lk314, lk243, lk244, lk169, lk246, lk172, lk171, lk245]
    all_goals first | exact .refl _ | exact ⟨.refl _, .refl _⟩ | exact ⟨.refl _, .refl _, .refl _⟩ | exact ⟨.refl _, _, rfl⟩ | exact ⟨_, rfl⟩ | exact ⟨.refl _, [], by simp⟩ | exact ⟨[], by simp⟩
  · simp (config := { maxSteps := 2000000 }) only [go_sem, reduceIte, Nat.reduceEqDiff, Nat.reduceAdd, Nat.reduceLT, Nat.reduceLeDiff, Nat.reduceBEq, Nat.reduceMul, Nat.reduceSub, Nat.reduceDiv, Int.reduceNeg, Int.reduceLT, Int.reduceLE, Int.reduceEq, Int.reduceToNat, lk234, lk152, lk378, lk313, lk314, lk243, lk244, lk169, lk246, lk172, lk171, lk245, prS, kz, rtD, rtC, prN]
    exact .refl _
set_option maxHeartbeats 4000000 in
theorem carry172 (x y : Int) (hx : 1 ≤ x) (hy : 1 ≤ y) (hxm : x ≤ 1000000000) (hxy : x * y ≤ 1000000000) : Pure Tryz.prog 172 [spV x, spV y] (.tup [spV (x * y), B true]) := by
  refine pure_wkE (bad := []) (kp := kp172) (X := tx) (nt := 38) (rs := [.cell 4 281, .tmp 5]) Tryz.func172 rfl rfl rfl rfl mo (by kernel_rfl) rfl rfl (fun hf => ?_)
  have hp := product246 x y hx hy hxm hxy
  simp only [rtD, rtV, rtC] at hp
  simp (config := { maxSteps := 2000000 }) only [go_sem, reduceIte, Nat.reduceEqDiff, Nat.reduceAdd, Nat.reduceLT, Nat.reduceLeDiff, Nat.reduceBEq, Nat.reduceMul, Nat.reduceSub, Nat.reduceDiv, Int.reduceNeg, Int.reduceLT, Int.reduceLE, Int.reduceEq, Int.reduceToNat, lk234, lk152, lk378, lk313, lk314, lk243, lk244, lk169, lk246, lk172, lk171, lk245, spV, rtC]
  refine aops_pure' (hp) rfl rfl (by first | exact wk_refls _ | (repeat constructor)) ?_
  simp (config := { maxSteps := 2000000 }) only [go_sem, reduceIte, Nat.reduceEqDiff, Nat.reduceAdd, Nat.reduceLT, Nat.reduceLeDiff, Nat.reduceBEq, Nat.reduceMul, Nat.reduceSub, Nat.reduceDiv, Int.reduceNeg, Int.reduceLT, Int.reduceLE, Int.reduceEq, Int.reduceToNat, lk234, lk152, lk378, lk313, lk314, lk243, lk244, lk169, lk246, lk172, lk171, lk245]
  refine aops_pure' (hp) rfl rfl (by first | exact wk_refls _ | (repeat constructor)) ?_
  simp (config := { maxSteps := 2000000 }) only [go_sem, reduceIte, Nat.reduceEqDiff, Nat.reduceAdd, Nat.reduceLT, Nat.reduceLeDiff, Nat.reduceBEq, Nat.reduceMul, Nat.reduceSub, Nat.reduceDiv, Int.reduceNeg, Int.reduceLT, Int.reduceLE, Int.reduceEq, Int.reduceToNat, lk234, lk152, lk378, lk313, lk314, lk243, lk244, lk169, lk246, lk172, lk171, lk245, spV, rtC]
  all_goals first | exact .refl _ | exact ⟨.refl _, .refl _⟩ | exact ⟨.refl _, .refl _, .refl _⟩ | exact ⟨.refl _, _, rfl⟩ | exact ⟨_, rfl⟩ | exact ⟨.refl _, [], by simp⟩ | exact ⟨[], by simp⟩
def spD (a : Int) : List D := rtD a ++ rtD a
set_option maxHeartbeats 1000000 in
theorem bad171 (a : Int) (h1 : 1 ≤ a) (h2 : a ≤ 1000000000) : Pure Tryz.prog 171 [spV a] (B false) := by
  refine pure_wkE (bad := []) (kp := kp171) (X := tx) (nt := 6) (rs := [.tmp 2]) Tryz.func171 rfl rfl rfl rfl mo (by kernel_rfl) rfl rfl (fun hf => ?_)
  have hc := checkSpan169 a h1 h2
  simp only [spV, rtC] at hc
  simp (config := { maxSteps := 2000000 }) only [go_sem, reduceIte, Nat.reduceEqDiff, Nat.reduceAdd, Nat.reduceLT, Nat.reduceLeDiff, Nat.reduceBEq, Nat.reduceMul, Nat.reduceSub, Nat.reduceDiv, Int.reduceNeg, Int.reduceLT, Int.reduceLE, Int.reduceEq, Int.reduceToNat, lk234, lk152, lk378, lk313, lk314, lk243, lk244, lk169, lk246, lk172, lk171, lk245, spV, rtC]
  refine aops_pure' (hc) rfl rfl (by first | exact wk_refls _ | (repeat constructor)) ?_
  simp (config := { maxSteps := 2000000 }) only [go_sem, reduceIte, Nat.reduceEqDiff, Nat.reduceAdd, Nat.reduceLT, Nat.reduceLeDiff, Nat.reduceBEq, Nat.reduceMul, Nat.reduceSub, Nat.reduceDiv, Int.reduceNeg, Int.reduceLT, Int.reduceLE, Int.reduceEq, Int.reduceToNat, lk234, lk152, lk378, lk313, lk314, lk243, lk244, lk169, lk246, lk172, lk171, lk245]
  all_goals first | exact .refl _ | exact ⟨.refl _, .refl _⟩ | exact ⟨.refl _, .refl _, .refl _⟩ | exact ⟨.refl _, _, rfl⟩ | exact ⟨_, rfl⟩ | exact ⟨.refl _, [], by simp⟩ | exact ⟨[], by simp⟩
set_option maxHeartbeats 1000000 in
theorem idx245 (a : Int) (h1 : 1 ≤ a) (h2 : a ≤ 1000000000) : Pure Tryz.prog 245 [.c (.d (.sl [spD a])), .c (.fn (.func 171) [])] (I (-1)) := by
  refine pure_wkE (bad := []) (kp := kp245) (X := tx) (nt := 19) (rs := [.tmp 4]) Tryz.func245 rfl rfl rfl rfl mo (by kernel_rfl) rfl rfl (fun hf => ?_)
  have hc := bad171 a h1 h2
  simp only [spV, rtC, List.cons_append, List.nil_append] at hc
  simp (config := { maxSteps := 2000000 }) only [go_sem, reduceIte, Nat.reduceEqDiff, Nat.reduceAdd, Nat.reduceLT, Nat.reduceLeDiff, Nat.reduceBEq, Nat.reduceMul, Nat.reduceSub, Nat.reduceDiv, Int.reduceNeg, Int.reduceLT, Int.reduceLE, Int.reduceEq, Int.reduceToNat, lk234, lk152, lk378, lk313, lk314, lk243, lk244, lk169, lk246, lk172, lk171, lk245, spD, rtD]
  refine goE_loop (bad := []) (kp := kp245) (fun k : Nat => { slots := [(0, .c (.d (.sl [spD a]))), (1, .c (.fn (.func 171) [])), (7, I 1), (8, I (kz k))], heap := [], marks := [] }) (fun k => k ≤ 1) (fun k => 1 - k) 0 mo (by kernel_rfl) ?_ (Nat.zero_le _) ?_
  · exact Ent.refl
  have w4 : wr .i64 (0 + 1) = 1 := by decide
  rintro k hk
  rcases Nat.le_one_iff_eq_zero_or_eq_one.1 hk with rfl | rfl
  · simp (config := { maxSteps := 2000000 }) only [go_sem, reduceIte, Nat.reduceEqDiff, Nat.reduceAdd, Nat.reduceLT, Nat.reduceLeDiff, Nat.reduceBEq, Nat.reduceMul, Nat.reduceSub, Nat.reduceDiv, Int.reduceNeg, Int.reduceLT, Int.reduceLE, Int.reduceEq, Int.reduceToNat, lk234, lk152, lk378, lk313, lk314, lk243, lk244, lk169, lk246, lk172, lk171, lk245, kz, spD, rtD]
    refine ⟨by decide, ?_⟩
    refine aops_pure' (hc) rfl rfl (by first | exact wk_refls _ | (repeat constructor)) ?_
    simp (config := { maxSteps := 2000000 }) only [go_sem, reduceIte, Nat.reduceEqDiff, Nat.reduceAdd, Nat.reduceLT, Nat.reduceLeDiff, Nat.reduceBEq, Nat.reduceMul, Nat.reduceSub, Nat.reduceDiv, Int.reduceNeg, Int.reduceLT, Int.reduceLE, Int.reduceEq, Int.reduceToNat, lk234, lk152, lk378, lk313, lk314, lk243, lk244, lk169, lk246, lk172, lk171, lk245]
    refine ⟨1, Nat.le_refl _, by decide, ?_⟩
    rw [w4]
    exact Ent.refl
  · simp (config := { maxSteps := 2000000 }) only [go_sem, reduceIte, Nat.reduceEqDiff, Nat.reduceAdd, Nat.reduceLT, Nat.reduceLeDiff, Nat.reduceBEq, Nat.reduceMul, Nat.reduceSub, Nat.reduceDiv, Int.reduceNeg, Int.reduceLT, Int.reduceLE, Int.reduceEq, Int.reduceToNat, lk234, lk152, lk378, lk313, lk314, lk243, lk244, lk169, lk246, lk172, lk171, lk245, kz, spD, rtD]
    all_goals first | exact .refl _ | exact ⟨.refl _, .refl _⟩ | exact ⟨.refl _, .refl _, .refl _⟩ | exact ⟨.refl _, _, rfl⟩ | exact ⟨_, rfl⟩ | exact ⟨.refl _, [], by simp⟩ | exact ⟨[], by simp⟩
end Go.Proofs.YtfgdbeijjbijnaaGreatDoor

/- Units: Carry at whole numbers. -/
set_option linter.unusedSimpArgs false
set_option linter.unusedVariables false
set_option maxRecDepth 100000
namespace Go.Proofs.YtfgdbeijjbijnaaGreatDoor
open Go Go.Abs Go.Proofs
def kp170 : List (Nat × List Nat) := [(0, [0, 1]), (1, [4])]
theorem lk170 : lookK kp170 0 = some [0, 1] ∧ lookK kp170 1 = some [4] := ⟨rfl, rfl⟩
def kp90 : List (Nat × List Nat) := [(0, [1, 2]), (1, [2])]
theorem lk90 : lookK kp90 0 = some [1, 2] ∧ lookK kp90 1 = some [2] := ⟨rfl, rfl⟩
def kp89 : List (Nat × List Nat) := [(0, [1, 2, 3, 6]), (1, [1, 2, 3, 6, 8]), (2, [1, 2, 3, 6, 8, 17]), (3, [6, 7]), (4, [1, 2, 3, 6, 22]), (5, [6, 7]), (6, [1, 2, 3, 6, 27]), (7, [6, 7]), (8, [1, 2, 6, 9]), (9, [2, 6, 9, 33, 34, 35]), (10, [2, 6, 9, 33, 34, 35, 36]), (11, [2, 6, 9, 11, 33, 34, 35]), (12, [2, 6, 9, 11, 12, 33, 34, 35]), (13, [2, 6, 9, 13, 14, 33, 34, 35]), (14, [2, 6, 9, 13, 33, 34, 35, 50]), (15, [6, 7]), (16, [2, 6, 9, 33, 34, 35]), (17, [2, 6, 9, 33, 34, 35]), (18, [6, 7])]
theorem lk89 : lookK kp89 0 = some [1, 2, 3, 6] ∧ lookK kp89 1 = some [1, 2, 3, 6, 8] ∧ lookK kp89 2 = some [1, 2, 3, 6, 8, 17] ∧ lookK kp89 3 = some [6, 7] ∧ lookK kp89 4 = some [1, 2, 3, 6, 22] ∧ lookK kp89 5 = some [6, 7] ∧ lookK kp89 6 = some [1, 2, 3, 6, 27] ∧ lookK kp89 7 = some [6, 7] ∧ lookK kp89 8 = some [1, 2, 6, 9] ∧ lookK kp89 9 = some [2, 6, 9, 33, 34, 35] ∧ lookK kp89 10 = some [2, 6, 9, 33, 34, 35, 36] ∧ lookK kp89 11 = some [2, 6, 9, 11, 33, 34, 35] ∧ lookK kp89 12 = some [2, 6, 9, 11, 12, 33, 34, 35] ∧ lookK kp89 13 = some [2, 6, 9, 13, 14, 33, 34, 35] ∧ lookK kp89 14 = some [2, 6, 9, 13, 33, 34, 35, 50] ∧ lookK kp89 15 = some [6, 7] ∧ lookK kp89 16 = some [2, 6, 9, 33, 34, 35] ∧ lookK kp89 17 = some [2, 6, 9, 33, 34, 35] ∧ lookK kp89 18 = some [6, 7] := ⟨rfl, rfl, rfl, rfl, rfl, rfl, rfl, rfl, rfl, rfl, rfl, rfl, rfl, rfl, rfl, rfl, rfl, rfl, rfl⟩
def kp37 : List (Nat × List Nat) := [(0, [1, 2, 4]), (1, [4, 5])]
theorem lk37 : lookK kp37 0 = some [1, 2, 4] ∧ lookK kp37 1 = some [4, 5] := ⟨rfl, rfl⟩
def kp38 : List (Nat × List Nat) := [(0, [0, 2]), (1, [2])]
theorem lk38 : lookK kp38 0 = some [0, 2] ∧ lookK kp38 1 = some [2] := ⟨rfl, rfl⟩

set_option maxHeartbeats 1000000 in
theorem has170 (a : Int) (h1 : 1 ≤ a) (h2 : a ≤ 1000000000) : Pure Tryz.prog 170 [.c (.d (.sl [spD a])), .c (.fn (.func 171) [])] (B false) := by
  refine pure_wkE (bad := []) (kp := kp170) (X := tx) (nt := 9) (rs := [.tmp 4]) Tryz.func170 rfl rfl rfl rfl mo (by kernel_rfl) rfl rfl (fun hf => ?_)
  have hc := idx245 a h1 h2
  simp (config := { maxSteps := 2000000 }) only [go_sem, reduceIte, Nat.reduceEqDiff, Nat.reduceAdd, Nat.reduceLT, Nat.reduceLeDiff, Nat.reduceBEq, Nat.reduceMul, Nat.reduceSub, Nat.reduceDiv, Int.reduceNeg, Int.reduceLT, Int.reduceLE, Int.reduceEq, Int.reduceToNat, lk170, lk90, lk89, lk37, lk38]
  refine aops_pure' (hc) rfl rfl (by first | exact wk_refls _ | (repeat constructor)) ?_
  simp (config := { maxSteps := 2000000 }) only [go_sem, reduceIte, Nat.reduceEqDiff, Nat.reduceAdd, Nat.reduceLT, Nat.reduceLeDiff, Nat.reduceBEq, Nat.reduceMul, Nat.reduceSub, Nat.reduceDiv, Int.reduceNeg, Int.reduceLT, Int.reduceLE, Int.reduceEq, Int.reduceToNat, lk170, lk90, lk89, lk37, lk38]
  all_goals first | exact .refl _ | exact ⟨.refl _, .refl _⟩ | exact ⟨.refl _, .refl _, .refl _⟩ | exact ⟨.refl _, _, rfl⟩ | exact ⟨_, rfl⟩ | exact ⟨.refl _, [], by simp⟩ | exact ⟨[], by simp⟩
theorem same90 (a : Int) : Pure Tryz.prog 90 [spV a] (spV a) := by
  refine pure_wkE (bad := []) (kp := kp90) (X := tx) (nt := 4) (rs := [.cell 2 102]) Tryz.func90 rfl rfl rfl rfl mo (by kernel_rfl) rfl rfl (fun hf => ?_)
  simp (config := { maxSteps := 2000000 }) only [go_sem, reduceIte, Nat.reduceEqDiff, Nat.reduceAdd, Nat.reduceLT, Nat.reduceLeDiff, Nat.reduceBEq, Nat.reduceMul, Nat.reduceSub, Nat.reduceDiv, Int.reduceNeg, Int.reduceLT, Int.reduceLE, Int.reduceEq, Int.reduceToNat, lk170, lk90, lk89, lk37, lk38, spV, rtC]
  all_goals first | exact .refl _ | exact ⟨.refl _, .refl _⟩ | exact ⟨.refl _, .refl _, .refl _⟩ | exact ⟨.refl _, _, rfl⟩ | exact ⟨_, rfl⟩ | exact ⟨.refl _, [], by simp⟩ | exact ⟨[], by simp⟩
theorem whole38 (a : Int) : Pure Tryz.prog 38 [I a] (rtV a) := by
  refine pure_wkE (bad := []) (kp := kp38) (X := tx) (nt := 5) (rs := [.cell 2 100]) Tryz.func38 rfl rfl rfl rfl mo (by kernel_rfl) rfl rfl (fun hf => ?_)
  simp (config := { maxSteps := 2000000 }) only [go_sem, reduceIte, Nat.reduceEqDiff, Nat.reduceAdd, Nat.reduceLT, Nat.reduceLeDiff, Nat.reduceBEq, Nat.reduceMul, Nat.reduceSub, Nat.reduceDiv, Int.reduceNeg, Int.reduceLT, Int.reduceLE, Int.reduceEq, Int.reduceToNat, lk170, lk90, lk89, lk37, lk38, rtV, rtC]
  all_goals first | exact .refl _ | exact ⟨.refl _, .refl _⟩ | exact ⟨.refl _, .refl _, .refl _⟩ | exact ⟨.refl _, _, rfl⟩ | exact ⟨_, rfl⟩ | exact ⟨.refl _, [], by simp⟩ | exact ⟨[], by simp⟩
def cvN (x y : Int) : Nat → Int
  | 0 => x
  | _ => x * y
def cvS (x y : Int) (k : Nat) : St := { slots := [(2, .c (.fn (.func 90) [])), (6, .c (.ptr 1 0)), (9, .c (.ptr 2 0)), (33, .c (.d (.sl [spD y]))), (34, I 1), (35, I (kz k))], heap := [.cells (rtC x ++ rtC x), .cells [.d (.int .i64 0), .d (.int .i64 0), .d (.int .i64 0), .d (.int .i64 0)], .cells (rtC (cvN x y k) ++ rtC (cvN x y k))], marks := [] }
set_option maxHeartbeats 4000000 in
theorem carried89 (x y : Int) (hx : 1 ≤ x) (hy : 1 ≤ y) (hxm : x ≤ 1000000000) (hym : y ≤ 1000000000) (hxy : x * y ≤ 1000000000) : Pure Tryz.prog 89 [spV x, .c (.d (.sl [spD y])), .c (.fn (.func 90) [])] (.tup [spV (x * y), I 0]) := by
  refine pure_wkE (bad := []) (kp := kp89) (X := tx) (nt := 56) (rs := [.cell 6 102, .tmp 7]) Tryz.func89 rfl rfl rfl rfl mo (by kernel_rfl) rfl rfl (fun hf => ?_)
  have hc := checkSpan169 x hx hxm
  have hh := has170 y hy hym
  have hs := same90 y
  have hr := carry172 x y hx hy hxm hxy
  simp only [spV, rtC, spD, rtD, List.cons_append, List.nil_append] at hc hs hr hh
  simp (config := { maxSteps := 2000000 }) only [go_sem, reduceIte, Nat.reduceEqDiff, Nat.reduceAdd, Nat.reduceLT, Nat.reduceLeDiff, Nat.reduceBEq, Nat.reduceMul, Nat.reduceSub, Nat.reduceDiv, Int.reduceNeg, Int.reduceLT, Int.reduceLE, Int.reduceEq, Int.reduceToNat, lk170, lk90, lk89, lk37, lk38, spV, rtC, spD, rtD]
  refine aops_pure' (hc) rfl rfl (by first | exact wk_refls _ | (repeat constructor)) ?_
  have e8 : decide ((8 : Int) < ((1 : Nat) : Int)) = false := by decide
  simp (config := { maxSteps := 2000000 }) only [go_sem, reduceIte, Nat.reduceEqDiff, Nat.reduceAdd, Nat.reduceLT, Nat.reduceLeDiff, Nat.reduceBEq, Nat.reduceMul, Nat.reduceSub, Nat.reduceDiv, Int.reduceNeg, Int.reduceLT, Int.reduceLE, Int.reduceEq, Int.reduceToNat, lk170, lk90, lk89, lk37, lk38, e8]
  refine aops_pure' (hh) rfl rfl (by first | exact wk_refls _ | (repeat constructor)) ?_
  simp (config := { maxSteps := 2000000 }) only [go_sem, reduceIte, Nat.reduceEqDiff, Nat.reduceAdd, Nat.reduceLT, Nat.reduceLeDiff, Nat.reduceBEq, Nat.reduceMul, Nat.reduceSub, Nat.reduceDiv, Int.reduceNeg, Int.reduceLT, Int.reduceLE, Int.reduceEq, Int.reduceToNat, lk170, lk90, lk89, lk37, lk38]
  refine goE_loop (bad := []) (kp := kp89) (cvS x y) (fun k => k ≤ 1) (fun k => 1 - k) 0 mo (by kernel_rfl) ?_ (Nat.zero_le _) ?_
  · exact Ent.refl
  have w4 : wr .i64 (0 + 1) = 1 := by decide
  rintro k hk
  rcases Nat.le_one_iff_eq_zero_or_eq_one.1 hk with rfl | rfl
  · simp (config := { maxSteps := 2000000 }) only [go_sem, reduceIte, Nat.reduceEqDiff, Nat.reduceAdd, Nat.reduceLT, Nat.reduceLeDiff, Nat.reduceBEq, Nat.reduceMul, Nat.reduceSub, Nat.reduceDiv, Int.reduceNeg, Int.reduceLT, Int.reduceLE, Int.reduceEq, Int.reduceToNat, lk170, lk90, lk89, lk37, lk38, cvS, cvN, kz, spD, rtD, rtC, List.isEmpty_cons, if_false, if_true]
    refine ⟨by decide, ?_⟩
    refine aops_pure' (hs) rfl rfl (by first | exact wk_refls _ | (repeat constructor)) ?_
    simp (config := { maxSteps := 2000000 }) only [go_sem, reduceIte, Nat.reduceEqDiff, Nat.reduceAdd, Nat.reduceLT, Nat.reduceLeDiff, Nat.reduceBEq, Nat.reduceMul, Nat.reduceSub, Nat.reduceDiv, Int.reduceNeg, Int.reduceLT, Int.reduceLE, Int.reduceEq, Int.reduceToNat, lk170, lk90, lk89, lk37, lk38]
    refine aops_pure' (hr) rfl rfl (by first | exact wk_refls _ | (repeat constructor)) ?_
    simp (config := { maxSteps := 2000000 }) only [go_sem, reduceIte, Nat.reduceEqDiff, Nat.reduceAdd, Nat.reduceLT, Nat.reduceLeDiff, Nat.reduceBEq, Nat.reduceMul, Nat.reduceSub, Nat.reduceDiv, Int.reduceNeg, Int.reduceLT, Int.reduceLE, Int.reduceEq, Int.reduceToNat, lk170, lk90, lk89, lk37, lk38]
    refine ⟨1, Nat.le_refl _, by decide, ?_⟩
    rw [w4]
    refine ent_weaken [.cells (rtC y ++ rtC y), .cells (rtC (x * y) ++ rtC (x * y))] rfl rfl (Nat.zero_le _) rfl rfl ?_
    simp (config := { maxSteps := 2000000 }) only [go_sem, reduceIte, Nat.reduceEqDiff, Nat.reduceAdd, Nat.reduceLT, Nat.reduceLeDiff, Nat.reduceBEq, Nat.reduceMul, Nat.reduceSub, Nat.reduceDiv, Int.reduceNeg, Int.reduceLT, Int.reduceLE, Int.reduceEq, Int.reduceToNat, lk170, lk90, lk89, lk37, lk38]
    all_goals first | exact .refl _ | exact ⟨.refl _, .refl _⟩ | exact ⟨.refl _, .refl _, .refl _⟩ | exact ⟨.refl _, _, rfl⟩ | exact ⟨_, rfl⟩ | exact ⟨.refl _, [], by simp⟩ | exact ⟨[], by simp⟩
  · simp (config := { maxSteps := 2000000 }) only [go_sem, reduceIte, Nat.reduceEqDiff, Nat.reduceAdd, Nat.reduceLT, Nat.reduceLeDiff, Nat.reduceBEq, Nat.reduceMul, Nat.reduceSub, Nat.reduceDiv, Int.reduceNeg, Int.reduceLT, Int.reduceLE, Int.reduceEq, Int.reduceToNat, lk170, lk90, lk89, lk37, lk38, cvS, cvN, kz, spD, rtD, rtC]
    all_goals first | exact .refl _ | exact ⟨.refl _, .refl _⟩ | exact ⟨.refl _, .refl _, .refl _⟩ | exact ⟨.refl _, _, rfl⟩ | exact ⟨_, rfl⟩ | exact ⟨.refl _, [], by simp⟩ | exact ⟨[], by simp⟩
set_option maxHeartbeats 4000000 in
theorem carry37 (x y : Int) (hx : 1 ≤ x) (hy : 1 ≤ y) (hxm : x ≤ 1000000000) (hym : y ≤ 1000000000) (hxy : x * y ≤ 1000000000) : Pure Tryz.prog 37 [spV x, .c (.d (.sl [spD y]))] (.tup [spV (x * y), I 0]) := by
  refine pure_wkE (bad := []) (kp := kp37) (X := tx) (nt := 11) (rs := [.cell 4 102, .tmp 5]) Tryz.func37 rfl rfl rfl rfl mo (by kernel_rfl) rfl rfl (fun hf => ?_)
  have hc := carried89 x y hx hy hxm hym hxy
  simp only [spV, rtC, spD, rtD, List.cons_append, List.nil_append] at hc
  simp (config := { maxSteps := 2000000 }) only [go_sem, reduceIte, Nat.reduceEqDiff, Nat.reduceAdd, Nat.reduceLT, Nat.reduceLeDiff, Nat.reduceBEq, Nat.reduceMul, Nat.reduceSub, Nat.reduceDiv, Int.reduceNeg, Int.reduceLT, Int.reduceLE, Int.reduceEq, Int.reduceToNat, lk170, lk90, lk89, lk37, lk38, spV, rtC, spD, rtD]
  refine aops_pure' (hc) rfl rfl (by first | exact wk_refls _ | (repeat constructor)) ?_
  simp (config := { maxSteps := 2000000 }) only [go_sem, reduceIte, Nat.reduceEqDiff, Nat.reduceAdd, Nat.reduceLT, Nat.reduceLeDiff, Nat.reduceBEq, Nat.reduceMul, Nat.reduceSub, Nat.reduceDiv, Int.reduceNeg, Int.reduceLT, Int.reduceLE, Int.reduceEq, Int.reduceToNat, lk170, lk90, lk89, lk37, lk38, spV, rtC]
  all_goals first | exact .refl _ | exact ⟨.refl _, .refl _⟩ | exact ⟨.refl _, .refl _, .refl _⟩ | exact ⟨.refl _, _, rfl⟩ | exact ⟨_, rfl⟩ | exact ⟨.refl _, [], by simp⟩ | exact ⟨[], by simp⟩
end Go.Proofs.YtfgdbeijjbijnaaGreatDoor

