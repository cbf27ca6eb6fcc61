/- Cheapest, Prices. -/
import Derived.Test.YtfgdbeijjbijnaaGreatDoorG19
import Derived.Test.YtfgdbeijjbijnaaGreatDoorG18
import Derived.Test.YtfgdbeijjbijnaaGreatDoorG17
import Derived.Test.YtfgdbeijjbijnaaGreatDoorG12
set_option linter.unusedSimpArgs false
set_option linter.unusedVariables false
set_option linter.unusedSimpArgs false
set_option linter.unusedVariables false
set_option maxRecDepth 100000
namespace Go.Proofs.YtfgdbeijjbijnaaGreatDoor
open Go Go.Abs Go.Proofs
def kp78 : List (Nat × List Nat) := [(0, [0]), (1, [0, 3]), (2, [0, 3, 10, 11]), (3, [0, 3, 10, 11, 12]), (4, [0, 3, 4, 10, 11]), (5, [0, 3, 4, 10, 11, 20]), (6, [0, 3, 10, 11]), (7, [0, 3, 10, 11]), (8, [2])]
theorem lk78 : lookK kp78 0 = some [0] ∧ lookK kp78 1 = some [0, 3] ∧ lookK kp78 2 = some [0, 3, 10, 11] ∧ lookK kp78 3 = some [0, 3, 10, 11, 12] ∧ lookK kp78 4 = some [0, 3, 4, 10, 11] ∧ lookK kp78 5 = some [0, 3, 4, 10, 11, 20] ∧ lookK kp78 6 = some [0, 3, 10, 11] ∧ lookK kp78 7 = some [0, 3, 10, 11] ∧ lookK kp78 8 = some [2] := ⟨rfl, rfl, rfl, rfl, rfl, rfl, rfl, rfl, rfl⟩

/-- The posts that stand. -/
def choP (st : Nat → Int) : Nat → List Int
  | 0 => []
  | m + 1 => choP st m ++ (if st m = 1 then [(m : Int)] else [])
theorem choP_len (st : Nat → Int) : ∀ m, (choP st m).length ≤ m
  | 0 => by simp [choP]
  | m + 1 => by have := choP_len st m; simp only [choP, List.length_append]; split <;> simp <;> omega
set_option maxHeartbeats 2000000 in
theorem choice55 (r : Rd) (w : W) (hr : OkR r) : ACall Tryz.prog 78 [.c (.ptr 3 0)] (HS r w) (one (ints (choP w.1 r.ps.length)) (HS r w)) := by
  refine acall_atE (bad := []) (kp := kp78) (X := tx) (nt := 27) (rs := [.tmp 2]) Tryz.func78 rfl rfl rfl rfl mo (by kernel_rfl) rfl (HS_low _ _ _) (fun hf => ?_)
  have hlen := hr.len
  have nl := netC_len r w.1 w.2
  have n3 := nC3 r w.1 w.2
  simp (config := { maxSteps := 2000000 }) only [go_sem, reduceIte, Nat.reduceEqDiff, Nat.reduceAdd, Nat.reduceLT, Nat.reduceLeDiff, Nat.reduceBEq, Nat.reduceMul, Nat.reduceSub, Nat.reduceDiv, Int.reduceNeg, Int.reduceLT, Int.reduceLE, Int.reduceEq, Int.reduceToNat, lk78, HS, nl, n3]
  have hlow : ∀ n, (HS r w ++ [AB.grow n 1]).all (AB.low (HS r w ++ [AB.grow n 1]).length) = true := fun n => by rw [List.all_append, HS_low]; rfl
  refine goE_loop (bad := []) (kp := kp78) (fun i : Nat => { slots := [(0, .c (.ptr 3 0)), (3, .c (.own 4 ((choP w.1 i).map iD))), (10, I r.ps.length), (11, I i)], heap := HS r w ++ [.grow (choP w.1 i).length 1], marks := [] }) (fun i => i ≤ r.ps.length) (fun i => r.ps.length - i) 0 mo (by kernel_rfl) ?_ (Nat.zero_le _) ?_
  · refine Ent.trans (ent_own 3 1 rfl) ?_
    refine ent_weaken [] (by simp only [HS, List.append_nil, choP]; rfl) rfl (show 4 ≤ 5 by decide) (hlow _) rfl ?_
    simp (config := { maxSteps := 2000000 }) only [go_sem, reduceIte, Nat.reduceEqDiff, Nat.reduceAdd, Nat.reduceLT, Nat.reduceLeDiff, Nat.reduceBEq, Nat.reduceMul, Nat.reduceSub, Nat.reduceDiv, Int.reduceNeg, Int.reduceLT, Int.reduceLE, Int.reduceEq, Int.reduceToNat, lk78, HS, choP, postsV, List.map_nil]
    all_goals first | exact .refl _ | exact ⟨.refl _, .refl _⟩ | exact ⟨.refl _, .refl _, .refl _⟩ | exact ⟨.refl _, _, rfl⟩ | exact ⟨_, rfl⟩ | exact ⟨.refl _, [], by simp⟩ | exact ⟨[], by simp⟩
  rintro i hi
  simp (config := { maxSteps := 2000000 }) only [go_sem, reduceIte, Nat.reduceEqDiff, Nat.reduceAdd, Nat.reduceLT, Nat.reduceLeDiff, Nat.reduceBEq, Nat.reduceMul, Nat.reduceSub, Nat.reduceDiv, Int.reduceNeg, Int.reduceLT, Int.reduceLE, Int.reduceEq, Int.reduceToNat, lk78, HS, postsV]
  refine goE_if (fun h => ?_) (fun h => ?_)
  · have hlt : i < r.ps.length := by simpa using h
    have ng := nCst r w.1 w.2 (i := i) (by omega)
    have c2 : (decide ((0 : Int) ≤ (i : Int)) && decide ((i : Int) < ((24 : Nat) : Int))) = true := by simp; omega
    have c3 : decide (4 + i + 1 ≤ 68) = true := decide_eq_true (by omega)
    have c4 : decide (4 + i ≤ 67) = true := decide_eq_true (by omega)
    have hcl := choP_len w.1 i
    by_cases h1 : w.1 i = 1
    · have hs : choP w.1 (i + 1) = choP w.1 i ++ [(i : Int)] := by simp [choP, h1]
      simp (config := { maxSteps := 2000000 }) only [go_sem, reduceIte, Nat.reduceEqDiff, Nat.reduceAdd, Nat.reduceLT, Nat.reduceLeDiff, Nat.reduceBEq, Nat.reduceMul, Nat.reduceSub, Nat.reduceDiv, Int.reduceNeg, Int.reduceLT, Int.reduceLE, Int.reduceEq, Int.reduceToNat, lk78, nl, ng, c2, c3, c4, h1, Nat.mul_one, iD, bound]
      refine ⟨by simp; omega, ?_⟩
      simp (config := { maxSteps := 2000000 }) only [go_sem, reduceIte, Nat.reduceEqDiff, Nat.reduceAdd, Nat.reduceLT, Nat.reduceLeDiff, Nat.reduceBEq, Nat.reduceMul, Nat.reduceSub, Nat.reduceDiv, Int.reduceNeg, Int.reduceLT, Int.reduceLE, Int.reduceEq, Int.reduceToNat, lk78, wr_succ hlt (show r.ps.length ≤ 140737488355328 by omega)]
      refine ⟨i + 1, hlt, by omega, ?_⟩
      refine ent_weaken [] (by simp only [HS, hs, List.append_nil, List.length_append]; rfl) rfl (show 4 ≤ 5 by decide) (hlow _) rfl ?_
      simp (config := { maxSteps := 2000000 }) only [go_sem, reduceIte, Nat.reduceEqDiff, Nat.reduceAdd, Nat.reduceLT, Nat.reduceLeDiff, Nat.reduceBEq, Nat.reduceMul, Nat.reduceSub, Nat.reduceDiv, Int.reduceNeg, Int.reduceLT, Int.reduceLE, Int.reduceEq, Int.reduceToNat, lk78, HS, hs, List.map_append, iD]
      all_goals first | exact .refl _ | exact ⟨.refl _, .refl _⟩ | exact ⟨.refl _, .refl _, .refl _⟩ | exact ⟨.refl _, _, rfl⟩ | exact ⟨_, rfl⟩ | exact ⟨.refl _, [], by simp⟩ | exact ⟨[], by simp⟩
    · have hs : choP w.1 (i + 1) = choP w.1 i := by simp [choP, h1]
      simp (config := { maxSteps := 2000000 }) only [go_sem, reduceIte, Nat.reduceEqDiff, Nat.reduceAdd, Nat.reduceLT, Nat.reduceLeDiff, Nat.reduceBEq, Nat.reduceMul, Nat.reduceSub, Nat.reduceDiv, Int.reduceNeg, Int.reduceLT, Int.reduceLE, Int.reduceEq, Int.reduceToNat, lk78, nl, ng, c2, c3, c4, h1, Nat.mul_one, wr_succ hlt (show r.ps.length ≤ 140737488355328 by omega)]
      refine ⟨i + 1, hlt, by omega, ?_⟩
      refine ent_weaken [] (by simp only [HS, hs, List.append_nil, List.cons_append, List.nil_append]) rfl (show 4 ≤ 5 by decide) (hlow _) rfl ?_
      simp (config := { maxSteps := 2000000 }) only [go_sem, reduceIte, Nat.reduceEqDiff, Nat.reduceAdd, Nat.reduceLT, Nat.reduceLeDiff, Nat.reduceBEq, Nat.reduceMul, Nat.reduceSub, Nat.reduceDiv, Int.reduceNeg, Int.reduceLT, Int.reduceLE, Int.reduceEq, Int.reduceToNat, lk78, HS, hs]
  · have hi' : i = r.ps.length := by simp at h; omega
    subst hi'
    simp (config := { maxSteps := 2000000 }) only [go_sem, reduceIte, Nat.reduceEqDiff, Nat.reduceAdd, Nat.reduceLT, Nat.reduceLeDiff, Nat.reduceBEq, Nat.reduceMul, Nat.reduceSub, Nat.reduceDiv, Int.reduceNeg, Int.reduceLT, Int.reduceLE, Int.reduceEq, Int.reduceToNat, lk78, ints]
    exact ⟨_, rfl⟩
set_option maxHeartbeats 2000000 in
theorem cost44p (r : Rd) (w : W) (hr : OkR r) (hs : ∀ i, 0 ≤ w.1 i ∧ w.1 i ≤ 1) : ACall Tryz.prog 74 [.c (.ptr 3 0)] (HS r w) (one (I (costP r w.1 r.ps.length)) (HS r w)) := by
  refine acall_atE (bad := []) (kp := kp74) (X := tx) (nt := 30) (rs := [.tmp 2]) Tryz.func74 rfl rfl rfl rfl mo (by kernel_rfl) rfl (HS_low _ _ _) (fun hf => ?_)
  have hlen := hr.len
  have nl := netC_len r w.1 w.2
  have n3 := nC3 r w.1 w.2
  simp (config := { maxSteps := 2000000 }) only [go_sem, reduceIte, Nat.reduceEqDiff, Nat.reduceAdd, Nat.reduceLT, Nat.reduceLeDiff, Nat.reduceBEq, Nat.reduceMul, Nat.reduceSub, Nat.reduceDiv, Int.reduceNeg, Int.reduceLT, Int.reduceLE, Int.reduceEq, Int.reduceToNat, lk78, HS, nl, n3, lk74]
  refine goE_loop (bad := []) (kp := kp74) (fun i : Nat => { slots := [(0, .c (.ptr 3 0)), (3, I (costP r w.1 i)), (10, postsV r.ps), (11, I r.ps.length), (12, I i)], heap := HS r w, marks := [] }) (fun i => i ≤ r.ps.length) (fun i => r.ps.length - i) 0 mo (by kernel_rfl) ?_ (Nat.zero_le _) ?_
  · refine ent_weaken [] (by simp only [HS, List.append_nil]) rfl (show 4 ≤ 4 by decide) (HS_low _ _ _) rfl ?_
    simp (config := { maxSteps := 2000000 }) only [go_sem, reduceIte, Nat.reduceEqDiff, Nat.reduceAdd, Nat.reduceLT, Nat.reduceLeDiff, Nat.reduceBEq, Nat.reduceMul, Nat.reduceSub, Nat.reduceDiv, Int.reduceNeg, Int.reduceLT, Int.reduceLE, Int.reduceEq, Int.reduceToNat, lk78, HS, postsV, costP]
    all_goals first | exact .refl _ | exact ⟨.refl _, .refl _⟩ | exact ⟨.refl _, .refl _, .refl _⟩ | exact ⟨.refl _, _, rfl⟩ | exact ⟨_, rfl⟩ | exact ⟨.refl _, [], by simp⟩ | exact ⟨[], by simp⟩
  rintro i hi
  simp (config := { maxSteps := 2000000 }) only [go_sem, reduceIte, Nat.reduceEqDiff, Nat.reduceAdd, Nat.reduceLT, Nat.reduceLeDiff, Nat.reduceBEq, Nat.reduceMul, Nat.reduceSub, Nat.reduceDiv, Int.reduceNeg, Int.reduceLT, Int.reduceLE, Int.reduceEq, Int.reduceToNat, lk78, HS, postsV, lk74]
  refine goE_if (fun h => ?_) (fun h => ?_)
  · have hlt : i < r.ps.length := by simpa using h
    obtain ⟨hp, _, _, _, q3, q4⟩ := hr.post (i := (i : Int)) (by omega) (by omega)
    have hp : r.ps[i]? = some (po r i) := hp
    have b1 := costP_bound hr hs i hi
    have b3 := costP_bound hr hs (i + 1) hlt
    have b2 := hs i
    have ng := nCst r w.1 w.2 (i := i) (by omega)
    have w1 : wr .i64 ((po r i).co * w.1 i) = (po r i).co * w.1 i := by
      have : w.1 i = 0 ∨ w.1 i = 1 := by omega
      rcases this with e | e <;> rw [e] <;> exact wr_id (by omega) (by omega)
    have w2 : wr .i64 (costP r w.1 i + (po r i).co * w.1 i) = costP r w.1 (i + 1) := by
      rw [costP] at b3
      rw [costP]; exact wr_id (by omega) (by omega)
    have c2 : (decide ((0 : Int) ≤ (i : Int)) && decide ((i : Int) < ((24 : Nat) : Int))) = true := by simp; omega
    have c3 : decide (4 + i + 1 ≤ 68) = true := decide_eq_true (by omega)
    have c4 : decide (4 + i ≤ 67) = true := decide_eq_true (by omega)
    have c6 : (decide ((0 : Int) ≤ (i : Int)) && decide ((i : Int) < (r.ps.length : Int))) = true := by simp; omega
    simp (config := { maxSteps := 2000000 }) only [go_sem, reduceIte, Nat.reduceEqDiff, Nat.reduceAdd, Nat.reduceLT, Nat.reduceLeDiff, Nat.reduceBEq, Nat.reduceMul, Nat.reduceSub, Nat.reduceDiv, Int.reduceNeg, Int.reduceLT, Int.reduceLE, Int.reduceEq, Int.reduceToNat, lk78, hp, pD, ng, nl, w1, w2, c2, c3, c4, c6, Nat.mul_one, lk74, wr_succ hlt (show r.ps.length ≤ 140737488355328 by omega)]
    refine ⟨i + 1, hlt, by omega, ?_⟩
    refine ent_weaken [.cells (pC (po r i))] rfl rfl (show 4 ≤ 4 by decide) (HS_low r w _) rfl ?_
    simp (config := { maxSteps := 2000000 }) only [go_sem, reduceIte, Nat.reduceEqDiff, Nat.reduceAdd, Nat.reduceLT, Nat.reduceLeDiff, Nat.reduceBEq, Nat.reduceMul, Nat.reduceSub, Nat.reduceDiv, Int.reduceNeg, Int.reduceLT, Int.reduceLE, Int.reduceEq, Int.reduceToNat, lk78, HS]
  · have hi' : i = r.ps.length := by simp at h; omega
    simp (config := { maxSteps := 2000000 }) only [go_sem, reduceIte, Nat.reduceEqDiff, Nat.reduceAdd, Nat.reduceLT, Nat.reduceLeDiff, Nat.reduceBEq, Nat.reduceMul, Nat.reduceSub, Nat.reduceDiv, Int.reduceNeg, Int.reduceLT, Int.reduceLE, Int.reduceEq, Int.reduceToNat, lk78, hi', lk74]
    try exact ⟨[], by simp⟩

end Go.Proofs.YtfgdbeijjbijnaaGreatDoor

/- Cheapest. -/
set_option linter.unusedSimpArgs false
set_option linter.unusedVariables false
set_option maxRecDepth 100000
namespace Go.Proofs.YtfgdbeijjbijnaaGreatDoor
open Go Go.Abs Go.Proofs
def kp30 : List (Nat × List Nat) := [(0, [1]), (1, [1, 5]), (2, [1, 5, 12]), (3, [2, 3, 4]), (4, [6]), (5, [6, 8]), (6, [6, 22]), (7, [2, 3, 4]), (8, [2, 3, 4])]
theorem lk30 : lookK kp30 0 = some [1] ∧ lookK kp30 1 = some [1, 5] ∧ lookK kp30 2 = some [1, 5, 12] ∧ lookK kp30 3 = some [2, 3, 4] ∧ lookK kp30 4 = some [6] ∧ lookK kp30 5 = some [6, 8] ∧ lookK kp30 6 = some [6, 22] ∧ lookK kp30 7 = some [2, 3, 4] ∧ lookK kp30 8 = some [2, 3, 4] := ⟨rfl, rfl, rfl, rfl, rfl, rfl, rfl, rfl, rfl⟩

def GH : List AB := [.gl 0 noneD]
def zw : W := (zf, zf)
set_option maxHeartbeats 4000000 in
theorem cheapest27 (r : Rd) (m : Nat) (b : Bool) (w' : W) (far : Nat → Int) (hr : OkR r) (hw : waysR r m (r.de.toNat + 1) zw zf = some (b, w', far)) (hst : ∀ i, 0 ≤ w'.1 i ∧ w'.1 i ≤ 1) :
    ACall Tryz.prog 30 [roadV r] GH (one (.tup [ints (if b then choP w'.1 r.ps.length else []), I (if b then costP r w'.1 r.ps.length else 0), I (if b then 0 else 18)]) GH) := by
  refine acall_atE (bad := []) (kp := kp30) (X := tx) (nt := 27) (rs := [.tmp 2, .tmp 3, .tmp 4]) Tryz.func30 rfl rfl rfl rfl mo (by kernel_rfl) rfl rfl (fun hf => ?_)
  have hokr := hr.zero
  simp (config := { maxSteps := 2000000 }) only [go_sem, reduceIte, Nat.reduceEqDiff, Nat.reduceAdd, Nat.reduceLT, Nat.reduceLeDiff, Nat.reduceBEq, Nat.reduceMul, Nat.reduceSub, Nat.reduceDiv, Int.reduceNeg, Int.reduceLT, Int.reduceLE, Int.reduceEq, Int.reduceToNat, lk30, roadV, roadC, GH]
  refine aops_pure' (checkRoad19 r) rfl rfl (by first | exact wk_refls _ | (repeat constructor)) ?_
  simp (config := { maxSteps := 2000000 }) only [go_sem, reduceIte, Nat.reduceEqDiff, Nat.reduceAdd, Nat.reduceLT, Nat.reduceLeDiff, Nat.reduceBEq, Nat.reduceMul, Nat.reduceSub, Nat.reduceDiv, Int.reduceNeg, Int.reduceLT, Int.reduceLE, Int.reduceEq, Int.reduceToNat, lk30, hokr]
  have hn := net53p r [.gl 0 noneD, .cells (roadC r)]
  simp only [roadV, roadC, List.cons_append, List.nil_append] at hn
  refine aops_at (hn) rfl rfl (by first | exact wk_refls _ | (repeat constructor)) ?_
  simp (config := { maxSteps := 2000000 }) only [go_sem, reduceIte, Nat.reduceEqDiff, Nat.reduceAdd, Nat.reduceLT, Nat.reduceLeDiff, Nat.reduceBEq, Nat.reduceMul, Nat.reduceSub, Nat.reduceDiv, Int.reduceNeg, Int.reduceLT, Int.reduceLE, Int.reduceEq, Int.reduceToNat, lk30]
  have hs := solve54 r zw m b w' far hr (fun i => by simp [zw, zf]) hw
  simp only [HS, roadC, zw] at hs
  refine aops_at (hs) rfl rfl (by first | exact wk_refls _ | (repeat constructor)) ?_
  have hz : List.replicate 41 (C.d (D.int .i64 0)) = numsC 41 zf := by rfl
  simp (config := { maxSteps := 2000000 }) only [go_sem, reduceIte, Nat.reduceEqDiff, Nat.reduceAdd, Nat.reduceLT, Nat.reduceLeDiff, Nat.reduceBEq, Nat.reduceMul, Nat.reduceSub, Nat.reduceDiv, Int.reduceNeg, Int.reduceLT, Int.reduceLE, Int.reduceEq, Int.reduceToNat, lk30, set_all, hz, numsC_len]
  cases b with
  | false =>
    simp (config := { maxSteps := 2000000 }) only [go_sem, reduceIte, Nat.reduceEqDiff, Nat.reduceAdd, Nat.reduceLT, Nat.reduceLeDiff, Nat.reduceBEq, Nat.reduceMul, Nat.reduceSub, Nat.reduceDiv, Int.reduceNeg, Int.reduceLT, Int.reduceLE, Int.reduceEq, Int.reduceToNat, lk30, ints, List.map_nil]
    try exact ⟨_, rfl⟩
  | true =>
    have h1 := (choice55 r w' hr).frame (HS_low _ _ _) rfl rfl [AB.cells (numsC 41 far)]
    have h2 := (cost44p r w' hr hst).frame (HS_low _ _ _) rfl rfl [AB.cells (numsC 41 far)]
    simp only [HS, roadC, List.cons_append, List.nil_append] at h1 h2
    simp (config := { maxSteps := 2000000 }) only [go_sem, reduceIte, Nat.reduceEqDiff, Nat.reduceAdd, Nat.reduceLT, Nat.reduceLeDiff, Nat.reduceBEq, Nat.reduceMul, Nat.reduceSub, Nat.reduceDiv, Int.reduceNeg, Int.reduceLT, Int.reduceLE, Int.reduceEq, Int.reduceToNat, lk30]
    refine aops_at (h1) rfl rfl (by first | exact wk_refls _ | (repeat constructor)) ?_
    simp (config := { maxSteps := 2000000 }) only [go_sem, reduceIte, Nat.reduceEqDiff, Nat.reduceAdd, Nat.reduceLT, Nat.reduceLeDiff, Nat.reduceBEq, Nat.reduceMul, Nat.reduceSub, Nat.reduceDiv, Int.reduceNeg, Int.reduceLT, Int.reduceLE, Int.reduceEq, Int.reduceToNat, lk30]
    refine aops_at (h2) rfl rfl (by first | exact wk_refls _ | (repeat constructor)) ?_
    simp (config := { maxSteps := 2000000 }) only [go_sem, reduceIte, Nat.reduceEqDiff, Nat.reduceAdd, Nat.reduceLT, Nat.reduceLeDiff, Nat.reduceBEq, Nat.reduceMul, Nat.reduceSub, Nat.reduceDiv, Int.reduceNeg, Int.reduceLT, Int.reduceLE, Int.reduceEq, Int.reduceToNat, lk30, ints]
    try exact ⟨_, rfl⟩
end Go.Proofs.YtfgdbeijjbijnaaGreatDoor

/- Prices. -/
set_option linter.unusedSimpArgs false
set_option linter.unusedVariables false
set_option maxRecDepth 100000
namespace Go.Proofs.YtfgdbeijjbijnaaGreatDoor
open Go Go.Abs Go.Proofs
def kp35 : List (Nat × List Nat) := [(0, [1]), (1, [1, 4]), (2, [1, 4, 12]), (3, [2, 3]), (4, [1, 5, 6]), (5, [1, 5, 21]), (6, [2, 3]), (7, [1, 5, 7]), (8, [5, 7, 23, 24]), (9, [5, 7, 23, 24, 25]), (10, [5, 7, 8, 23, 24]), (11, [5, 7, 23, 24]), (12, [5, 7, 23, 24]), (13, [2, 3])]
theorem lk35 : lookK kp35 0 = some [1] ∧ lookK kp35 1 = some [1, 4] ∧ lookK kp35 2 = some [1, 4, 12] ∧ lookK kp35 3 = some [2, 3] ∧ lookK kp35 4 = some [1, 5, 6] ∧ lookK kp35 5 = some [1, 5, 21] ∧ lookK kp35 6 = some [2, 3] ∧ lookK kp35 7 = some [1, 5, 7] ∧ lookK kp35 8 = some [5, 7, 23, 24] ∧ lookK kp35 9 = some [5, 7, 23, 24, 25] ∧ lookK kp35 10 = some [5, 7, 8, 23, 24] ∧ lookK kp35 11 = some [5, 7, 23, 24] ∧ lookK kp35 12 = some [5, 7, 23, 24] ∧ lookK kp35 13 = some [2, 3] := ⟨rfl, rfl, rfl, rfl, rfl, rfl, rfl, rfl, rfl, rfl, rfl, rfl, rfl, rfl⟩

def priL (far : Nat → Int) (n : Nat) : List Int := (List.range n).map fun k => wr .i64 (far (k + 1) - far k)
theorem priL_succ (far : Nat → Int) (n : Nat) : priL far (n + 1) = priL far n ++ [wr .i64 (far (n + 1) - far n)] := by simp [priL, List.range_succ]
theorem priL_len (far : Nat → Int) (n : Nat) : (priL far n).length = n := by simp [priL]
set_option maxHeartbeats 4000000 in
theorem prices31 (r : Rd) (m : Nat) (b : Bool) (w' : W) (far : Nat → Int) (hr : OkR r) (hw : waysR r m (r.de.toNat + 1) zw zf = some (b, w', far)) :
    ACall Tryz.prog 35 [roadV r] GH (one (.tup [ints (if b then priL far r.pl.toNat else []), I (if b then 0 else 18)]) GH) := by
  refine acall_atE (bad := []) (kp := kp35) (X := tx) (nt := 40) (rs := [.tmp 2, .tmp 3]) Tryz.func35 rfl rfl rfl rfl mo (by kernel_rfl) rfl rfl (fun hf => ?_)
  have hokr := hr.zero
  have p1 := hr.p1
  have p40 := hr.p40
  simp (config := { maxSteps := 2000000 }) only [go_sem, reduceIte, Nat.reduceEqDiff, Nat.reduceAdd, Nat.reduceLT, Nat.reduceLeDiff, Nat.reduceBEq, Nat.reduceMul, Nat.reduceSub, Nat.reduceDiv, Int.reduceNeg, Int.reduceLT, Int.reduceLE, Int.reduceEq, Int.reduceToNat, lk35, roadV, roadC, GH]
  refine aops_pure' (checkRoad19 r) rfl rfl (by first | exact wk_refls _ | (repeat constructor)) ?_
  simp (config := { maxSteps := 2000000 }) only [go_sem, reduceIte, Nat.reduceEqDiff, Nat.reduceAdd, Nat.reduceLT, Nat.reduceLeDiff, Nat.reduceBEq, Nat.reduceMul, Nat.reduceSub, Nat.reduceDiv, Int.reduceNeg, Int.reduceLT, Int.reduceLE, Int.reduceEq, Int.reduceToNat, lk35, hokr]
  have hn := net53p r [.gl 0 noneD, .cells (roadC r)]
  simp only [roadV, roadC, List.cons_append, List.nil_append] at hn
  refine aops_at (hn) rfl rfl (by first | exact wk_refls _ | (repeat constructor)) ?_
  simp (config := { maxSteps := 2000000 }) only [go_sem, reduceIte, Nat.reduceEqDiff, Nat.reduceAdd, Nat.reduceLT, Nat.reduceLeDiff, Nat.reduceBEq, Nat.reduceMul, Nat.reduceSub, Nat.reduceDiv, Int.reduceNeg, Int.reduceLT, Int.reduceLE, Int.reduceEq, Int.reduceToNat, lk35]
  have hs := solve54 r zw m b w' far hr (fun i => by simp [zw, zf]) hw
  simp only [HS, roadC, zw] at hs
  refine aops_at (hs) rfl rfl (by first | exact wk_refls _ | (repeat constructor)) ?_
  have hz : List.replicate 41 (C.d (D.int .i64 0)) = numsC 41 zf := by rfl
  simp (config := { maxSteps := 2000000 }) only [go_sem, reduceIte, Nat.reduceEqDiff, Nat.reduceAdd, Nat.reduceLT, Nat.reduceLeDiff, Nat.reduceBEq, Nat.reduceMul, Nat.reduceSub, Nat.reduceDiv, Int.reduceNeg, Int.reduceLT, Int.reduceLE, Int.reduceEq, Int.reduceToNat, lk35, set_all, hz, numsC_len]
  cases b with
  | false =>
    simp (config := { maxSteps := 2000000 }) only [go_sem, reduceIte, Nat.reduceEqDiff, Nat.reduceAdd, Nat.reduceLT, Nat.reduceLeDiff, Nat.reduceBEq, Nat.reduceMul, Nat.reduceSub, Nat.reduceDiv, Int.reduceNeg, Int.reduceLT, Int.reduceLE, Int.reduceEq, Int.reduceToNat, lk35, ints, List.map_nil]
    try exact ⟨_, rfl⟩
  | true =>
    have gl := numsC_len 41 far
    have hlow : ∀ n, (HS r w' ++ [AB.cells (numsC 41 far), AB.grow n 1]).all (AB.low (HS r w' ++ [AB.cells (numsC 41 far), AB.grow n 1]).length) = true := fun n => by
      rw [List.all_append, HS_low]; simp only [List.all_cons, List.all_nil, AB.low, numsC_low, Bool.and_self]
    simp (config := { maxSteps := 2000000 }) only [go_sem, reduceIte, Nat.reduceEqDiff, Nat.reduceAdd, Nat.reduceLT, Nat.reduceLeDiff, Nat.reduceBEq, Nat.reduceMul, Nat.reduceSub, Nat.reduceDiv, Int.reduceNeg, Int.reduceLT, Int.reduceLE, Int.reduceEq, Int.reduceToNat, lk35]
    refine goE_loop (bad := []) (kp := kp35) (fun k : Nat => { slots := [(5, .c (.ptr 4 0)), (7, .c (.own 5 ((priL far k).map iD))), (23, I r.pl), (24, I k)], heap := HS r w' ++ [.cells (numsC 41 far), .grow k 1], marks := [] }) (fun k => k ≤ r.pl.toNat) (fun k => r.pl.toNat - k) 0 mo (by kernel_rfl) ?_ (Nat.zero_le _) ?_
    · refine Ent.trans (ent_own 7 1 rfl) ?_
      refine ent_weaken [] (by simp only [HS, List.append_nil, roadC]; rfl) rfl (show 1 ≤ 6 by decide) (hlow _) rfl ?_
      simp (config := { maxSteps := 2000000 }) only [go_sem, reduceIte, Nat.reduceEqDiff, Nat.reduceAdd, Nat.reduceLT, Nat.reduceLeDiff, Nat.reduceBEq, Nat.reduceMul, Nat.reduceSub, Nat.reduceDiv, Int.reduceNeg, Int.reduceLT, Int.reduceLE, Int.reduceEq, Int.reduceToNat, lk35, HS, priL, List.range_zero, List.map_nil]
      all_goals first | exact .refl _ | exact ⟨.refl _, .refl _⟩ | exact ⟨.refl _, .refl _, .refl _⟩ | exact ⟨.refl _, _, rfl⟩ | exact ⟨_, rfl⟩ | exact ⟨.refl _, [], by simp⟩ | exact ⟨[], by simp⟩
    rintro k hk
    simp (config := { maxSteps := 2000000 }) only [go_sem, reduceIte, Nat.reduceEqDiff, Nat.reduceAdd, Nat.reduceLT, Nat.reduceLeDiff, Nat.reduceBEq, Nat.reduceMul, Nat.reduceSub, Nat.reduceDiv, Int.reduceNeg, Int.reduceLT, Int.reduceLE, Int.reduceEq, Int.reduceToNat, lk35, HS, roadC]
    refine goE_if (fun h => ?_) (fun h => ?_)
    · have hlt : k < r.pl.toNat := by simp only [decide_eq_true_eq] at h; omega
      have g1 := numsC_get far (j := k) (n := 41) (by omega)
      have g2 := numsC_get far (j := k + 1) (n := 41) (by omega)
      have w1 := wr_succ hlt (show r.pl.toNat ≤ 140737488355328 by omega)
      have c1 : (decide ((0 : Int) ≤ ((k + 1 : Nat) : Int)) && decide (((k + 1 : Nat) : Int) < ((41 : Nat) : Int))) = true := by rw [decide_eq_true (by omega), decide_eq_true (by omega)]; rfl
      have c2 : (decide ((0 : Int) ≤ (k : Int)) && decide ((k : Int) < ((41 : Nat) : Int))) = true := by rw [decide_eq_true (by omega), decide_eq_true (by omega)]; rfl
      have c3 : decide (k + 1 + 1 ≤ 41) = true := decide_eq_true (by omega)
      have c4 : decide (k + 1 ≤ 41) = true := decide_eq_true (by omega)
      have hpl := priL_len far k
      simp (config := { maxSteps := 2000000 }) only [go_sem, reduceIte, Nat.reduceEqDiff, Nat.reduceAdd, Nat.reduceLT, Nat.reduceLeDiff, Nat.reduceBEq, Nat.reduceMul, Nat.reduceSub, Nat.reduceDiv, Int.reduceNeg, Int.reduceLT, Int.reduceLE, Int.reduceEq, Int.reduceToNat, lk35, gl, g1, g2, w1, c1, c2, c3, c4, Nat.mul_one, bound, iD, hpl, fillC, zc, List.replicate_succ, List.replicate_zero, List.flatten_cons, List.flatten_nil, toDs, toD, chunk, srcRows, List.all_cons, List.all_nil, List.all_map, Function.comp_def, List.take_nil, List.drop_nil, List.drop_one, List.tail_cons, lim]
      refine ⟨decide_eq_true (by omega), decide_eq_true (by omega), by simp; omega, k + 1, by omega, by omega, ?_⟩
      refine ent_weaken [] (by simp only [HS, List.append_nil, roadC, List.cons_append, List.nil_append]) rfl (show 1 ≤ 6 by decide) (hlow _) rfl ?_
      simp (config := { maxSteps := 2000000 }) only [go_sem, reduceIte, Nat.reduceEqDiff, Nat.reduceAdd, Nat.reduceLT, Nat.reduceLeDiff, Nat.reduceBEq, Nat.reduceMul, Nat.reduceSub, Nat.reduceDiv, Int.reduceNeg, Int.reduceLT, Int.reduceLE, Int.reduceEq, Int.reduceToNat, lk35, HS, priL_succ, List.map_append, iD]
      all_goals first | exact .refl _ | exact ⟨.refl _, .refl _⟩ | exact ⟨.refl _, .refl _, .refl _⟩ | exact ⟨.refl _, _, rfl⟩ | exact ⟨_, rfl⟩ | exact ⟨.refl _, [], by simp⟩ | exact ⟨[], by simp⟩
    · have hk' : k = r.pl.toNat := by simp only [decide_eq_false_iff_not] at h; omega
      subst hk'
      simp (config := { maxSteps := 2000000 }) only [go_sem, reduceIte, Nat.reduceEqDiff, Nat.reduceAdd, Nat.reduceLT, Nat.reduceLeDiff, Nat.reduceBEq, Nat.reduceMul, Nat.reduceSub, Nat.reduceDiv, Int.reduceNeg, Int.reduceLT, Int.reduceLE, Int.reduceEq, Int.reduceToNat, lk35, ints]
      try exact ⟨_, rfl⟩
end Go.Proofs.YtfgdbeijjbijnaaGreatDoor

/- The plain law: all ways; what they cost. -/
set_option linter.unusedSimpArgs false
set_option linter.unusedVariables false
set_option maxRecDepth 100000
namespace Go.Proofs.YtfgdbeijjbijnaaGreatDoor
open Go Go.Abs Go.Proofs

theorem ways_ind {r : Rd} (hr : OkR r) : ∀ (k : Nat) (w : W) (far pi : Nat → Int) (N m0 : Int), OkW r w N → N + 41 * k ≤ 1000000 → RC (stepsL r w.1 w.2) pi → PB pi → (∀ p, p < r.pl.toNat → netw r w p = m0) →
    ∃ (m : Nat) (x : Bool × W × (Nat → Int)), (∀ m', m ≤ m' → waysR r m' k w far = some x) ∧
      (x.1 = true → (∃ N', OkW r x.2.1 N') ∧ (∀ p, p < r.pl.toNat → netw r x.2.1 p = m0 + k) ∧ ((k = 0 ∧ x.2.2 = far ∧ x.2.1 = w) ∨ (k ≠ 0 ∧ PB (worth r x.2.2) ∧ RC (stepsL r x.2.1.1 x.2.1.2) (worth r x.2.2)))) ∧
      (x.1 = false → ∃ p, p < r.pl.toNat ∧ litP r one' r.ps.length (p : Nat) < m0 + k)
  | 0, w, far, pi, N, m0, hw, _, _, _, hnet => ⟨0, (true, w, far), fun m' _ => rfl, fun _ => ⟨⟨N, hw⟩, fun p hp => by rw [hnet p hp]; simp, .inl ⟨rfl, rfl, rfl⟩⟩, fun h => by cases h⟩
  | k + 1, w, far, pi, N, m0, hw, hN, hrc, hpb, hnet => by
    have p40 := hr.p40
    have p1 := hr.p1
    have hl := okL_steps (w := w) hr
    obtain ⟨n, q, hq, hi, hfx⟩ := find_ex hl hrc hpb ((sumF q0.far 41).toNat + 1) (inv_q0 _ pi) (by omega)
    by_cases hnev : q.far r.pl.toNat = never
    · obtain ⟨p, hp, hc⟩ := cut_ok hr hw hi hfx hnev
      refine ⟨n, (false, w, zf), fun m' hm => ?_, fun h => (by cases h), fun _ => ⟨p, hp, by rw [hc, hnet p hp]; omega⟩⟩
      obtain ⟨d, rfl⟩ := Nat.exists_eq_add_of_le hm
      rw [waysR, findR_mono hq d]
      simp only [hnev, if_true]
    · obtain ⟨hpb', hrc'⟩ := worth_ok hr hpb hi hfx hnev
      obtain ⟨t, ht⟩ := hi.tr r.pl.toNat (by omega) hnev
      obtain ⟨c, hc⟩ := ht.ch
      have hok := ch_ok hl hi hfx hc (by omega) hnev
      have hlen := ch_len hl hi hfx hc (by omega) hnev
      obtain ⟨g1, g2, g3⟩ := augment hr (c := c) (pi := worth r q.far) hw (by omega) (fun s hs => ⟨(hok s hs).1, by
        obtain ⟨e1, e2⟩ := steps_pl hr (hok s hs).1
        simp only [worth, e1, e2, if_true]
        exact (hok s hs).2.1⟩) (ch_distinct hl hi hc (by omega) hnev) hrc'
      obtain ⟨m2, x, h1, h2, h3⟩ := ways_ind hr k (takes c w) q.far (worth r q.far) (N + c.length) (m0 + 1) g1 (by push_cast at hN; omega) g2 hpb' (fun p hp => by
        rw [g3 p hp, hnet p hp, crS_chain hl hi hfx p hc (by omega) hnev, if_pos hp])
      refine ⟨n + (c.length + 1) + m2, x, fun m' hm => ?_, fun hx => ?_, fun hx => ?_⟩
      · obtain ⟨d, hd⟩ := Nat.exists_eq_add_of_le (show n ≤ m' by omega)
        obtain ⟨d2, hd2⟩ := Nat.exists_eq_add_of_le (show c.length + 1 ≤ m' by omega)
        have hf : findR (stepsL r w.1 w.2) m' q0 = some q := by rw [hd]; exact findR_mono hq d
        have hp : pathR m' r.pl q.by' w = some (true, takes c w) := by
          have := path_run (w := w) d2 hc (fun s hs => (hl.ok s (hok s hs).1).f0)
          rw [← hd2, show ((r.pl.toNat : Nat) : Int) = r.pl by omega] at this
          exact this
        rw [waysR, hf]
        simp only [hnev, if_false, hp]
        exact h1 m' (by omega)
      · obtain ⟨a1, a2, a3⟩ := h2 hx
        refine ⟨a1, fun p hp => by rw [a2 p hp]; push_cast; omega, .inr ⟨by omega, ?_⟩⟩
        rcases a3 with ⟨_, e1, e2⟩ | ⟨_, e1, e2⟩
        · rw [e1, e2]; exact ⟨hpb', g2⟩
        · exact ⟨e1, e2⟩
      · obtain ⟨p, hp, h⟩ := h3 hx
        exact ⟨p, hp, by push_cast; omega⟩
theorem zw_ok (r : Rd) : OkW r zw 0 := ⟨fun i => .inl rfl, fun i h => by simp [zw, zf] at h, fun k => by simp [zw, zf], fun k => by simp [zw, zf]⟩
theorem zw_rc {r : Rd} (hr : OkR r) : RC (stepsL r zw.1 zw.2) (fun _ => 0) := fun s hs => by
  rcases mem_steps.1 hs with ⟨k, hk, rfl⟩ | ⟨k, hk, hb, rfl⟩ | ⟨i, hi, hft, rfl⟩
  · simp
  · simp
  · have := hr.post (i := (i : Int)) (by omega) (by omega)
    have e : postS r zw.1 i = ⟨rFrom r i, rTo r i, (po r i).co, i⟩ := by simp [postS, zw, zf]
    rw [e]; simp only; omega
/-- All ways through a street: there are enough of them, or a place cannot be lit often enough. -/
theorem ways_all {r : Rd} (hr : OkR r) : ∃ (m : Nat) (x : Bool × W × (Nat → Int)), waysR r m (r.de.toNat + 1) zw zf = some x ∧
      (x.1 = true → (∃ N', OkW r x.2.1 N') ∧ (∀ p, p < r.pl.toNat → netw r x.2.1 p = r.de + 1) ∧ PB (worth r x.2.2) ∧ RC (stepsL r x.2.1.1 x.2.1.2) (worth r x.2.2)) ∧
      (x.1 = false → ∃ p, p < r.pl.toNat ∧ litP r one' r.ps.length (p : Nat) ≤ r.de) := by
  have d0 := hr.d0
  have d2 := hr.d2
  obtain ⟨m, x, h1, h2, h3⟩ := ways_ind hr (r.de.toNat + 1) zw zf (fun _ => 0) 0 0 (zw_ok r) (by push_cast; omega) (zw_rc hr) ⟨rfl, fun _ _ => Int.le_refl _, fun _ _ => by decide⟩ (fun p _ => by
    simp only [netw, zw]; rw [litP_zero]; simp [zf])
  refine ⟨m, x, h1 m (Nat.le_refl _), fun hx => ?_, fun hx => ?_⟩
  · obtain ⟨a1, a2, a3⟩ := h2 hx
    refine ⟨a1, fun p hp => by rw [a2 p hp]; push_cast; omega, ?_⟩
    rcases a3 with ⟨e, _⟩ | ⟨_, e⟩
    · omega
    · exact e
  · obtain ⟨p, hp, h⟩ := h3 hx
    exact ⟨p, hp, by push_cast at h; omega⟩

/-! ### Prices and costs -/
def dotP (l : List Int) (g : Nat → Int) : Nat → Int
  | 0 => 0
  | m + 1 => dotP l g m + (l[m]?).getD 0 * g m
/-- What the prices of the places are that the posts of a choice light. -/
def dotL (r : Rd) (l : List Int) (f : Nat → Int) : Nat → Int
  | 0 => 0
  | n + 1 => dotL r l f n + f n * litS r l n l.length
theorem dotP_add (l : List Int) (g h : Nat → Int) : ∀ m, dotP l (fun p => g p + h p) m = dotP l g m + dotP l h m
  | 0 => rfl
  | m + 1 => by simp only [dotP, dotP_add l g h m, Int.mul_add]; omega
theorem dotP_lit (r : Rd) (l : List Int) (n : Nat) (v : Int) : ∀ m, dotP l (fun p : Nat => if litB r (po r n) p then v else 0) m = v * litS r l n m
  | 0 => by simp [dotP, litS]
  | m + 1 => by
    simp only [dotP, litS, dotP_lit r l n v m]
    split
    · rw [Int.mul_add]; congr 1; exact Int.mul_comm _ _
    · simp
theorem dotP_zero (l : List Int) : ∀ m, dotP l (fun _ => 0) m = 0
  | 0 => rfl
  | m + 1 => by simp [dotP, dotP_zero l m]
theorem dot_swap (r : Rd) (l : List Int) (f : Nat → Int) : ∀ n, dotP l (fun p : Nat => litP r f n p) l.length = dotL r l f n
  | 0 => by simp only [litP, dotL]; exact dotP_zero l _
  | n + 1 => by
    have := dotP_add l (fun p : Nat => litP r f n p) (fun p : Nat => if litB r (po r n) p then f n else 0) l.length
    simp only [litP, dotL]
    rw [this, dot_swap r l f n, dotP_lit]
theorem dotP_const (l : List Int) (d : Int) : ∀ m, m ≤ l.length → dotP l (fun _ => d) m = d * (l.take m).sum
  | 0, _ => by simp [dotP]
  | m + 1, h => by
    obtain ⟨x, hx⟩ := get_of_lt (show m < l.length by omega)
    rw [dotP, dotP_const l d m (by omega), sum_take_succ hx, hx, Int.mul_add, Option.getD_some, Int.mul_comm x]
theorem dotP_le {l : List Int} (hl : ∀ x ∈ l, 0 ≤ x) {g h : Nat → Int} : ∀ m, (∀ p, p < m → g p ≤ h p) → dotP l g m ≤ dotP l h m
  | 0, _ => Int.le_refl _
  | m + 1, hg => by
    have ih := dotP_le hl m (fun p hp => hg p (by omega))
    have h0 : 0 ≤ (l[m]?).getD 0 := by
      cases hm : l[m]? with
      | none => simp
      | some x => exact hl x (List.mem_of_getElem? hm)
    have := Int.mul_le_mul_of_nonneg_left (hg m (by omega)) h0
    simp only [dotP]; omega
theorem dotP_eq {l : List Int} {g h : Nat → Int} : ∀ m, (∀ p, p < m → (l[p]?).getD 0 * g p = (l[p]?).getD 0 * h p) → dotP l g m = dotP l h m
  | 0, _ => rfl
  | m + 1, hg => by simp only [dotP, dotP_eq m (fun p hp => hg p (by omega)), hg m (by omega)]
theorem weak (r : Rd) (l : List Int) {f : Nat → Int} (hf : ∀ i, f i = 0 ∨ f i = 1) : ∀ n : Nat, dotL r l f n + bndP r l n ≤ costP r f n + (r.de + 1) * l.sum
  | 0 => by simp [dotL, bndP, costP]
  | n + 1 => by
    have ih := weak r l hf n
    simp only [dotL, bndP, costP]
    rcases hf n with h | h <;> rw [h, Int.max_def] <;> split <;> omega
theorem tightE (r : Rd) (l : List Int) {f : Nat → Int} (hf : ∀ i, f i = 0 ∨ f i = 1) : ∀ n : Nat, (∀ i : Nat, i < n → (f i = 1 → (po r i).co ≤ litS r l i l.length) ∧ (f i = 0 → litS r l i l.length ≤ (po r i).co)) → dotL r l f n + bndP r l n = costP r f n + (r.de + 1) * l.sum
  | 0, _ => by simp [dotL, bndP, costP]
  | n + 1, ht => by
    have ih := tightE r l hf n (fun i hi => ht i (by omega))
    have h2 := ht n (by omega)
    simp only [dotL, bndP, costP]
    rcases hf n with h | h
    · have := h2.2 h
      rw [h, Int.max_def]; split <;> omega
    · have := h2.1 h
      rw [h, Int.max_def]; split <;> omega
/-- No choice that holds costs less than the bound of any prices. -/
theorem weak_dual {r : Rd} {l : List Int} {f : Nat → Int} (hl : (l.length : Int) = r.pl) (hx : ∀ x ∈ l, 0 ≤ x) (hf : ∀ i, f i = 0 ∨ f i = 1) (hh : ∀ p : Nat, (p : Int) < r.pl → r.de + 1 ≤ litP r f r.ps.length p) : bndP r l r.ps.length ≤ costP r f r.ps.length := by
  have h1 := weak r l hf r.ps.length
  have h2 := dot_swap r l f r.ps.length
  have h3 := dotP_le hx (g := fun _ => r.de + 1) (h := fun p : Nat => litP r f r.ps.length p) l.length (fun p hp => hh p (by omega))
  rw [dotP_const l _ l.length (Nat.le_refl _), List.take_length, h2] at h3
  omega
end Go.Proofs.YtfgdbeijjbijnaaGreatDoor

/- The plain law: the cheapest choice costs the bound of the prices. -/
set_option linter.unusedSimpArgs false
set_option linter.unusedVariables false
set_option maxRecDepth 100000
namespace Go.Proofs.YtfgdbeijjbijnaaGreatDoor
open Go Go.Abs Go.Proofs

theorem pathR_st' : ∀ {n : Nat} {a : Int} {es : List (Int × Stp)} {w : W} {x : Bool × W}, pathR n a es w = some x → (∀ i, 0 ≤ w.1 i ∧ w.1 i ≤ 1) → ∀ i, 0 ≤ x.2.1 i ∧ x.2.1 i ≤ 1
  | 0, a, es, w, x, h, _ => by cases h
  | n + 1, a, es, w, x, h, hw => by
    rw [pathR] at h
    split at h
    · cases h; exact hw
    · split at h
      · cases h; exact hw
      · exact pathR_st' h (takeS_st hw)
theorem waysR_st' {r : Rd} {m : Nat} : ∀ {k : Nat} {w : W} {far : Nat → Int} {x : Bool × W × (Nat → Int)}, waysR r m k w far = some x → (∀ i, 0 ≤ w.1 i ∧ w.1 i ≤ 1) → ∀ i, 0 ≤ x.2.1.1 i ∧ x.2.1.1 i ≤ 1
  | 0, w, far, x, h, hw => by cases h; exact hw
  | k + 1, w, far, x, h, hw => by
    rw [waysR] at h
    split at h
    · cases h
    split at h
    · cases h; exact hw
    split at h
    · cases h
    · rename_i hp; cases h; exact pathR_st' hp hw
    · rename_i hp; exact waysR_st' h (pathR_st' hp hw)
theorem priL_get {f : Nat → Int} {n k : Nat} (h : k < n) : (priL f n)[k]? = some (wr .i64 (f (k + 1) - f k)) := by simp [priL, h]
/-- What is known at the end. -/
structure Opt (r : Rd) (w : W) (f : Nat → Int) : Prop where
  ok : ∃ N, OkW r w N
  net : ∀ p, p < r.pl.toNat → netw r w p = r.de + 1
  pb : PB (worth r f)
  rc : RC (stepsL r w.1 w.2) (worth r f)
theorem Opt.diff {r : Rd} {w : W} {f : Nat → Int} (hr : OkR r) (h : Opt r w f) {k : Nat} (hk : k < r.pl.toNat) : 0 ≤ f (k + 1) - f k ∧ f (k + 1) - f k ≤ 50000000 ∧ wr .i64 (f (k + 1) - f k) = f (k + 1) - f k := by
  have p40 := hr.p40
  have hs := h.rc _ (mem_steps.2 (.inl ⟨k, hk, rfl⟩))
  have e : ((k : Int) + 1).toNat = k + 1 := by omega
  simp only [e, Int.toNat_natCast, Int.add_zero] at hs
  have h1 := h.pb.lo (k + 1) (by omega)
  have h2 := h.pb.hi (k + 1) (by omega)
  have h3 := h.pb.lo k (by omega)
  have e1 : worth r f (k + 1) = f (k + 1) := by simp only [worth]; rw [if_pos (by omega)]
  have e2 : worth r f k = f k := by simp only [worth]; rw [if_pos (by omega)]
  rw [e1] at hs h1 h2
  rw [e2] at hs h3
  exact ⟨by omega, by omega, wr_id (by omega) (by omega)⟩
theorem Opt.prices {r : Rd} {w : W} {f : Nat → Int} (hr : OkR r) (h : Opt r w f) : OkX (priL f r.pl.toNat) := fun x hx => by
  obtain ⟨k, hk⟩ := List.getElem?_of_mem hx
  have hlt := (List.getElem?_eq_some_iff.1 hk).1
  rw [priL_len] at hlt
  rw [priL_get hlt] at hk
  cases hk
  obtain ⟨a, b, c⟩ := h.diff hr hlt
  rw [c]; omega
/-- The prices of the places that a post lights: by how much its ends differ. -/
theorem Opt.lit {r : Rd} {w : W} {f : Nat → Int} (hr : OkR r) (h : Opt r w f) {i : Nat} (hi : i < r.ps.length) (hft : rFrom r i < rTo r i) : litS r (priL f r.pl.toNat) i r.pl.toNat = f (rTo r i).toNat - f (rFrom r i).toNat := by
  have hp := hr.post (i := (i : Int)) (by omega) (by omega)
  have i0 := hr.i0
  have hf0 : 0 ≤ rFrom r i := by simp only [rFrom]; omega
  have hto : rTo r i ≤ r.pl := by simp only [rTo]; omega
  have key : ∀ m, m ≤ r.pl.toNat → litS r (priL f r.pl.toNat) i m = f (min m (rTo r i).toNat) - f (min m (rFrom r i).toNat) := by
    intro m
    induction m with
    | zero => intro _; simp [litS]
    | succ m ih =>
      intro hm
      have ih := ih (by omega)
      obtain ⟨_, _, hw⟩ := h.diff hr (show m < r.pl.toNat by omega)
      simp only [litS, ih, priL_get (show m < r.pl.toNat by omega), Option.getD_some, hw]
      by_cases hl : litB r (po r i) (m : Int) = true
      · obtain ⟨h1, h2⟩ := (litB_iff r i m).1 hl
        rw [if_pos hl, Nat.min_eq_left (show m ≤ (rTo r i).toNat by omega), Nat.min_eq_left (show m + 1 ≤ (rTo r i).toNat by omega), Nat.min_eq_right (show (rFrom r i).toNat ≤ m by omega), Nat.min_eq_right (show (rFrom r i).toNat ≤ m + 1 by omega)]
        omega
      · have hn : ¬ (rFrom r i ≤ m ∧ (m : Int) < rTo r i) := fun h => hl ((litB_iff r i m).2 h)
        rw [if_neg hl]
        by_cases h1 : (rTo r i).toNat ≤ m
        · rw [Nat.min_eq_right h1, Nat.min_eq_right (show (rTo r i).toNat ≤ m + 1 by omega), Nat.min_eq_right (show (rFrom r i).toNat ≤ m by omega), Nat.min_eq_right (show (rFrom r i).toNat ≤ m + 1 by omega)]; omega
        · rw [Nat.min_eq_left (show m ≤ (rTo r i).toNat by omega), Nat.min_eq_left (show m + 1 ≤ (rTo r i).toNat by omega), Nat.min_eq_left (show m ≤ (rFrom r i).toNat by omega), Nat.min_eq_left (show m + 1 ≤ (rFrom r i).toNat by omega)]; omega
  have := key _ (Nat.le_refl _)
  rw [this, Nat.min_eq_right (by omega), Nat.min_eq_right (by omega)]
/-- It costs just the bound of the prices. -/
theorem Opt.cost {r : Rd} {w : W} {f : Nat → Int} (hr : OkR r) (h : Opt r w f) : costP r w.1 r.ps.length = bndP r (priL f r.pl.toNat) r.ps.length := by
  obtain ⟨N, hw⟩ := h.ok
  have p40 := hr.p40
  have hlen := priL_len f r.pl.toNat
  have ht := tightE r (priL f r.pl.toNat) hw.st r.ps.length (fun i hi => by
    rw [hlen]
    have hp := hr.post (i := (i : Int)) (by omega) (by omega)
    have i0 := hr.i0
    by_cases hft : rFrom r i < rTo r i
    · rw [h.lit hr hi hft]
      have hs := h.rc _ (mem_steps.2 (.inr (.inr ⟨i, hi, hft, rfl⟩)))
      have e1 : worth r f (rFrom r i).toNat = f (rFrom r i).toNat := by simp only [worth]; rw [if_pos (by simp only [rFrom, rTo] at hft ⊢; omega)]
      have e2 : worth r f (rTo r i).toNat = f (rTo r i).toNat := by simp only [worth]; rw [if_pos (by simp only [rFrom, rTo] at hft ⊢; omega)]
      constructor
      · intro h1
        have e : postS r w.1 i = ⟨rTo r i, rFrom r i, -(po r i).co, i⟩ := by simp [postS, h1]
        rw [e] at hs
        simp only [e1, e2] at hs
        omega
      · intro h0
        have e : postS r w.1 i = ⟨rFrom r i, rTo r i, (po r i).co, i⟩ := by simp [postS, h0]
        rw [e] at hs
        simp only [e1, e2] at hs
        omega
    · rw [lit_none hft]
      exact ⟨fun h1 => absurd (hw.lit i h1).2 hft, fun _ => hp.2.2.2.2.1⟩)
  have hs := dot_swap r (priL f r.pl.toNat) w.1 r.ps.length
  have he := dotP_eq (l := priL f r.pl.toNat) (g := fun p : Nat => litP r w.1 r.ps.length p) (h := fun _ => r.de + 1) (priL f r.pl.toNat).length (fun p hp => by
    rw [hlen] at hp
    have hn := h.net p hp
    simp only [netw] at hn
    obtain ⟨_, _, hwr⟩ := h.diff hr hp
    rw [priL_get hp, Option.getD_some, hwr]
    by_cases hb : 0 < w.2 p
    · have hs := h.rc _ (mem_steps.2 (.inr (.inl ⟨p, hp, hb, rfl⟩)))
      have e : ((p : Int) + 1).toNat = p + 1 := by omega
      simp only [e, Int.toNat_natCast, Int.add_zero] at hs
      have e1 : worth r f (p + 1) = f (p + 1) := by simp only [worth]; rw [if_pos (by omega)]
      have e2 : worth r f p = f p := by simp only [worth]; rw [if_pos (by omega)]
      rw [e1, e2] at hs
      obtain ⟨h0, _, _⟩ := h.diff hr hp
      have : f (p + 1) - f p = 0 := by omega
      rw [this]; simp
    · have := hw.b0 p
      rw [show litP r w.1 r.ps.length p = r.de + 1 by omega])
  rw [he, dotP_const _ _ _ (Nat.le_refl _), List.take_length] at hs
  omega

/-- The choice of the posts that stand. -/
theorem choP_mem {f : Nat → Int} {x : Int} : ∀ {m : Nat}, x ∈ choP f m ↔ ∃ i : Nat, i < m ∧ x = i ∧ f i = 1
  | 0 => by simp [choP]
  | m + 1 => by
    simp only [choP, List.mem_append, choP_mem (m := m)]
    constructor
    · rintro (⟨i, h1, h2, h3⟩ | h)
      · exact ⟨i, by omega, h2, h3⟩
      · split at h
        · rename_i h1; exact ⟨m, by omega, by simpa using h, h1⟩
        · simp at h
    · rintro ⟨i, h1, h2, h3⟩
      by_cases e : i = m
      · subst e; right; rw [if_pos h3]; simp [h2]
      · exact .inl ⟨i, by omega, h2, h3⟩
theorem choP_rises (f : Nat → Int) : ∀ m : Nat, rises (choP f m) m = true
  | 0 => rfl
  | m + 1 => by
    have ih := choP_rises f m
    have snoc : ∀ {l : List Int} {a n m : Int}, risesB l a n = true → a < m → n ≤ m → risesB (l ++ [m]) a (m + 1) = true := by
      intro l
      induction l with
      | nil => intro a n m _ h1 _; simp [risesB]; omega
      | cons x l ih =>
        intro a n m h h1 h2
        simp only [risesB, Bool.and_eq_true, decide_eq_true_eq, List.cons_append] at h ⊢
        exact ⟨by omega, ih h.2 (by omega) h2⟩
    have more : ∀ {l : List Int} {a n m : Int}, risesB l a n = true → n ≤ m → risesB l a m = true := by
      intro l
      induction l with
      | nil => intro a n m _ _; rfl
      | cons x l ih =>
        intro a n m h h1
        simp only [risesB, Bool.and_eq_true, decide_eq_true_eq] at h ⊢
        exact ⟨by omega, ih h.2 h1⟩
    simp only [choP]
    split
    · exact snoc (m := (m : Int)) ih (by omega) (Int.le_refl _)
    · rw [List.append_nil]; exact more ih (by omega)
theorem ind_choP {f : Nat → Int} (hf : ∀ i, f i = 0 ∨ f i = 1) (m : Nat) {i : Nat} (hi : i < m) : ind (choP f m) i = f i := by
  unfold ind
  rcases hf i with h | h
  · rw [if_neg, h]
    rw [choP_mem]
    rintro ⟨j, h1, h2, h3⟩
    have : i = j := by omega
    subst this
    rw [h] at h3; exact absurd h3 (by decide)
  · rw [if_pos, h]
    exact choP_mem.2 ⟨i, hi, rfl, h⟩
theorem okCh_choP {r : Rd} (hr : OkR r) (f : Nat → Int) : okCh r (choP f r.ps.length) = 0 := by
  unfold okCh
  rw [if_neg (by simpa using hr.zero), choP_rises]; rfl
theorem litP_exti {r : Rd} {f g : Nat → Int} (p : Int) (h : ∀ i, i < r.ps.length → f i = g i) : litP r f r.ps.length p = litP r g r.ps.length p := litP_ext p _ h
theorem holdsB_iff {r : Rd} {l : List Int} : holdsB r l = true ↔ ∀ p : Nat, p < r.pl.toNat → r.de < litP r (ind l) r.ps.length p := by
  rw [holdsB, List.all_eq_true]
  constructor
  · intro h p hp
    have := h (litP r (ind l) r.ps.length p) (List.mem_map.2 ⟨p, by simpa using hp, rfl⟩)
    simpa using this
  · intro h x hx
    obtain ⟨p, hp, rfl⟩ := List.mem_map.1 hx
    simpa using h p (by simpa using hp)
/-- A choice that holds costs no less than prices tell. -/
theorem weak_ch {r : Rd} {l : List Int} {ch : List Int} (hr : OkR r) (hl : (l.length : Int) = r.pl) (hx : OkX l) (hh : holdsB r ch = true) : bndP r l r.ps.length ≤ costL r ch :=
  weak_dual hl (fun x h => (hx x h).1) (fun i => by unfold ind; split <;> simp) (fun p hp => by have := holdsB_iff.1 hh p (by omega); omega)
theorem zw_st' : ∀ i, 0 ≤ zw.1 i ∧ zw.1 i ≤ 1 := fun i => by simp [zw, zf]
structure Best (r : Rd) (c : List Int) (n : Int) (pr : List Int) : Prop where
  ch : okCh r c = 0
  hold : holdsB r c = true
  cost : costL r c = n
  prX : OkX pr
  prL : (pr.length : Int) = r.pl
  bound : bndP r pr r.ps.length = n
/-- THE LAW: there is a choice that holds, with prices whose bound it costs, and it is what is found; or a place cannot be lit often enough. -/
theorem street_law {r : Rd} (hr : OkR r) : ∃ (m : Nat) (b : Bool) (w : W) (f : Nat → Int), waysR r m (r.de.toNat + 1) zw zf = some (b, w, f) ∧ (∀ i, 0 ≤ w.1 i ∧ w.1 i ≤ 1) ∧
    (b = true → Best r (choP w.1 r.ps.length) (costP r w.1 r.ps.length) (priL f r.pl.toNat)) ∧ (b = false → ∀ ch, holdsB r ch = false) := by
  have p1 := hr.p1
  obtain ⟨m, ⟨b, w, f⟩, h1, h2, h3⟩ := ways_all hr
  refine ⟨m, b, w, f, h1, waysR_st' h1 zw_st', fun hb => ?_, fun hb ch => ?_⟩
  · obtain ⟨⟨N, hw⟩, a2, a3, a4⟩ := h2 hb
    have hO : Opt r w f := ⟨⟨N, hw⟩, a2, a3, a4⟩
    have hind : ∀ i, i < r.ps.length → ind (choP w.1 r.ps.length) i = w.1 i := fun i hi => ind_choP hw.st _ hi
    refine ⟨okCh_choP hr _, holdsB_iff.2 (fun p hp => ?_), costP_ext _ hind, hO.prices hr, by rw [priL_len]; omega, (hO.cost hr).symm⟩
    rw [litP_exti _ hind]
    have this : netw r w p = r.de + 1 := a2 p hp
    have hb0 : 0 ≤ w.2 p := hw.b0 p
    simp only [netw] at this
    omega
  · obtain ⟨p, hp, hc⟩ := h3 hb
    cases hh : holdsB r ch with
    | false => rfl
    | true =>
      have := holdsB_iff.1 hh p hp
      have hle : ∀ m, litP r (ind ch) m p ≤ litP r one' m p := by
        intro m
        induction m with
        | zero => exact Int.le_refl _
        | succ m ih =>
          simp only [litP]
          have := ind_bnd ch m
          split
          · simp only [one']; omega
          · omega
      have := hle r.ps.length
      omega
end Go.Proofs.YtfgdbeijjbijnaaGreatDoor

/- Streets whose pence are carried over: the plain law. -/
set_option linter.unusedSimpArgs false
set_option linter.unusedVariables false
set_option maxRecDepth 100000
namespace Go.Proofs.YtfgdbeijjbijnaaGreatDoor
open Go Go.Abs Go.Proofs

theorem street_told {r : Rd} (hr : OkR r) : ∃ (b : Bool) (c pr : List Int) (n : Int), ACall Tryz.prog 30 [roadV r] GH (one (.tup [ints c, I n, I (if b then 0 else 18)]) GH) ∧
    ACall Tryz.prog 35 [roadV r] GH (one (.tup [ints pr, I (if b then 0 else 18)]) GH) ∧ (b = true → Best r c n pr) ∧ (b = false → ∀ ch, holdsB r ch = false) := by
  obtain ⟨m, b, w, f, h1, h2, h3, h4⟩ := street_law hr
  refine ⟨b, _, _, _, cheapest27 r m b w f hr h1 h2, prices31 r m b w f hr h1, fun hb => ?_, h4⟩
  subst hb
  simpa using h3 rfl
end Go.Proofs.YtfgdbeijjbijnaaGreatDoor

/- Units: whole numbers carried over by a whole number. -/
set_option linter.unusedSimpArgs false
set_option linter.unusedVariables false
set_option maxRecDepth 100000
namespace Go.Proofs.YtfgdbeijjbijnaaGreatDoor
open Go Go.Abs Go.Proofs
def kp234 : List (Nat × List Nat) := [(0, [0, 1]), (1, [0, 1, 7, 8]), (2, [0, 1, 7, 8, 9]), (3, [0, 1, 5, 7, 8]), (4, [0, 1, 5, 7, 8, 16]), (5, [4]), (6, [0, 1, 7, 8]), (7, [4])]
theorem lk234 : lookK kp234 0 = some [0, 1] ∧ lookK kp234 1 = some [0, 1, 7, 8] ∧ lookK kp234 2 = some [0, 1, 7, 8, 9] ∧ lookK kp234 3 = some [0, 1, 5, 7, 8] ∧ lookK kp234 4 = some [0, 1, 5, 7, 8, 16] ∧ lookK kp234 5 = some [4] ∧ lookK kp234 6 = some [0, 1, 7, 8] ∧ lookK kp234 7 = some [4] := ⟨rfl, rfl, rfl, rfl, rfl, rfl, rfl, rfl⟩
def kp152 : List (Nat × List Nat) := [(0, [0, 1]), (1, [4])]
theorem lk152 : lookK kp152 0 = some [0, 1] ∧ lookK kp152 1 = some [4] := ⟨rfl, rfl⟩
def kp378 : List (Nat × List Nat) := [(0, [0, 1, 2]), (1, [4])]
theorem lk378 : lookK kp378 0 = some [0, 1, 2] ∧ lookK kp378 1 = some [4] := ⟨rfl, rfl⟩
def kp313 : List (Nat × List Nat) := [(0, [2, 3, 4]), (1, [6])]
theorem lk313 : lookK kp313 0 = some [2, 3, 4] ∧ lookK kp313 1 = some [6] := ⟨rfl, rfl⟩
def kp314 : List (Nat × List Nat) := [(0, [0, 1]), (1, [0, 1, 6]), (2, [0, 1]), (3, [4])]
theorem lk314 : lookK kp314 0 = some [0, 1] ∧ lookK kp314 1 = some [0, 1, 6] ∧ lookK kp314 2 = some [0, 1] ∧ lookK kp314 3 = some [4] := ⟨rfl, rfl, rfl, rfl⟩
def kp243 : List (Nat × List Nat) := [(0, [1]), (1, [2])]
theorem lk243 : lookK kp243 0 = some [1] ∧ lookK kp243 1 = some [2] := ⟨rfl, rfl⟩
def kp244 : List (Nat × List Nat) := [(0, [2, 3]), (1, [4])]
theorem lk244 : lookK kp244 0 = some [2, 3] ∧ lookK kp244 1 = some [4] := ⟨rfl, rfl⟩
def kp169 : List (Nat × List Nat) := [(0, [1]), (1, [19]), (2, [2]), (3, [2])]
theorem lk169 : lookK kp169 0 = some [1] ∧ lookK kp169 1 = some [19] ∧ lookK kp169 2 = some [2] ∧ lookK kp169 3 = some [2] := ⟨rfl, rfl, rfl, rfl⟩
def kp246 : List (Nat × List Nat) := [(0, [0, 2]), (1, [0, 2, 4]), (2, [2, 4, 11, 12, 13]), (3, [2, 4, 11, 12, 13, 14]), (4, [2, 4, 6, 11, 12, 13]), (5, [2, 4, 7, 8, 11, 12, 13]), (6, [2, 4, 7, 8, 9, 11, 12, 13]), (7, [2, 4, 11, 12, 13]), (8, [2, 4, 11, 12, 13, 39]), (9, [2, 3]), (10, [2, 4, 11, 12, 13]), (11, [2, 3])]
theorem lk246 : lookK kp246 0 = some [0, 2] ∧ lookK kp246 1 = some [0, 2, 4] ∧ lookK kp246 2 = some [2, 4, 11, 12, 13] ∧ lookK kp246 3 = some [2, 4, 11, 12, 13, 14] ∧ lookK kp246 4 = some [2, 4, 6, 11, 12, 13] ∧ lookK kp246 5 = some [2, 4, 7, 8, 11, 12, 13] ∧ lookK kp246 6 = some [2, 4, 7, 8, 9, 11, 12, 13] ∧ lookK kp246 7 = some [2, 4, 11, 12, 13] ∧ lookK kp246 8 = some [2, 4, 11, 12, 13, 39] ∧ lookK kp246 9 = some [2, 3] ∧ lookK kp246 10 = some [2, 4, 11, 12, 13] ∧ lookK kp246 11 = some [2, 3] := ⟨rfl, rfl, rfl, rfl, rfl, rfl, rfl, rfl, rfl, rfl, rfl, rfl⟩
def kp172 : List (Nat × List Nat) := [(0, [2, 3, 4]), (1, [2, 3, 4, 6, 7]), (2, [4, 6, 7, 8, 9]), (3, [4, 5])]
theorem lk172 : lookK kp172 0 = some [2, 3, 4] ∧ lookK kp172 1 = some [2, 3, 4, 6, 7] ∧ lookK kp172 2 = some [4, 6, 7, 8, 9] ∧ lookK kp172 3 = some [4, 5] := ⟨rfl, rfl, rfl, rfl⟩
def kp171 : List (Nat × List Nat) := [(0, [1]), (1, [2])]
theorem lk171 : lookK kp171 0 = some [1] ∧ lookK kp171 1 = some [2] := ⟨rfl, rfl⟩
def kp245 : List (Nat × List Nat) := [(0, [0, 1]), (1, [0, 1, 7, 8]), (2, [0, 1, 7, 8, 9]), (3, [0, 1, 5, 7, 8]), (4, [0, 1, 5, 7, 8, 16]), (5, [4]), (6, [0, 1, 7, 8]), (7, [4])]
theorem lk245 : lookK kp245 0 = some [0, 1] ∧ lookK kp245 1 = some [0, 1, 7, 8] ∧ lookK kp245 2 = some [0, 1, 7, 8, 9] ∧ lookK kp245 3 = some [0, 1, 5, 7, 8] ∧ lookK kp245 4 = some [0, 1, 5, 7, 8, 16] ∧ lookK kp245 5 = some [4] ∧ lookK kp245 6 = some [0, 1, 7, 8] ∧ lookK kp245 7 = some [4] := ⟨rfl, rfl, rfl, rfl, rfl, rfl, rfl, rfl⟩

set_option maxHeartbeats 1000000 in
theorem idx234 (l : List Int) (g : Nat) (caps : List C) (p : Int → Bool) (H : List AB) (hH : H.all (AB.low H.length) = true) (hcaps : C.lowL H.length caps = true)
    (hp : ∀ x ∈ l, ACall Tryz.prog g (I x :: caps.map .c) H (one (B (p x)) H)) : ACall Tryz.prog 234 [.c (.d (.sl (l.map iD))), .c (.fn (.func g) caps)] H (one (I (idxOf p l)) H) := by
  refine acall_at (X := tx) (nt := 19) (rs := [.tmp 4]) Tryz.func234 rfl rfl rfl rfl mo (by kernel_rfl) rfl hH (fun hf => ?_)
  have hfit : l.length ≤ 140737488355328 := by
    have h : Fit _ := hf (.c (.d (.sl (l.map iD)))) (by simp)
    have := h.len; simpa [lim] using this
  simp (config := { maxSteps := 2000000 }) only [go_sem, reduceIte, Nat.reduceEqDiff, Nat.reduceAdd, Nat.reduceLT, Nat.reduceLeDiff, Nat.reduceBEq, Nat.reduceMul, Nat.reduceSub, Nat.reduceDiv, Int.reduceNeg, Int.reduceLT, Int.reduceLE, Int.reduceEq, Int.reduceToNat, lk234, lk152, lk378, lk313, lk314, lk243, lk244, lk169, lk246, lk172, lk171, lk245]
  refine go_loop (fun i : Nat => { slots := [(0, .c (.d (.sl (l.map iD)))), (1, .c (.fn (.func g) caps)), (7, I l.length), (8, I i)], heap := H, marks := [] }) (fun i => i ≤ l.length ∧ ∀ j x, j < i → l[j]? = some x → p x = false) (fun i => l.length - i) 0 mo (by kernel_rfl) ?_ ⟨Nat.zero_le _, by intro j r h; omega⟩ ?_
  · refine ent_weaken [] (by simp) rfl (Nat.le_refl _) hH rfl ?_
    simp (config := { maxSteps := 2000000 }) only [go_sem, reduceIte, Nat.reduceEqDiff, Nat.reduceAdd, Nat.reduceLT, Nat.reduceLeDiff, Nat.reduceBEq, Nat.reduceMul, Nat.reduceSub, Nat.reduceDiv, Int.reduceNeg, Int.reduceLT, Int.reduceLE, Int.reduceEq, Int.reduceToNat, lk234, lk152, lk378, lk313, lk314, lk243, lk244, lk169, lk246, lk172, lk171, lk245, hcaps]
    all_goals first | exact .refl _ | exact ⟨.refl _, .refl _⟩ | exact ⟨.refl _, .refl _, .refl _⟩ | exact ⟨.refl _, _, rfl⟩ | exact ⟨_, rfl⟩ | exact ⟨.refl _, [], by simp⟩ | exact ⟨[], by simp⟩
  rintro i ⟨hi, hall⟩
  simp (config := { maxSteps := 2000000 }) only [go_sem, reduceIte, Nat.reduceEqDiff, Nat.reduceAdd, Nat.reduceLT, Nat.reduceLeDiff, Nat.reduceBEq, Nat.reduceMul, Nat.reduceSub, Nat.reduceDiv, Int.reduceNeg, Int.reduceLT, Int.reduceLE, Int.reduceEq, Int.reduceToNat, lk234, lk152, lk378, lk313, lk314, lk243, lk244, lk169, lk246, lk172, lk171, lk245]
  refine go_if (fun h => ?_) (fun h => ?_)
  · have hlt : i < l.length := by simpa using h
    obtain ⟨x, hx⟩ := get_of_lt hlt
    simp (config := { maxSteps := 2000000 }) only [go_sem, reduceIte, Nat.reduceEqDiff, Nat.reduceAdd, Nat.reduceLT, Nat.reduceLeDiff, Nat.reduceBEq, Nat.reduceMul, Nat.reduceSub, Nat.reduceDiv, Int.reduceNeg, Int.reduceLT, Int.reduceLE, Int.reduceEq, Int.reduceToNat, lk234, lk152, lk378, lk313, lk314, lk243, lk244, lk169, lk246, lk172, lk171, lk245, hx, iD]
    refine ⟨by simp [hlt], ?_⟩
    refine aops_at (hp x (List.mem_of_getElem? hx)) rfl rfl (by first | exact wk_refls _ | (repeat constructor)) ?_
    simp (config := { maxSteps := 2000000 }) only [go_sem, reduceIte, Nat.reduceEqDiff, Nat.reduceAdd, Nat.reduceLT, Nat.reduceLeDiff, Nat.reduceBEq, Nat.reduceMul, Nat.reduceSub, Nat.reduceDiv, Int.reduceNeg, Int.reduceLT, Int.reduceLE, Int.reduceEq, Int.reduceToNat, lk234, lk152, lk378, lk313, lk314, lk243, lk244, lk169, lk246, lk172, lk171, lk245]
    refine go_if (fun hb => ?_) (fun hb => ?_)
    · simp (config := { maxSteps := 2000000 }) only [go_sem, reduceIte, Nat.reduceEqDiff, Nat.reduceAdd, Nat.reduceLT, Nat.reduceLeDiff, Nat.reduceBEq, Nat.reduceMul, Nat.reduceSub, Nat.reduceDiv, Int.reduceNeg, Int.reduceLT, Int.reduceLE, Int.reduceEq, Int.reduceToNat, lk234, lk152, lk378, lk313, lk314, lk243, lk244, lk169, lk246, lk172, lk171, lk245]
      have e : idxOf p l = i := idxOf_at hall hx hb
      rw [e]
      all_goals first | exact .refl _ | exact ⟨.refl _, .refl _⟩ | exact ⟨.refl _, .refl _, .refl _⟩ | exact ⟨.refl _, _, rfl⟩ | exact ⟨_, rfl⟩ | exact ⟨.refl _, [], by simp⟩ | exact ⟨[], by simp⟩
    · simp (config := { maxSteps := 2000000 }) only [go_sem, reduceIte, Nat.reduceEqDiff, Nat.reduceAdd, Nat.reduceLT, Nat.reduceLeDiff, Nat.reduceBEq, Nat.reduceMul, Nat.reduceSub, Nat.reduceDiv, Int.reduceNeg, Int.reduceLT, Int.reduceLE, Int.reduceEq, Int.reduceToNat, lk234, lk152, lk378, lk313, lk314, lk243, lk244, lk169, lk246, lk172, lk171, lk245, wr_succ hlt hfit]
      refine ⟨i + 1, ⟨hlt, upto_succ hall hx hb⟩, by omega, ?_⟩
      refine ent_weaken [] (by simp) rfl (Nat.le_refl _) hH rfl ?_
      simp (config := { maxSteps := 2000000 }) only [go_sem, reduceIte, Nat.reduceEqDiff, Nat.reduceAdd, Nat.reduceLT, Nat.reduceLeDiff, Nat.reduceBEq, Nat.reduceMul, Nat.reduceSub, Nat.reduceDiv, Int.reduceNeg, Int.reduceLT, Int.reduceLE, Int.reduceEq, Int.reduceToNat, lk234, lk152, lk378, lk313, lk314, lk243, lk244, lk169, lk246, lk172, lk171, lk245, hcaps]
  · have hi' : i = l.length := by simp at h; omega
    have e : idxOf p l = -1 := idxOf_none (fun j x hj hx => hall j x (by omega) hx)
    simp (config := { maxSteps := 2000000 }) only [go_sem, reduceIte, Nat.reduceEqDiff, Nat.reduceAdd, Nat.reduceLT, Nat.reduceLeDiff, Nat.reduceBEq, Nat.reduceMul, Nat.reduceSub, Nat.reduceDiv, Int.reduceNeg, Int.reduceLT, Int.reduceLE, Int.reduceEq, Int.reduceToNat, lk234, lk152, lk378, lk313, lk314, lk243, lk244, lk169, lk246, lk172, lk171, lk245]
    rw [e]
    all_goals first | exact .refl _ | exact ⟨.refl _, .refl _⟩ | exact ⟨.refl _, .refl _, .refl _⟩ | exact ⟨.refl _, _, rfl⟩ | exact ⟨_, rfl⟩ | exact ⟨.refl _, [], by simp⟩ | exact ⟨[], by simp⟩
set_option maxHeartbeats 1000000 in
theorem has152 (l : List Int) (g : Nat) (caps : List C) (p : Int → Bool) (H : List AB) (hH : H.all (AB.low H.length) = true) (hcaps : C.lowL H.length caps = true)
    (hp : ∀ x ∈ l, ACall Tryz.prog g (I x :: caps.map .c) H (one (B (p x)) H)) : ACall Tryz.prog 152 [.c (.d (.sl (l.map iD))), .c (.fn (.func g) caps)] H (one (B (l.any p)) H) := by
  refine acall_at (X := tx) (nt := 9) (rs := [.tmp 4]) Tryz.func152 rfl rfl rfl rfl mo (by kernel_rfl) rfl hH (fun hf => ?_)
  simp (config := { maxSteps := 2000000 }) only [go_sem, reduceIte, Nat.reduceEqDiff, Nat.reduceAdd, Nat.reduceLT, Nat.reduceLeDiff, Nat.reduceBEq, Nat.reduceMul, Nat.reduceSub, Nat.reduceDiv, Int.reduceNeg, Int.reduceLT, Int.reduceLE, Int.reduceEq, Int.reduceToNat, lk234, lk152, lk378, lk313, lk314, lk243, lk244, lk169, lk246, lk172, lk171, lk245]
  refine aops_at (idx234 l g caps p H hH hcaps hp) rfl rfl (by first | exact wk_refls _ | (repeat constructor)) ?_
  simp (config := { maxSteps := 2000000 }) only [go_sem, reduceIte, Nat.reduceEqDiff, Nat.reduceAdd, Nat.reduceLT, Nat.reduceLeDiff, Nat.reduceBEq, Nat.reduceMul, Nat.reduceSub, Nat.reduceDiv, Int.reduceNeg, Int.reduceLT, Int.reduceLE, Int.reduceEq, Int.reduceToNat, lk234, lk152, lk378, lk313, lk314, lk243, lk244, lk169, lk246, lk172, lk171, lk245]
  rw [idxOf_any]
  all_goals first | exact .refl _ | exact ⟨.refl _, .refl _⟩ | exact ⟨.refl _, .refl _, .refl _⟩ | exact ⟨.refl _, _, rfl⟩ | exact ⟨_, rfl⟩ | exact ⟨.refl _, [], by simp⟩ | exact ⟨[], by simp⟩
end Go.Proofs.YtfgdbeijjbijnaaGreatDoor

/- Units: Carry at whole numbers. -/
set_option linter.unusedSimpArgs false
set_option linter.unusedVariables false
set_option maxRecDepth 100000
namespace Go.Proofs.YtfgdbeijjbijnaaGreatDoor
open Go Go.Abs Go.Proofs
end Go.Proofs.YtfgdbeijjbijnaaGreatDoor

