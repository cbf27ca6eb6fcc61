/- Cheapest. -/
import Derived.Test.YteamgbndnfjoaaaDoorS13
import Derived.Test.YteamgbndnfjoaaaDoorS10
import Derived.Test.YteamgbndnfjoaaaDoorS12
set_option linter.unusedSimpArgs false
set_option linter.unusedVariables false
set_option maxRecDepth 100000
namespace Go.Proofs.YteamgbndnfjoaaaDoor
open Go Go.Abs Go.Proofs
def kp27 : List (Nat × List Nat) := [(0, [1]), (1, [1, 5]), (2, [1, 5, 12]), (3, [2, 3, 4]), (4, [6]), (5, [6, 8]), (6, [6, 22]), (7, [2, 3, 4]), (8, [2, 3, 4])]
theorem lk27 : lookK kp27 0 = some [1] ∧ lookK kp27 1 = some [1, 5] ∧ lookK kp27 2 = some [1, 5, 12] ∧ lookK kp27 3 = some [2, 3, 4] ∧ lookK kp27 4 = some [6] ∧ lookK kp27 5 = some [6, 8] ∧ lookK kp27 6 = some [6, 22] ∧ lookK kp27 7 = some [2, 3, 4] ∧ lookK kp27 8 = some [2, 3, 4] := ⟨rfl, rfl, rfl, rfl, rfl, rfl, rfl, rfl, rfl⟩

def GH : List AB := [.gl 0 noneD]
set_option maxHeartbeats 2000000 in
theorem cheapest27_bad (r : Rd) (h : okRoad r ≠ 0) : ACall Tryd.prog 27 [roadV r] GH (one (.tup [ints [], I 0, I (okRoad r)]) GH) := by
  refine acall_atE (bad := []) (kp := kp27) (X := tx) (nt := 27) (rs := [.tmp 2, .tmp 3, .tmp 4]) Tryd.func27 rfl rfl rfl rfl mo (by kernel_rfl) rfl rfl (fun hf => ?_)
  simp (config := { maxSteps := 2000000 }) only [go_sem, reduceIte, Nat.reduceEqDiff, Nat.reduceAdd, Nat.reduceLT, Nat.reduceLeDiff, Nat.reduceBEq, Nat.reduceMul, Nat.reduceSub, Nat.reduceDiv, Int.reduceNeg, Int.reduceLT, Int.reduceLE, Int.reduceEq, Int.reduceToNat, lk27, roadV, roadC, GH]
  refine aops_pure' (checkRoad19 r) rfl rfl (by first | exact wk_refls _ | (repeat constructor)) ?_
  simp (config := { maxSteps := 2000000 }) only [go_sem, reduceIte, Nat.reduceEqDiff, Nat.reduceAdd, Nat.reduceLT, Nat.reduceLeDiff, Nat.reduceBEq, Nat.reduceMul, Nat.reduceSub, Nat.reduceDiv, Int.reduceNeg, Int.reduceLT, Int.reduceLE, Int.reduceEq, Int.reduceToNat, lk27, h, ints, List.map_nil]
  try exact ⟨_, rfl⟩
def zw : W := (zf, zf)
set_option maxHeartbeats 4000000 in
theorem cheapest27 (r : Rd) (m : Nat) (b : Bool) (w' : W) (far : Nat → Int) (hr : OkR r) (hw : waysR r m (r.de.toNat + 1) zw zf = some (b, w', far)) (hst : ∀ i, 0 ≤ w'.1 i ∧ w'.1 i ≤ 1) :
    ACall Tryd.prog 27 [roadV r] GH (one (.tup [ints (if b then choP w'.1 r.ps.length else []), I (if b then costP r w'.1 r.ps.length else 0), I (if b then 0 else 18)]) GH) := by
  refine acall_atE (bad := []) (kp := kp27) (X := tx) (nt := 27) (rs := [.tmp 2, .tmp 3, .tmp 4]) Tryd.func27 rfl rfl rfl rfl mo (by kernel_rfl) rfl rfl (fun hf => ?_)
  have hokr := hr.zero
  simp (config := { maxSteps := 2000000 }) only [go_sem, reduceIte, Nat.reduceEqDiff, Nat.reduceAdd, Nat.reduceLT, Nat.reduceLeDiff, Nat.reduceBEq, Nat.reduceMul, Nat.reduceSub, Nat.reduceDiv, Int.reduceNeg, Int.reduceLT, Int.reduceLE, Int.reduceEq, Int.reduceToNat, lk27, roadV, roadC, GH]
  refine aops_pure' (checkRoad19 r) rfl rfl (by first | exact wk_refls _ | (repeat constructor)) ?_
  simp (config := { maxSteps := 2000000 }) only [go_sem, reduceIte, Nat.reduceEqDiff, Nat.reduceAdd, Nat.reduceLT, Nat.reduceLeDiff, Nat.reduceBEq, Nat.reduceMul, Nat.reduceSub, Nat.reduceDiv, Int.reduceNeg, Int.reduceLT, Int.reduceLE, Int.reduceEq, Int.reduceToNat, lk27, hokr]
  have hn := net53p r [.gl 0 noneD, .cells (roadC r)]
  simp only [roadV, roadC, List.cons_append, List.nil_append] at hn
  refine aops_at (hn) rfl rfl (by first | exact wk_refls _ | (repeat constructor)) ?_
  simp (config := { maxSteps := 2000000 }) only [go_sem, reduceIte, Nat.reduceEqDiff, Nat.reduceAdd, Nat.reduceLT, Nat.reduceLeDiff, Nat.reduceBEq, Nat.reduceMul, Nat.reduceSub, Nat.reduceDiv, Int.reduceNeg, Int.reduceLT, Int.reduceLE, Int.reduceEq, Int.reduceToNat, lk27]
  have hs := solve54 r zw m b w' far hr (fun i => by simp [zw, zf]) hw
  simp only [HS, roadC, zw] at hs
  refine aops_at (hs) rfl rfl (by first | exact wk_refls _ | (repeat constructor)) ?_
  have hz : List.replicate 41 (C.d (D.int .i64 0)) = numsC 41 zf := by rfl
  simp (config := { maxSteps := 2000000 }) only [go_sem, reduceIte, Nat.reduceEqDiff, Nat.reduceAdd, Nat.reduceLT, Nat.reduceLeDiff, Nat.reduceBEq, Nat.reduceMul, Nat.reduceSub, Nat.reduceDiv, Int.reduceNeg, Int.reduceLT, Int.reduceLE, Int.reduceEq, Int.reduceToNat, lk27, set_all, hz, numsC_len]
  cases b with
  | false =>
    simp (config := { maxSteps := 2000000 }) only [go_sem, reduceIte, Nat.reduceEqDiff, Nat.reduceAdd, Nat.reduceLT, Nat.reduceLeDiff, Nat.reduceBEq, Nat.reduceMul, Nat.reduceSub, Nat.reduceDiv, Int.reduceNeg, Int.reduceLT, Int.reduceLE, Int.reduceEq, Int.reduceToNat, lk27, ints, List.map_nil]
    try exact ⟨_, rfl⟩
  | true =>
    have h1 := (choice55 r w' hr).frame (HS_low _ _ _) rfl rfl [AB.cells (numsC 41 far)]
    have h2 := (cost44p r w' hr hst).frame (HS_low _ _ _) rfl rfl [AB.cells (numsC 41 far)]
    simp only [HS, roadC, List.cons_append, List.nil_append] at h1 h2
    simp (config := { maxSteps := 2000000 }) only [go_sem, reduceIte, Nat.reduceEqDiff, Nat.reduceAdd, Nat.reduceLT, Nat.reduceLeDiff, Nat.reduceBEq, Nat.reduceMul, Nat.reduceSub, Nat.reduceDiv, Int.reduceNeg, Int.reduceLT, Int.reduceLE, Int.reduceEq, Int.reduceToNat, lk27]
    refine aops_at (h1) rfl rfl (by first | exact wk_refls _ | (repeat constructor)) ?_
    simp (config := { maxSteps := 2000000 }) only [go_sem, reduceIte, Nat.reduceEqDiff, Nat.reduceAdd, Nat.reduceLT, Nat.reduceLeDiff, Nat.reduceBEq, Nat.reduceMul, Nat.reduceSub, Nat.reduceDiv, Int.reduceNeg, Int.reduceLT, Int.reduceLE, Int.reduceEq, Int.reduceToNat, lk27]
    refine aops_at (h2) rfl rfl (by first | exact wk_refls _ | (repeat constructor)) ?_
    simp (config := { maxSteps := 2000000 }) only [go_sem, reduceIte, Nat.reduceEqDiff, Nat.reduceAdd, Nat.reduceLT, Nat.reduceLeDiff, Nat.reduceBEq, Nat.reduceMul, Nat.reduceSub, Nat.reduceDiv, Int.reduceNeg, Int.reduceLT, Int.reduceLE, Int.reduceEq, Int.reduceToNat, lk27, ints]
    try exact ⟨_, rfl⟩
end Go.Proofs.YteamgbndnfjoaaaDoor
/- Prices. -/
set_option linter.unusedSimpArgs false
set_option linter.unusedVariables false
set_option maxRecDepth 100000
namespace Go.Proofs.YteamgbndnfjoaaaDoor
open Go Go.Abs Go.Proofs
def kp31 : List (Nat × List Nat) := [(0, [1]), (1, [1, 4]), (2, [1, 4, 12]), (3, [2, 3]), (4, [1, 5, 6]), (5, [1, 5, 21]), (6, [2, 3]), (7, [1, 5, 7]), (8, [5, 7, 23, 24]), (9, [5, 7, 23, 24, 25]), (10, [5, 7, 8, 23, 24]), (11, [5, 7, 23, 24]), (12, [5, 7, 23, 24]), (13, [2, 3])]
theorem lk31 : lookK kp31 0 = some [1] ∧ lookK kp31 1 = some [1, 4] ∧ lookK kp31 2 = some [1, 4, 12] ∧ lookK kp31 3 = some [2, 3] ∧ lookK kp31 4 = some [1, 5, 6] ∧ lookK kp31 5 = some [1, 5, 21] ∧ lookK kp31 6 = some [2, 3] ∧ lookK kp31 7 = some [1, 5, 7] ∧ lookK kp31 8 = some [5, 7, 23, 24] ∧ lookK kp31 9 = some [5, 7, 23, 24, 25] ∧ lookK kp31 10 = some [5, 7, 8, 23, 24] ∧ lookK kp31 11 = some [5, 7, 23, 24] ∧ lookK kp31 12 = some [5, 7, 23, 24] ∧ lookK kp31 13 = some [2, 3] := ⟨rfl, rfl, rfl, rfl, rfl, rfl, rfl, rfl, rfl, rfl, rfl, rfl, rfl, rfl⟩

def priL (far : Nat → Int) (n : Nat) : List Int := (List.range n).map fun k => wr .i64 (far (k + 1) - far k)
theorem priL_succ (far : Nat → Int) (n : Nat) : priL far (n + 1) = priL far n ++ [wr .i64 (far (n + 1) - far n)] := by simp [priL, List.range_succ]
theorem priL_len (far : Nat → Int) (n : Nat) : (priL far n).length = n := by simp [priL]
set_option maxHeartbeats 4000000 in
theorem prices31_bad (r : Rd) (h : okRoad r ≠ 0) : ACall Tryd.prog 31 [roadV r] GH (one (.tup [ints [], I (okRoad r)]) GH) := by
  refine acall_atE (bad := []) (kp := kp31) (X := tx) (nt := 40) (rs := [.tmp 2, .tmp 3]) Tryd.func31 rfl rfl rfl rfl mo (by kernel_rfl) rfl rfl (fun hf => ?_)
  simp (config := { maxSteps := 2000000 }) only [go_sem, reduceIte, Nat.reduceEqDiff, Nat.reduceAdd, Nat.reduceLT, Nat.reduceLeDiff, Nat.reduceBEq, Nat.reduceMul, Nat.reduceSub, Nat.reduceDiv, Int.reduceNeg, Int.reduceLT, Int.reduceLE, Int.reduceEq, Int.reduceToNat, lk31, roadV, roadC, GH]
  refine aops_pure' (checkRoad19 r) rfl rfl (by first | exact wk_refls _ | (repeat constructor)) ?_
  simp (config := { maxSteps := 2000000 }) only [go_sem, reduceIte, Nat.reduceEqDiff, Nat.reduceAdd, Nat.reduceLT, Nat.reduceLeDiff, Nat.reduceBEq, Nat.reduceMul, Nat.reduceSub, Nat.reduceDiv, Int.reduceNeg, Int.reduceLT, Int.reduceLE, Int.reduceEq, Int.reduceToNat, lk31, h, ints, List.map_nil]
  try exact ⟨_, rfl⟩
set_option maxHeartbeats 4000000 in
theorem prices31 (r : Rd) (m : Nat) (b : Bool) (w' : W) (far : Nat → Int) (hr : OkR r) (hw : waysR r m (r.de.toNat + 1) zw zf = some (b, w', far)) :
    ACall Tryd.prog 31 [roadV r] GH (one (.tup [ints (if b then priL far r.pl.toNat else []), I (if b then 0 else 18)]) GH) := by
  refine acall_atE (bad := []) (kp := kp31) (X := tx) (nt := 40) (rs := [.tmp 2, .tmp 3]) Tryd.func31 rfl rfl rfl rfl mo (by kernel_rfl) rfl rfl (fun hf => ?_)
  have hokr := hr.zero
  have p1 := hr.p1
  have p40 := hr.p40
  simp (config := { maxSteps := 2000000 }) only [go_sem, reduceIte, Nat.reduceEqDiff, Nat.reduceAdd, Nat.reduceLT, Nat.reduceLeDiff, Nat.reduceBEq, Nat.reduceMul, Nat.reduceSub, Nat.reduceDiv, Int.reduceNeg, Int.reduceLT, Int.reduceLE, Int.reduceEq, Int.reduceToNat, lk31, roadV, roadC, GH]
  refine aops_pure' (checkRoad19 r) rfl rfl (by first | exact wk_refls _ | (repeat constructor)) ?_
  simp (config := { maxSteps := 2000000 }) only [go_sem, reduceIte, Nat.reduceEqDiff, Nat.reduceAdd, Nat.reduceLT, Nat.reduceLeDiff, Nat.reduceBEq, Nat.reduceMul, Nat.reduceSub, Nat.reduceDiv, Int.reduceNeg, Int.reduceLT, Int.reduceLE, Int.reduceEq, Int.reduceToNat, lk31, hokr]
  have hn := net53p r [.gl 0 noneD, .cells (roadC r)]
  simp only [roadV, roadC, List.cons_append, List.nil_append] at hn
  refine aops_at (hn) rfl rfl (by first | exact wk_refls _ | (repeat constructor)) ?_
  simp (config := { maxSteps := 2000000 }) only [go_sem, reduceIte, Nat.reduceEqDiff, Nat.reduceAdd, Nat.reduceLT, Nat.reduceLeDiff, Nat.reduceBEq, Nat.reduceMul, Nat.reduceSub, Nat.reduceDiv, Int.reduceNeg, Int.reduceLT, Int.reduceLE, Int.reduceEq, Int.reduceToNat, lk31]
  have hs := solve54 r zw m b w' far hr (fun i => by simp [zw, zf]) hw
  simp only [HS, roadC, zw] at hs
  refine aops_at (hs) rfl rfl (by first | exact wk_refls _ | (repeat constructor)) ?_
  have hz : List.replicate 41 (C.d (D.int .i64 0)) = numsC 41 zf := by rfl
  simp (config := { maxSteps := 2000000 }) only [go_sem, reduceIte, Nat.reduceEqDiff, Nat.reduceAdd, Nat.reduceLT, Nat.reduceLeDiff, Nat.reduceBEq, Nat.reduceMul, Nat.reduceSub, Nat.reduceDiv, Int.reduceNeg, Int.reduceLT, Int.reduceLE, Int.reduceEq, Int.reduceToNat, lk31, set_all, hz, numsC_len]
  cases b with
  | false =>
    simp (config := { maxSteps := 2000000 }) only [go_sem, reduceIte, Nat.reduceEqDiff, Nat.reduceAdd, Nat.reduceLT, Nat.reduceLeDiff, Nat.reduceBEq, Nat.reduceMul, Nat.reduceSub, Nat.reduceDiv, Int.reduceNeg, Int.reduceLT, Int.reduceLE, Int.reduceEq, Int.reduceToNat, lk31, ints, List.map_nil]
    try exact ⟨_, rfl⟩
  | true =>
    have gl := numsC_len 41 far
    have hlow : ∀ n, (HS r w' ++ [AB.cells (numsC 41 far), AB.grow n 1]).all (AB.low (HS r w' ++ [AB.cells (numsC 41 far), AB.grow n 1]).length) = true := fun n => by
      rw [List.all_append, HS_low]; simp only [List.all_cons, List.all_nil, AB.low, numsC_low, Bool.and_self]
    simp (config := { maxSteps := 2000000 }) only [go_sem, reduceIte, Nat.reduceEqDiff, Nat.reduceAdd, Nat.reduceLT, Nat.reduceLeDiff, Nat.reduceBEq, Nat.reduceMul, Nat.reduceSub, Nat.reduceDiv, Int.reduceNeg, Int.reduceLT, Int.reduceLE, Int.reduceEq, Int.reduceToNat, lk31]
    refine goE_loop (bad := []) (kp := kp31) (fun k : Nat => { slots := [(5, .c (.ptr 4 0)), (7, .c (.own 5 ((priL far k).map iD))), (23, I r.pl), (24, I k)], heap := HS r w' ++ [.cells (numsC 41 far), .grow k 1], marks := [] }) (fun k => k ≤ r.pl.toNat) (fun k => r.pl.toNat - k) 0 mo (by kernel_rfl) ?_ (Nat.zero_le _) ?_
    · refine Ent.trans (ent_own 7 1 rfl) ?_
      refine ent_weaken [] (by simp only [HS, List.append_nil, roadC]; rfl) rfl (show 1 ≤ 6 by decide) (hlow _) rfl ?_
      simp (config := { maxSteps := 2000000 }) only [go_sem, reduceIte, Nat.reduceEqDiff, Nat.reduceAdd, Nat.reduceLT, Nat.reduceLeDiff, Nat.reduceBEq, Nat.reduceMul, Nat.reduceSub, Nat.reduceDiv, Int.reduceNeg, Int.reduceLT, Int.reduceLE, Int.reduceEq, Int.reduceToNat, lk31, HS, priL, List.range_zero, List.map_nil]
      exact .refl _
    rintro k hk
    simp (config := { maxSteps := 2000000 }) only [go_sem, reduceIte, Nat.reduceEqDiff, Nat.reduceAdd, Nat.reduceLT, Nat.reduceLeDiff, Nat.reduceBEq, Nat.reduceMul, Nat.reduceSub, Nat.reduceDiv, Int.reduceNeg, Int.reduceLT, Int.reduceLE, Int.reduceEq, Int.reduceToNat, lk31, HS, roadC]
    refine goE_if (fun h => ?_) (fun h => ?_)
    · have hlt : k < r.pl.toNat := by simp only [decide_eq_true_eq] at h; omega
      have g1 := numsC_get far (j := k) (n := 41) (by omega)
      have g2 := numsC_get far (j := k + 1) (n := 41) (by omega)
      have w1 := wr_succ hlt (show r.pl.toNat ≤ 140737488355328 by omega)
      have c1 : (decide ((0 : Int) ≤ ((k + 1 : Nat) : Int)) && decide (((k + 1 : Nat) : Int) < ((41 : Nat) : Int))) = true := by rw [decide_eq_true (by omega), decide_eq_true (by omega)]; rfl
      have c2 : (decide ((0 : Int) ≤ (k : Int)) && decide ((k : Int) < ((41 : Nat) : Int))) = true := by rw [decide_eq_true (by omega), decide_eq_true (by omega)]; rfl
      have c3 : decide (k + 1 + 1 ≤ 41) = true := decide_eq_true (by omega)
      have c4 : decide (k + 1 ≤ 41) = true := decide_eq_true (by omega)
      have hpl := priL_len far k
      simp (config := { maxSteps := 2000000 }) only [go_sem, reduceIte, Nat.reduceEqDiff, Nat.reduceAdd, Nat.reduceLT, Nat.reduceLeDiff, Nat.reduceBEq, Nat.reduceMul, Nat.reduceSub, Nat.reduceDiv, Int.reduceNeg, Int.reduceLT, Int.reduceLE, Int.reduceEq, Int.reduceToNat, lk31, gl, g1, g2, w1, c1, c2, c3, c4, Nat.mul_one, bound, iD, hpl, fillC, zc, List.replicate_succ, List.replicate_zero, List.flatten_cons, List.flatten_nil, toDs, toD, chunk, srcRows, List.all_cons, List.all_nil, List.all_map, Function.comp_def, List.take_nil, List.drop_nil, List.drop_one, List.tail_cons, lim]
      refine ⟨decide_eq_true (by omega), decide_eq_true (by omega), by simp; omega, k + 1, by omega, by omega, ?_⟩
      refine ent_weaken [] (by simp only [HS, List.append_nil, roadC, List.cons_append, List.nil_append]) rfl (show 1 ≤ 6 by decide) (hlow _) rfl ?_
      simp (config := { maxSteps := 2000000 }) only [go_sem, reduceIte, Nat.reduceEqDiff, Nat.reduceAdd, Nat.reduceLT, Nat.reduceLeDiff, Nat.reduceBEq, Nat.reduceMul, Nat.reduceSub, Nat.reduceDiv, Int.reduceNeg, Int.reduceLT, Int.reduceLE, Int.reduceEq, Int.reduceToNat, lk31, HS, priL_succ, List.map_append, iD]
      try exact .refl _
    · have hk' : k = r.pl.toNat := by simp only [decide_eq_false_iff_not] at h; omega
      subst hk'
      simp (config := { maxSteps := 2000000 }) only [go_sem, reduceIte, Nat.reduceEqDiff, Nat.reduceAdd, Nat.reduceLT, Nat.reduceLeDiff, Nat.reduceBEq, Nat.reduceMul, Nat.reduceSub, Nat.reduceDiv, Int.reduceNeg, Int.reduceLT, Int.reduceLE, Int.reduceEq, Int.reduceToNat, lk31, ints]
      try exact ⟨_, rfl⟩
end Go.Proofs.YteamgbndnfjoaaaDoor
/- The examples of the chapter: Works. -/
set_option linter.unusedSimpArgs false
set_option linter.unusedVariables false
set_option maxRecDepth 100000
namespace Go.Proofs.YteamgbndnfjoaaaDoor
open Go Go.Abs Go.Proofs

theorem pure_to {f : FuncId} {a : List V} {r r' : V} (h : Pure Tryd.prog f a r) (e : r = r') : Pure Tryd.prog f a r' := e ▸ h
theorem pathR_st : ∀ {n : Nat} {a : Int} {es : List (Int × Stp)} {w : W} {x : Bool × W}, pathR n a es w = some x → (∀ i, 0 ≤ w.1 i ∧ w.1 i ≤ 1) → ∀ i, 0 ≤ x.2.1 i ∧ x.2.1 i ≤ 1
  | 0, a, es, w, x, h, _ => by cases h
  | n + 1, a, es, w, x, h, hw => by
    rw [pathR] at h
    split at h
    · cases h; exact hw
    · split at h
      · cases h; exact hw
      · exact pathR_st h (takeS_st hw)
theorem waysR_st {r : Rd} {m : Nat} : ∀ {k : Nat} {w : W} {far : Nat → Int} {x : Bool × W × (Nat → Int)}, waysR r m k w far = some x → (∀ i, 0 ≤ w.1 i ∧ w.1 i ≤ 1) → ∀ i, 0 ≤ x.2.1.1 i ∧ x.2.1.1 i ≤ 1
  | 0, w, far, x, h, hw => by cases h; exact hw
  | k + 1, w, far, x, h, hw => by
    rw [waysR] at h
    split at h
    · cases h
    split at h
    · cases h; exact hw
    split at h
    · cases h
    · rename_i hp; cases h; exact pathR_st hp hw
    · rename_i hp; exact waysR_st h (pathR_st hp hw)
theorem zw_st : ∀ i, 0 ≤ zw.1 i ∧ zw.1 i ≤ 1 := fun i => by simp [zw, zf]
/-- What Cheapest and Prices do at a street, out of a run of the ways. -/
theorem cheap_of {r : Rd} {m : Nat} {c : List Int} {n e : Int} (hr : OkR r) (hs : (waysR r m (r.de.toNat + 1) zw zf).isSome = true)
    (hv : (waysR r m (r.de.toNat + 1) zw zf).map (fun x => (V.tup [ints (if x.1 then choP x.2.1.1 r.ps.length else []), I (if x.1 then costP r x.2.1.1 r.ps.length else 0), I (if x.1 then 0 else 18)])) = some (.tup [ints c, I n, I e])) :
    ACall Tryd.prog 27 [roadV r] GH (one (.tup [ints c, I n, I e]) GH) := by
  obtain ⟨⟨b, w', far⟩, hw⟩ := Option.isSome_iff_exists.1 hs
  rw [hw] at hv
  have := cheapest27 r m b w' far hr hw (waysR_st hw zw_st)
  rwa [show V.tup [ints (if b then choP w'.1 r.ps.length else []), I (if b then costP r w'.1 r.ps.length else 0), I (if b then 0 else 18)] = _ from Option.some.inj hv] at this
theorem prices_of {r : Rd} {m : Nat} {c : List Int} {e : Int} (hr : OkR r) (hs : (waysR r m (r.de.toNat + 1) zw zf).isSome = true)
    (hv : (waysR r m (r.de.toNat + 1) zw zf).map (fun x => (V.tup [ints (if x.1 then priL x.2.2 r.pl.toNat else []), I (if x.1 then 0 else 18)])) = some (.tup [ints c, I e])) :
    ACall Tryd.prog 31 [roadV r] GH (one (.tup [ints c, I e]) GH) := by
  obtain ⟨⟨b, w', far⟩, hw⟩ := Option.isSome_iff_exists.1 hs
  rw [hw] at hv
  have := prices31 r m b w' far hr hw
  rwa [show V.tup [ints (if b then priL far r.pl.toNat else []), I (if b then 0 else 18)] = _ from Option.some.inj hv] at this
theorem ok0 : OkR road0 := okRoad_ok (by kernel_rfl)
theorem ok1 : OkR road1 := okRoad_ok (by kernel_rfl)
theorem w_lit : Pure Tryd.prog 15 [roadV road0, ints [0, 1]] (.tup [ints [1, 2, 1, 1], I 0]) := pure_to (lit15 _ _) (by kernel_rfl)
theorem w_chk1 : Pure Tryd.prog 17 [roadV road0, ints [0, 2]] (.tup [I 9, I 0]) := pure_to (check17 _ _) (by kernel_rfl)
theorem w_chk2 : Pure Tryd.prog 17 [roadV road0, ints [1, 2]] (.tup [I 0, I 18]) := pure_to (check17 _ _) (by kernel_rfl)
theorem w_che0 : ACall Tryd.prog 27 [roadV road0] GH (one (.tup [ints [0, 2], I 9, I 0]) GH) := cheap_of (m := 9) ok0 (by kernel_rfl) (by kernel_rfl)
theorem w_che1 : ACall Tryd.prog 27 [roadV road1] GH (one (.tup [ints [0, 2, 3], I 19, I 0]) GH) := cheap_of (m := 9) ok1 (by kernel_rfl) (by kernel_rfl)
theorem w_pri : ACall Tryd.prog 31 [roadV road1] GH (one (.tup [ints [6, 0, 1, 3], I 0]) GH) := prices_of (m := 9) ok1 (by kernel_rfl) (by kernel_rfl)
theorem w_cpr : Pure Tryd.prog 29 [roadV road0, ints [5, 0, 0, 4]] (.tup [I 9, I 0]) := pure_to (checkPrices29 _ _) (by kernel_rfl)
theorem w_cdk : Pure Tryd.prog 22 [roadV road1, ints [0, 1, 2], I 0, ints [0]] (I 0) := pure_to (checkDark22 _ _ _ _) (by kernel_rfl)
theorem w_drk : Pure Tryd.prog 24 [roadV road1, ints [0, 1, 2]] (.tup [I 0, ints [0], I 0]) := pure_to (dark24 _ _) (by kernel_rfl)
theorem w_r1 : Pure Tryd.prog 18 [roadV road0, ints [0, 2]] (.tup [I 9, I 0]) := pure_to (check18 _ _) (by kernel_rfl)
theorem w_r2 : Pure Tryd.prog 18 [roadV road1, ints [0, 2, 3]] (.tup [I 19, I 0]) := pure_to (check18 _ _) (by kernel_rfl)
theorem w_r3 : Pure Tryd.prog 30 [roadV road1, ints [6, 0, 1, 3]] (.tup [I 19, I 0]) := pure_to (checkPrices30 _ _) (by kernel_rfl)
theorem w_r4 : Pure Tryd.prog 23 [roadV road1, ints [0, 1, 2], I 0, ints [0]] (I 0) := pure_to (checkDark23 _ _ _ _) (by kernel_rfl)
end Go.Proofs.YteamgbndnfjoaaaDoor
