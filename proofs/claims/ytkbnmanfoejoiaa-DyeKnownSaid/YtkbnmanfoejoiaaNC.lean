/- Dyes: the bench. -/
import Derived.Test.YtkbnmanfoejoiaaNB
import Derived.Test.YtkbnmanfoejoiaaAbsX
set_option linter.unusedSimpArgs false
set_option linter.unusedVariables false
set_option maxRecDepth 100000
namespace Go.Proofs.Ytkbnmanfoejoiaa
open Go Go.Abs Go.Proofs
def kp51 : List (Nat × List Nat) := [(0, [0]), (1, [2])]
theorem lk51 : lookK kp51 0 = some [0] ∧ lookK kp51 1 = some [2] := ⟨rfl, rfl⟩
def kp67 : List (Nat × List Nat) := [(0, []), (1, [0])]
theorem lk67 : lookK kp67 0 = some [] ∧ lookK kp67 1 = some [0] := ⟨rfl, rfl⟩
def kp68 : List (Nat × List Nat) := [(0, [0, 1, 5]), (1, [6])]
theorem lk68 : lookK kp68 0 = some [0, 1, 5] ∧ lookK kp68 1 = some [6] := ⟨rfl, rfl⟩
def kp69 : List (Nat × List Nat) := [(0, [1]), (1, [1, 3]), (2, [2])]
theorem lk69 : lookK kp69 0 = some [1] ∧ lookK kp69 1 = some [1, 3] ∧ lookK kp69 2 = some [2] := ⟨rfl, rfl, rfl⟩
def kp70 : List (Nat × List Nat) := [(0, [1]), (1, [2])]
theorem lk70 : lookK kp70 0 = some [1] ∧ lookK kp70 1 = some [2] := ⟨rfl, rfl⟩
def kp77 : List (Nat × List Nat) := [(0, [0, 4]), (1, [0, 4, 5]), (2, [0, 2, 4]), (3, [0, 2, 4, 7]), (4, [0, 2, 4, 7, 8]), (5, [0, 2, 3, 4, 7]), (6, [0, 2, 4, 7, 15]), (7, [0, 2, 4, 7]), (8, [0, 4])]
theorem lk77 : lookK kp77 0 = some [0, 4] ∧ lookK kp77 1 = some [0, 4, 5] ∧ lookK kp77 2 = some [0, 2, 4] ∧ lookK kp77 3 = some [0, 2, 4, 7] ∧ lookK kp77 4 = some [0, 2, 4, 7, 8] ∧ lookK kp77 5 = some [0, 2, 3, 4, 7] ∧ lookK kp77 6 = some [0, 2, 4, 7, 15] ∧ lookK kp77 7 = some [0, 2, 4, 7] ∧ lookK kp77 8 = some [0, 4] := ⟨rfl, rfl, rfl, rfl, rfl, rfl, rfl, rfl, rfl⟩
def kp78 : List (Nat × List Nat) := [(0, [0, 1]), (1, [4])]
theorem lk78 : lookK kp78 0 = some [0, 1] ∧ lookK kp78 1 = some [4] := ⟨rfl, rfl⟩
def kp79 : List (Nat × List Nat) := [(0, [0, 2, 9, 10, 11]), (1, [0, 2, 9, 10, 11, 12]), (2, [0, 2, 4, 5, 9, 10, 11]), (3, [0, 2, 9, 10, 11, 24]), (4, [0, 2, 9, 10, 11])]
theorem lk79 : lookK kp79 0 = some [0, 2, 9, 10, 11] ∧ lookK kp79 1 = some [0, 2, 9, 10, 11, 12] ∧ lookK kp79 2 = some [0, 2, 4, 5, 9, 10, 11] ∧ lookK kp79 3 = some [0, 2, 9, 10, 11, 24] ∧ lookK kp79 4 = some [0, 2, 9, 10, 11] := ⟨rfl, rfl, rfl, rfl, rfl⟩

def numsC (n : Nat) (f : Nat → Int) : List C := (List.range n).map fun k => .d (.int .i64 (f k))
def benchC (l : List Dy) (f : Nat → Int) (q : Int) : List C := .d (.sl (l.map dyD)) :: (numsC 3969 f ++ [.d (.int .i64 q)])
def upd (f : Nat → Int) (k : Nat) (v : Int) (j : Nat) : Int := if j = k then v else f j
theorem numsC_len (n : Nat) (f : Nat → Int) : (numsC n f).length = n := by simp [numsC]
theorem numsC_get {n : Nat} {f : Nat → Int} {k : Nat} (h : k < n) : (numsC n f)[k]? = some (.d (.int .i64 (f k))) := by simp [numsC, h]
theorem numsC_ext {n : Nat} {f g : Nat → Int} (h : ∀ k, k < n → f k = g k) : numsC n f = numsC n g := by
  unfold numsC
  exact List.map_congr_left fun k hk => by rw [h k (List.mem_range.1 hk)]
theorem numsC_set {n : Nat} {f : Nat → Int} {k : Nat} {v : Int} : (numsC n f).set k (.d (.int .i64 v)) = numsC n (upd f k v) := by
  refine List.ext_getElem? fun j => ?_
  rw [List.getElem?_set, numsC_len]
  by_cases hj : j < n
  · by_cases e : k = j
    · subst e; simp [numsC, hj, upd]
    · rw [if_neg e, numsC_get hj, numsC_get hj, upd, if_neg (fun h => e h.symm)]
  · have e1 : (numsC n f)[j]? = none := List.getElem?_eq_none (by rw [numsC_len]; omega)
    have e2 : (numsC n (upd f k v))[j]? = none := List.getElem?_eq_none (by rw [numsC_len]; omega)
    rw [e1, e2]
    by_cases e : k = j
    · subst e; simp [hj]
    · simp [e]
theorem bench_len (l : List Dy) (f : Nat → Int) (q : Int) : (benchC l f q).length = 3971 := by simp [benchC, numsC_len]
theorem bench_dyes (l : List Dy) (f : Nat → Int) (q : Int) : (benchC l f q)[0]? = some (.d (.sl (l.map dyD))) := rfl
theorem bench_fast (l : List Dy) (f : Nat → Int) (q : Int) : (benchC l f q)[3970]? = some (.d (.int .i64 q)) := by
  rw [benchC, List.getElem?_cons_succ, List.getElem?_append_right (by rw [numsC_len]; omega), numsC_len]; rfl
theorem bench_at {l : List Dy} {f : Nat → Int} {q : Int} {k : Nat} (h : k < 3969) : (benchC l f q)[1 + k]? = some (.d (.int .i64 (f k))) := by
  rw [benchC, Nat.add_comm, List.getElem?_cons_succ, List.getElem?_append_left (by rw [numsC_len]; omega), numsC_get h]
theorem bench_set {l : List Dy} {f : Nat → Int} {q : Int} {k : Nat} {v : Int} (h : k < 3969) : (benchC l f q).set (1 + k) (.d (.int .i64 v)) = benchC l (upd f k v) q := by
  rw [benchC, Nat.add_comm, List.set_cons_succ, List.set_append_left _ _ (by rw [numsC_len]; omega), numsC_set]; rfl
theorem bench_setq {l : List Dy} {f : Nat → Int} {q v : Int} : (benchC l f q).set 3970 (.d (.int .i64 v)) = benchC l f v := by
  rw [benchC, List.set_cons_succ, List.set_append_right _ _ (by rw [numsC_len]; omega), numsC_len]; rfl
theorem bench_ext {l : List Dy} {f g : Nat → Int} {q : Int} (h : ∀ k, k < 3969 → f k = g k) : benchC l f q = benchC l g q := by
  unfold benchC; rw [numsC_ext h]
theorem bench_low (m : Nat) (l : List Dy) (f : Nat → Int) (q : Int) : C.lowL m (benchC l f q) = true := by
  have e : benchC l f q = ((.sl (l.map dyD) :: ((List.range 3969).map (fun k => D.int .i64 (f k)) ++ [.int .i64 q])).map C.d) := by
    simp [benchC, numsC, List.map_map, Function.comp_def]
  rw [e, lowL_d]
/-- The place of a number of the table. -/
def cix (i x y : Nat) : Nat := i * 441 + x * 21 + y
theorem cix_lt {i x y : Nat} (hi : i < 9) (hx : x < 21) (hy : y < 21) : cix i x y < 3969 := by unfold cix; omega
theorem zero_nums (n : Nat) : List.replicate n (C.d (.int .i64 0)) = numsC n (fun _ => 0) := by
  refine List.ext_getElem? fun j => ?_
  by_cases hj : j < n
  · rw [numsC_get hj]; simp [hj]
  · rw [List.getElem?_eq_none (by simp; omega), List.getElem?_eq_none (by rw [numsC_len]; omega)]
theorem bench_new (l : List Dy) : C.d (.sl (l.map dyD)) :: List.replicate 3970 (C.d (.int .i64 0)) = benchC l (fun _ => 0) 0 := by
  rw [benchC, ← zero_nums]
  exact congrArg _ (List.replicate_succ' (n := 3969))
theorem cat_set {α : Type} (H : List α) (x y : α) : (H ++ [x]).set H.length y = H ++ [y] := by rw [List.set_append_right _ _ (Nat.le_refl _)]; simp
theorem cat_at {α : Type} (H : List α) (x : α) : (H ++ [x])[H.length]? = some x := by simp
set_option maxHeartbeats 1000000 in
theorem cost68 (H : List AB) (id : Nat) (hid : id < H.length) (i x y : Nat) (hi : i < 9) (hx : x < 21) (hy : y < 21) :
    ACall Try.prog 68 [.c (.ptr id 0), I i, spV x y] H (Go.Abs.one (.c (.ptr id (1 + cix i x y))) H) := by
  refine ACall.low_of Try.func68 rfl rfl (fun hH => ?_)
  refine acall_atE (bad := []) (kp := kp68) (X := tx) (nt := 18) (rs := [.tmp 6]) Try.func68 rfl rfl rfl rfl mo (by kernel_rfl) (by simp [V.low, C.low, hid]) hH (fun hf => ?_)
  have hi' : (i : Int) < 9 := by omega
  have hx' : (x : Int) < 21 := by omega
  have hy' : (y : Int) < 21 := by omega
  have e : 1 + i * 441 + x * 21 + y * 1 = 1 + cix i x y := by unfold cix; omega
  simp (maxSteps := 2000000) only [go_sem, reduceIte, Nat.reduceEqDiff, Nat.reduceAdd, Nat.reduceLeDiff, Nat.reduceBEq, lk51, lk67, lk68, lk69, lk70, lk77, lk78, lk79, spV, spC, cat_at, hi', hx', hy', nn, e]
  all_goals first | exact .refl _ | exact ⟨.refl _, .refl _⟩ | exact ⟨.refl _, .refl _, .refl _⟩ | exact ⟨.refl _, _, rfl⟩ | exact ⟨_, rfl⟩ | exact ⟨.refl _, [], by simp⟩ | exact ⟨[], by simp⟩
set_option maxHeartbeats 1000000 in
theorem may78 (H : List AB) (id : Nat) (l : List Dy) (f : Nat → Int) (q : Int) (hb : H[id]? = some (.cells (benchC l f q))) (i : Nat) (hi : i < l.length) :
    ACall Try.prog 78 [.c (.ptr id 0), I i] H (Go.Abs.one (B (decide (q ≤ (gD l i).f))) H) := by
  have hid := (List.getElem?_eq_some_iff.1 hb).1
  refine ACall.low_of Try.func78 rfl rfl (fun hH => ?_)
  refine acall_atE (bad := []) (kp := kp78) (X := tx) (nt := 18) (rs := [.tmp 4]) Try.func78 rfl rfl rfl rfl mo (by kernel_rfl) rfl hH (fun hf => ?_)
  have hi' : (i : Int) < l.length := by omega
  have g1 := gD_lt hi
  simp (maxSteps := 2000000) only [go_sem, reduceIte, Nat.reduceEqDiff, Nat.reduceAdd, Nat.reduceLeDiff, Nat.reduceBEq, lk51, lk67, lk68, lk69, lk70, lk77, lk78, lk79, hb, bench_len, bench_dyes, bench_fast, hi', nn, g1, dyD]
  all_goals first | exact .refl _ | exact ⟨.refl _, .refl _⟩ | exact ⟨.refl _, .refl _, .refl _⟩ | exact ⟨.refl _, _, rfl⟩ | exact ⟨_, rfl⟩ | exact ⟨.refl _, [], by simp⟩ | exact ⟨[], by simp⟩
theorem whole70 (x y : Int) : Pure Try.prog 70 [spV x y] (B (decide (x < 21) && decide (y < 21))) := by
  refine pure_wkE (bad := []) (kp := kp70) (X := tx) (nt := 11) (rs := [.tmp 2]) Try.func70 rfl rfl rfl rfl mo (by kernel_rfl) rfl rfl (fun hf => ?_)
  by_cases h : x < 21
  · simp (maxSteps := 2000000) only [go_sem, reduceIte, Nat.reduceEqDiff, Nat.reduceAdd, Nat.reduceLeDiff, Nat.reduceBEq, lk51, lk67, lk68, lk69, lk70, lk77, lk78, lk79, spV, spC, h]
  · simp (maxSteps := 2000000) only [go_sem, reduceIte, Nat.reduceEqDiff, Nat.reduceAdd, Nat.reduceLeDiff, Nat.reduceBEq, lk51, lk67, lk68, lk69, lk70, lk77, lk78, lk79, spV, spC, h]
theorem spots67 : Pure Try.prog 67 [] (.c (.fn (.func 77) [])) := by
  refine pure_wkE (bad := []) (kp := kp67) (X := tx) (nt := 1) (rs := [.tmp 0]) Try.func67 rfl rfl rfl rfl mo (by kernel_rfl) rfl rfl (fun hf => ?_)
  simp (maxSteps := 2000000) only [go_sem, reduceIte, Nat.reduceAdd, lk51, lk67, lk68, lk69, lk70, lk77, lk78, lk79]
set_option maxHeartbeats 2000000 in
theorem bench51 (l : List Dy) (H : List AB) : ACall Try.prog 51 [dys l] H (Go.Abs.one (.c (.ptr H.length 0)) (H ++ [.cells (benchC l (fun _ => 0) 0)])) := by
  refine acall_fitE (bad := []) (kp := kp51) (X := tx) (nt := 6) (rs := [.tmp 2]) Try.func51 rfl rfl rfl rfl mo (by kernel_rfl) (fun hf => ?_)
  simp (maxSteps := 2000000) only [go_sem, reduceIte, Nat.reduceEqDiff, Nat.reduceAdd, Nat.reduceLeDiff, Nat.reduceBEq, lk51, lk67, lk68, lk69, lk70, lk77, lk78, lk79, dys, bench_new]
  all_goals first | exact .refl _ | exact ⟨.refl _, .refl _⟩ | exact ⟨.refl _, .refl _, .refl _⟩ | exact ⟨.refl _, _, rfl⟩ | exact ⟨_, rfl⟩ | exact ⟨.refl _, [], by simp⟩ | exact ⟨[], by simp⟩
set_option maxHeartbeats 2000000 in
/-- All spots, the lesser ones first. -/
theorem spots77 (id : Nat) (Hs : Nat → List AB) (hlow : ∀ k, k ≤ 441 → (Hs k).all (AB.low (Hs k).length) = true ∧ (Hs 0).length ≤ (Hs k).length ∧ id < (Hs k).length)
    (hy : ∀ x y : Nat, x < 21 → y < 21 → YC Try.prog id (Hs (x * 21 + y)) (spV x y) (Go.Abs.one (B true) (Hs (x * 21 + y + 1)))) :
    ACall Try.prog 77 [.c (.yd id)] (Hs 0) (fun _ H' => H' = Hs 441) := by
  refine acall_fit (X := tx) (nt := 18) (rs := []) Try.func77 rfl rfl rfl rfl mo (by kernel_rfl) (fun hf => ?_)
  simp (maxSteps := 2000000) only [go_sem, reduceIte, Nat.reduceEqDiff, lk51, lk67, lk68, lk69, lk70, lk77, lk78, lk79]
  refine go_loop (fun x : Nat => { slots := [(0, .c (.yd id)), (4, I x)], heap := Hs (x * 21), marks := [] }) (fun x => x ≤ 21) (fun x => 21 - x) 0 mo (by kernel_rfl) ?_ (Nat.zero_le _) ?_
  · obtain ⟨l1, l2, l3⟩ := hlow 0 (by omega)
    refine ent_weaken [] (by simp) rfl (Nat.le_refl _) l1 rfl ?_
    simp (maxSteps := 2000000) only [go_sem, reduceIte, Nat.reduceEqDiff, Nat.reduceMul, lk51, lk67, lk68, lk69, lk70, lk77, lk78, lk79, l3]
    all_goals first | exact .refl _ | exact ⟨.refl _, .refl _⟩ | exact ⟨.refl _, .refl _, .refl _⟩ | exact ⟨.refl _, _, rfl⟩ | exact ⟨_, rfl⟩ | exact ⟨.refl _, [], by simp⟩ | exact ⟨[], by simp⟩
  rintro x hx
  simp (maxSteps := 2000000) only [go_sem, reduceIte, Nat.reduceEqDiff, lk51, lk67, lk68, lk69, lk70, lk77, lk78, lk79]
  by_cases hlt : x < 21
  · have hlt' : (x : Int) < 21 := by omega
    simp (maxSteps := 2000000) only [go_sem, reduceIte, Nat.reduceEqDiff, lk51, lk67, lk68, lk69, lk70, lk77, lk78, lk79, hlt']
    refine go_loop (fun y : Nat => { slots := [(0, .c (.yd id)), (2, I x), (4, I x), (7, I y)], heap := Hs (x * 21 + y), marks := [] }) (fun y => y ≤ 21) (fun y => 21 - y) 0 mo (by kernel_rfl) ?_ (Nat.zero_le _) ?_
    · obtain ⟨l1, l2, l3⟩ := hlow (x * 21) (by omega)
      refine ent_weaken [] (by simp) rfl l2 l1 rfl ?_
      simp (maxSteps := 2000000) only [go_sem, reduceIte, Nat.reduceEqDiff, lk51, lk67, lk68, lk69, lk70, lk77, lk78, lk79, l3]
      all_goals first | exact .refl _ | exact ⟨.refl _, .refl _⟩ | exact ⟨.refl _, .refl _, .refl _⟩ | exact ⟨.refl _, _, rfl⟩ | exact ⟨_, rfl⟩ | exact ⟨.refl _, [], by simp⟩ | exact ⟨[], by simp⟩
    rintro y hy'
    simp (maxSteps := 2000000) only [go_sem, reduceIte, Nat.reduceEqDiff, lk51, lk67, lk68, lk69, lk70, lk77, lk78, lk79]
    by_cases hlty : y < 21
    · have hlty' : (y : Int) < 21 := by omega
      have hyy := hy x y hlt hlty
      unfold spV spC at hyy
      simp (maxSteps := 2000000) only [go_sem, reduceIte, Nat.reduceEqDiff, Nat.reduceAdd, Nat.reduceLeDiff, Nat.reduceBEq, lk51, lk67, lk68, lk69, lk70, lk77, lk78, lk79, hlty']
      refine aops_yc hyy rfl rfl (fun z H' h => ?_)
      obtain ⟨rfl, rfl⟩ := h
      have w7 : wr .i64 ((y : Int) + 1) = ((y + 1 : Nat) : Int) := wr_succ hlty (by decide)
      simp (maxSteps := 2000000) only [go_sem, reduceIte, Nat.reduceEqDiff, lk51, lk67, lk68, lk69, lk70, lk77, lk78, lk79, w7]
      refine ⟨y + 1, by omega, by omega, ?_⟩
      obtain ⟨l1, l2, l3⟩ := hlow (x * 21 + y + 1) (by omega)
      refine ent_weaken [] (by simp [Nat.add_assoc]) rfl l2 (by rw [← Nat.add_assoc]; exact l1) rfl ?_
      simp (maxSteps := 2000000) only [go_sem, reduceIte, Nat.reduceEqDiff, lk51, lk67, lk68, lk69, lk70, lk77, lk78, lk79, l3, ← Nat.add_assoc]
      all_goals first | exact .refl _ | exact ⟨.refl _, .refl _⟩ | exact ⟨.refl _, .refl _, .refl _⟩ | exact ⟨.refl _, _, rfl⟩ | exact ⟨_, rfl⟩ | exact ⟨.refl _, [], by simp⟩ | exact ⟨[], by simp⟩
    · have hlty' : ¬ (y : Int) < 21 := by omega
      have e : y = 21 := by omega
      subst e
      have w7 : wr .i64 ((x : Int) + 1) = ((x + 1 : Nat) : Int) := wr_succ hlt (by decide)
      simp (maxSteps := 2000000) only [go_sem, reduceIte, Nat.reduceEqDiff, Nat.reduceSub, Int.reduceLT, lk51, lk67, lk68, lk69, lk70, lk77, lk78, lk79, hlty', w7]
      refine ⟨x + 1, by omega, by omega, ?_⟩
      obtain ⟨l1, l2, l3⟩ := hlow (x * 21 + 21) (by omega)
      have e21 : (x + 1) * 21 = x * 21 + 21 := by omega
      rw [← e21] at l1 l2 l3
      refine ent_weaken [] (by rw [List.append_nil]; exact congrArg Hs e21.symm) rfl l2 l1 rfl ?_
      simp (maxSteps := 2000000) only [go_sem, reduceIte, Nat.reduceEqDiff, lk51, lk67, lk68, lk69, lk70, lk77, lk78, lk79, l3]
      all_goals first | exact .refl _ | exact ⟨.refl _, .refl _⟩ | exact ⟨.refl _, .refl _, .refl _⟩ | exact ⟨.refl _, _, rfl⟩ | exact ⟨_, rfl⟩ | exact ⟨.refl _, [], by simp⟩ | exact ⟨[], by simp⟩
  · have hlt' : ¬ (x : Int) < 21 := by omega
    have e : x = 21 := by omega
    subst e
    simp (maxSteps := 2000000) only [go_sem, reduceIte, Nat.reduceMul, Nat.reduceSub, Int.reduceLT, lk51, lk67, lk68, lk69, lk70, lk77, lk78, lk79, hlt']
def goC (d : Dy) (i : Nat) (b : Bool) : List C := dyC d ++ [.d (.int .i64 i), .d (.bool b)]
set_option maxHeartbeats 2000000 in
theorem goers69 (H : List AB) (id : Nat) (hH : H.all (AB.low H.length) = true) (hid : id < H.length) :
    ACall Try.prog 69 [.c (.ptr id 0)] H (Go.Abs.one (.c (.fn (.func 79) [.ptr H.length 0, .ptr (H.length + 1) 0])) (H ++ [.cells [.ptr id 0], .cells [.mv (.func 78) (.ptr id 0)]])) := by
  refine acall_fitE (bad := []) (kp := kp69) (X := tx) (nt := 7) (rs := [.tmp 2]) Try.func69 rfl rfl rfl rfl mo (by kernel_rfl) (fun hf => ?_)
  have t78 : tx.tt 78 = some ti78 := by kernel_rfl
  have h1 : (H ++ [AB.cells [C.ptr id 0]] ++ [AB.cells [C.any]])[H.length]? = some (AB.cells [C.ptr id 0]) := by simp
  have h2 : (H ++ [AB.cells [C.ptr id 0]] ++ [AB.cells [C.any]])[H.length + 1]? = some (AB.cells [C.any]) := by simp
  have h3 : (H ++ [AB.cells [C.ptr id 0]] ++ [AB.cells [C.any]]).set (H.length + 1) (AB.cells [C.mv (.func 78) (.ptr id 0)]) = H ++ [.cells [.ptr id 0], .cells [.mv (.func 78) (.ptr id 0)]] := by
    rw [List.set_append_right _ _ (by simp)]; simp
  have h4 : (H ++ [AB.cells [C.ptr id 0]]).length = H.length + 1 := by simp
  simp (maxSteps := 2000000) only [go_sem, reduceIte, Nat.reduceEqDiff, Nat.reduceAdd, lk51, lk67, lk68, lk69, lk70, lk77, lk78, lk79, t78, ti78, cat_at, h1, h2, h3, h4, List.isEmpty_cons]
  exact ⟨rfl, rfl⟩
set_option maxHeartbeats 2000000 in
theorem goers79 (id b1 b2 bid : Nat) (l : List Dy) (fs : Nat → Nat → Int) (q : Int) (Hs : Nat → List AB) (h8 : l.length ≤ 8)
    (hlow : ∀ k, k ≤ l.length → (Hs k).all (AB.low (Hs k).length) = true ∧ (Hs k).length = (Hs 0).length) (h1 : id < (Hs 0).length)
    (hb1 : ∀ k, k ≤ l.length → (Hs k)[b1]? = some (.cells [.ptr bid 0])) (hb2 : ∀ k, k ≤ l.length → (Hs k)[b2]? = some (.cells [.mv (.func 78) (.ptr bid 0)])) (hb : ∀ k, k ≤ l.length → (Hs k)[bid]? = some (.cells (benchC l (fs k) q)))
    (hy : ∀ i, i < l.length → YCs Try.prog id (Hs i ++ [.cells (dyC (gD l i))]) [.agg (goC (gD l i) i (decide (q ≤ (gD l i).f)))] (Go.Abs.one (B true) (Hs (i + 1) ++ [.cells (dyC (gD l i))]))) :
    ACall Try.prog 79 [.c (.yd id), .c (.ptr b1 0), .c (.ptr b2 0)] (Hs 0) (fun _ H' => H' = Hs l.length) := by
  have l1 : b1 < (Hs 0).length := (List.getElem?_eq_some_iff.1 (hb1 0 (Nat.zero_le _))).1
  have l2 : b2 < (Hs 0).length := (List.getElem?_eq_some_iff.1 (hb2 0 (Nat.zero_le _))).1
  have hb10 := hb1 0 (Nat.zero_le _)
  have hb0 := hb 0 (Nat.zero_le _)
  refine acall_fitE (bad := [50003]) (kp := kp79) (X := tx) (nt := 26) (rs := []) Try.func79 rfl rfl rfl rfl mo (by kernel_rfl) (fun hf => ?_)
  simp (maxSteps := 2000000) only [go_sem, reduceIte, Nat.reduceEqDiff, Nat.reduceAdd, Nat.reduceLeDiff, Nat.reduceBEq, lk51, lk67, lk68, lk69, lk70, lk77, lk78, lk79, hb10, hb0, bench_len, bench_dyes]
  refine goE_loop (bad := [50003]) (kp := kp79) (fun i : Nat => { slots := [(0, .c (.yd id)), (2, .c (.ptr b2 0)), (9, dys l), (10, I l.length), (11, I i)], heap := Hs i, marks := [] }) (fun i => i ≤ l.length) (fun i => l.length - i) 0 mo (by kernel_rfl) ?_ (Nat.zero_le _) ?_
  · obtain ⟨q1, q2⟩ := hlow 0 (by omega)
    refine ent_weaken [] (by simp) rfl (Nat.le_refl _) q1 rfl ?_
    simp (maxSteps := 2000000) only [go_sem, reduceIte, Nat.reduceEqDiff, lk51, lk67, lk68, lk69, lk70, lk77, lk78, lk79, dys, h1, l2]
    all_goals first | exact .refl _ | exact ⟨.refl _, .refl _⟩ | exact ⟨.refl _, .refl _, .refl _⟩ | exact ⟨.refl _, _, rfl⟩ | exact ⟨_, rfl⟩ | exact ⟨.refl _, [], by simp⟩ | exact ⟨[], by simp⟩
  rintro i hi
  simp (maxSteps := 2000000) only [go_sem, reduceIte, Nat.reduceEqDiff, Nat.reduceAdd, Nat.reduceBEq, lk51, lk67, lk68, lk69, lk70, lk77, lk78, lk79, dys]
  by_cases hlt : i < l.length
  · have hlt' : (i : Int) < l.length := by omega
    have g1 := gD_lt hlt
    obtain ⟨q1, q2⟩ := hlow i hi
    obtain ⟨r1, r2⟩ := hlow (i + 1) hlt
    have hb2i := hb2 i hi
    have hbi := hb i hi
    have m1 : l.length - (i + 1) < l.length - i := by omega
    have hyi := hy i hlt
    have hb2c : (Hs i ++ [AB.cells (dyC (gD l i))])[b2]? = some (.cells [.mv (.func 78) (.ptr bid 0)]) := by rw [List.getElem?_append_left (by omega)]; exact hb2i
    have hbc : (Hs i ++ [AB.cells (dyC (gD l i))])[bid]? = some (.cells (benchC l (fs i) q)) := by rw [List.getElem?_append_left (by have := (List.getElem?_eq_some_iff.1 hbi).1; omega)]; exact hbi
    have hm := may78 _ bid l (fs i) q hbc i hlt
    have t78 : tx.tt 78 = some ti78 := by kernel_rfl
    unfold dyC at hb2c hm hyi
    unfold goC dyC at hyi
    simp (maxSteps := 2000000) only [go_sem, lk51, lk67, lk68, lk69, lk70, lk77, lk78, lk79, List.cons_append, List.nil_append] at hyi
    simp (maxSteps := 2000000) only [go_sem, reduceIte, Nat.reduceEqDiff, Nat.reduceAdd, Nat.reduceBEq, lk51, lk67, lk68, lk69, lk70, lk77, lk78, lk79, hlt', nn, g1, dyD, cat_at, cat_set, t78, ti78, hb2c]
    refine dops_at (hm) rfl rfl (by first | exact wk_refls _ | (repeat constructor)) (by kernel_rfl) ?_
    simp (maxSteps := 2000000) only [go_sem, reduceIte, Nat.reduceEqDiff, Nat.reduceAdd, Nat.reduceLeDiff, Nat.reduceBEq, lk51, lk67, lk68, lk69, lk70, lk77, lk78, lk79]
    refine dops_ycs hyi rfl rfl (by kernel_rfl) (by kernel_rfl) ?_
    have w7 : wr .i64 ((i : Int) + 1) = ((i + 1 : Nat) : Int) := wr_succ hlt (Nat.le_trans h8 (by decide))
    simp (maxSteps := 2000000) only [go_sem, reduceIte, Nat.reduceEqDiff, Nat.reduceAdd, Nat.reduceBEq, lk51, lk67, lk68, lk69, lk70, lk77, lk78, lk79, w7]
    refine ⟨i + 1, hlt, m1, ?_⟩
    refine ent_weaken [.cells (dyC (gD l i))] rfl rfl (show (Hs 0).length ≤ (Hs (i + 1)).length by omega) r1 rfl ?_
    have x1 : id < (Hs (i + 1)).length := by omega
    have x2 : b2 < (Hs (i + 1)).length := by omega
    simp (maxSteps := 2000000) only [go_sem, reduceIte, Nat.reduceEqDiff, lk51, lk67, lk68, lk69, lk70, lk77, lk78, lk79, dys, x1, x2]
    all_goals first | exact .refl _ | exact ⟨.refl _, .refl _⟩ | exact ⟨.refl _, .refl _, .refl _⟩ | exact ⟨.refl _, _, rfl⟩ | exact ⟨_, rfl⟩ | exact ⟨.refl _, [], by simp⟩ | exact ⟨[], by simp⟩
  · have hlt' : ¬ (i : Int) < l.length := by omega
    have e : i = l.length := by omega
    subst e
    simp (maxSteps := 2000000) only [go_sem, reduceIte, lk51, lk67, lk68, lk69, lk70, lk77, lk78, lk79, hlt']
end Go.Proofs.Ytkbnmanfoejoiaa
/- Dyes: what fill computes; least. -/
set_option linter.unusedSimpArgs false
set_option linter.unusedVariables false
set_option maxRecDepth 100000
namespace Go.Proofs.Ytkbnmanfoejoiaa
open Go Go.Abs Go.Proofs
def kp71 : List (Nat × List Nat) := [(0, [0, 1]), (1, [0, 1, 5]), (2, [1, 5, 11, 12, 13]), (3, [1, 5, 11, 12, 13, 14]), (4, [1, 5, 7, 11, 12, 13]), (5, [1, 5, 7, 11, 12, 13, 23]), (6, [1, 5, 11, 12, 13]), (7, [1, 5, 11, 12, 13]), (8, [4])]
theorem lk71 : lookK kp71 0 = some [0, 1] ∧ lookK kp71 1 = some [0, 1, 5] ∧ lookK kp71 2 = some [1, 5, 11, 12, 13] ∧ lookK kp71 3 = some [1, 5, 11, 12, 13, 14] ∧ lookK kp71 4 = some [1, 5, 7, 11, 12, 13] ∧ lookK kp71 5 = some [1, 5, 7, 11, 12, 13, 23] ∧ lookK kp71 6 = some [1, 5, 11, 12, 13] ∧ lookK kp71 7 = some [1, 5, 11, 12, 13] ∧ lookK kp71 8 = some [4] := ⟨rfl, rfl, rfl, rfl, rfl, rfl, rfl, rfl, rfl⟩
def kp72 : List (Nat × List Nat) := [(0, [0]), (1, [2])]
theorem lk72 : lookK kp72 0 = some [0] ∧ lookK kp72 1 = some [2] := ⟨rfl, rfl⟩

theorem id72 (n : Int) : Pure Try.prog 72 [I n] (I n) := by
  refine pure_wkE (bad := []) (kp := kp72) (X := tx) (nt := 4) (rs := [.tmp 2]) Try.func72 rfl rfl rfl rfl mo (by kernel_rfl) rfl rfl (fun hf => ?_)
  simp (maxSteps := 2000000) only [go_sem, reduceIte, Nat.reduceEqDiff, Nat.reduceAdd, lk71, lk72]
set_option maxHeartbeats 2000000 in
theorem least71 (a b : Int) : Pure Try.prog 71 [ints [a, b], .c (.fn (.func 72) [])] (I (if b < a then b else a)) := by
  refine pure_wkE (bad := []) (kp := kp71) (X := tx) (nt := 27) (rs := [.tmp 4]) Try.func71 rfl rfl rfl rfl mo (by kernel_rfl) rfl rfl (fun hf => ?_)
  simp (maxSteps := 2000000) only [go_sem, reduceIte, Nat.reduceEqDiff, Nat.reduceAdd, Int.reduceLT, Int.reduceLE, Int.reduceToNat, lk71, lk72, ints, iD]
  refine goE_loop (bad := []) (kp := kp71) (fun i : Nat => { slots := [(1, .c (.fn (.func 72) [])), (5, I (if i = 2 then (if b < a then b else a) else a)), (11, ints [a, b]), (12, I 2), (13, I i)], heap := [], marks := [] }) (fun i => i ≤ 2) (fun i => 2 - i) 0 mo (by kernel_rfl) ?_ (Nat.zero_le _) ?_
  · refine ent_weaken [] rfl rfl (Nat.zero_le _) rfl rfl ?_
    simp (maxSteps := 2000000) only [go_sem, reduceIte, Nat.reduceEqDiff, lk71, lk72, ints, iD]
    all_goals first | exact .refl _ | exact ⟨.refl _, .refl _⟩ | exact ⟨.refl _, .refl _, .refl _⟩ | exact ⟨.refl _, _, rfl⟩ | exact ⟨_, rfl⟩ | exact ⟨.refl _, [], by simp⟩ | exact ⟨[], by simp⟩
  rintro i hi
  have hk3 : i = 0 ∨ i = 1 ∨ i = 2 := by omega
  rcases hk3 with rfl | rfl | rfl
  · have w0 : wr .i64 ((0 : Int) + 1) = 1 := by decide
    have c1 : ¬ a < a := by omega
    simp (maxSteps := 2000000) only [go_sem, reduceIte, Nat.reduceEqDiff, Nat.reduceAdd, Nat.reduceSub, Int.reduceLT, Int.reduceLE, Int.reduceToNat, lk71, lk72, ints, iD]
    refine aops_pure' (id72 a) rfl rfl (by first | exact wk_refls _ | (repeat constructor)) ?_
    simp (maxSteps := 2000000) only [go_sem, reduceIte, Nat.reduceEqDiff, lk71, lk72]
    refine aops_pure' (id72 a) rfl rfl (by first | exact wk_refls _ | (repeat constructor)) ?_
    simp (maxSteps := 2000000) only [go_sem, reduceIte, Nat.reduceEqDiff, Nat.reduceAdd, lk71, lk72, c1, w0]
    refine ⟨1, by decide, by decide, ?_⟩
    refine ent_weaken [] rfl rfl (Nat.zero_le _) rfl rfl ?_
    simp (maxSteps := 2000000) only [go_sem, reduceIte, Nat.reduceEqDiff, lk71, lk72, ints, iD]
    all_goals first | exact .refl _ | exact ⟨.refl _, .refl _⟩ | exact ⟨.refl _, .refl _, .refl _⟩ | exact ⟨.refl _, _, rfl⟩ | exact ⟨_, rfl⟩ | exact ⟨.refl _, [], by simp⟩ | exact ⟨[], by simp⟩
  · have w0 : wr .i64 ((1 : Int) + 1) = 2 := by decide
    simp (maxSteps := 2000000) only [go_sem, reduceIte, Nat.reduceEqDiff, Nat.reduceAdd, Nat.reduceSub, Int.reduceLT, Int.reduceLE, Int.reduceToNat, lk71, lk72, ints, iD]
    refine aops_pure' (id72 b) rfl rfl (by first | exact wk_refls _ | (repeat constructor)) ?_
    simp (maxSteps := 2000000) only [go_sem, reduceIte, Nat.reduceEqDiff, lk71, lk72]
    refine aops_pure' (id72 a) rfl rfl (by first | exact wk_refls _ | (repeat constructor)) ?_
    by_cases h : b < a
    · simp (maxSteps := 2000000) only [go_sem, reduceIte, Nat.reduceEqDiff, Nat.reduceAdd, lk71, lk72, h, w0]
      refine ⟨2, by decide, by decide, ?_⟩
      refine ent_weaken [] rfl rfl (Nat.zero_le _) rfl rfl ?_
      simp (maxSteps := 2000000) only [go_sem, reduceIte, Nat.reduceEqDiff, lk71, lk72, ints, iD, h]
      all_goals first | exact .refl _ | exact ⟨.refl _, .refl _⟩ | exact ⟨.refl _, .refl _, .refl _⟩ | exact ⟨.refl _, _, rfl⟩ | exact ⟨_, rfl⟩ | exact ⟨.refl _, [], by simp⟩ | exact ⟨[], by simp⟩
    · simp (maxSteps := 2000000) only [go_sem, reduceIte, Nat.reduceEqDiff, Nat.reduceAdd, lk71, lk72, h, w0]
      refine ⟨2, by decide, by decide, ?_⟩
      refine ent_weaken [] rfl rfl (Nat.zero_le _) rfl rfl ?_
      simp (maxSteps := 2000000) only [go_sem, reduceIte, Nat.reduceEqDiff, lk71, lk72, ints, iD, h]
      all_goals first | exact .refl _ | exact ⟨.refl _, .refl _⟩ | exact ⟨.refl _, .refl _, .refl _⟩ | exact ⟨.refl _, _, rfl⟩ | exact ⟨_, rfl⟩ | exact ⟨.refl _, [], by simp⟩ | exact ⟨[], by simp⟩
  · simp (maxSteps := 2000000) only [go_sem, reduceIte, Nat.reduceEqDiff, Nat.reduceAdd, Nat.reduceSub, Int.reduceLT, lk71, lk72, ints, iD]
    all_goals first | exact .refl _ | exact ⟨.refl _, .refl _⟩ | exact ⟨.refl _, .refl _, .refl _⟩ | exact ⟨.refl _, _, rfl⟩ | exact ⟨_, rfl⟩ | exact ⟨.refl _, [], by simp⟩ | exact ⟨[], by simp⟩

def MX : Int := 1099511627776
/-- The step of fill at a spot. -/
def relaxD (d : Dy) (i : Nat) (f : Nat → Int) (x y : Nat) : Nat → Int :=
  if (x + d.a.toNat < 21 ∧ y + d.b.toNat < 21) ∧ f (cix (i + 1) x y) ≠ MX then upd f (cix (i + 1) (x + d.a.toNat) (y + d.b.toNat)) (min (f (cix (i + 1) (x + d.a.toNat) (y + d.b.toNat))) (f (cix (i + 1) x y) + d.p)) else f
def runS (st : (Nat → Int) → Nat → Nat → Nat → Int) (f : Nat → Int) : Nat → Nat → Int
  | 0 => f
  | k + 1 => st (runS st f k) (k / 21) (k % 21)
def copyRow (i : Nat) (f : Nat → Int) (j : Nat) : Int := if (i + 1) * 441 ≤ j ∧ j < (i + 2) * 441 then f (j - 441) else f j
def fill0 (j : Nat) : Int := if j = 0 then 0 else if j < 441 then MX else 0
def fillF (l : List Dy) (q : Int) : Nat → Nat → Int
  | 0 => fill0
  | i + 1 => if q ≤ (gD l i).f then runS (relaxD (gD l i) i) (copyRow i (fillF l q i)) 441 else copyRow i (fillF l q i)
def Bd (f : Nat → Int) : Prop := ∀ j, 0 ≤ f j ∧ f j ≤ MX
theorem Bd.relax {d : Dy} {i : Nat} {f : Nat → Int} (h : Bd f) (hd : OkD d) (x y : Nat) : Bd (relaxD d i f x y) := by
  unfold relaxD
  split
  · intro j
    unfold upd
    have h1 := h (cix (i + 1) (x + d.a.toNat) (y + d.b.toNat))
    have h2 := h (cix (i + 1) x y)
    have h3 := hd.p0
    split
    · omega
    · exact h j
  · exact h
theorem Bd.runS {st : (Nat → Int) → Nat → Nat → Nat → Int} (hst : ∀ f x y, Bd f → Bd (st f x y)) {f : Nat → Int} (h : Bd f) : ∀ k, Bd (runS st f k)
  | 0 => h
  | k + 1 => hst _ _ _ (Bd.runS hst h k)
theorem Bd.copy {i : Nat} {f : Nat → Int} (h : Bd f) : Bd (copyRow i f) := fun j => by unfold copyRow; split <;> exact h _
theorem Bd.fill0 : Bd fill0 := fun j => by
  unfold Go.Proofs.Ytkbnmanfoejoiaa.fill0 MX
  split
  · omega
  · split <;> omega
theorem Bd.fill {l : List Dy} (hl : OkL l) (q : Int) : ∀ i, i ≤ l.length → Bd (fillF l q i)
  | 0, _ => Bd.fill0
  | i + 1, hi => by
    have ih := Bd.fill hl q i (by omega)
    unfold fillF
    split
    · exact Bd.runS (fun f x y h => h.relax (hl.g (by omega)) x y) ih.copy _
    · exact ih.copy
theorem numsC_take {n m k : Nat} {f : Nat → Int} (h : k + m ≤ n) : ((numsC n f).drop k).take m = numsC m (fun j => f (k + j)) := by
  refine List.ext_getElem? fun j => ?_
  rw [List.getElem?_take]
  by_cases hj : j < m
  · rw [if_pos hj, List.getElem?_drop, numsC_get (by omega), numsC_get hj]
  · rw [if_neg hj, List.getElem?_eq_none (by rw [numsC_len]; omega)]
theorem setMany_get {α : Type} : ∀ (v l : List α) (k j : Nat), k + v.length ≤ l.length → (setMany l k v)[j]? = if k ≤ j ∧ j < k + v.length then v[j - k]? else l[j]?
  | [], l, k, j, _ => by rw [setMany, if_neg (by simp)]
  | x :: v, l, k, j, h => by
    simp only [List.length_cons] at h ⊢
    rw [setMany, setMany_get v (l.set k x) (k + 1) j (by simp; omega)]
    by_cases h1 : k + 1 ≤ j ∧ j < k + 1 + v.length
    · rw [if_pos h1, if_pos (by omega), show j - k = (j - (k + 1)) + 1 by omega, List.getElem?_cons_succ]
    · rw [if_neg h1, List.getElem?_set]
      by_cases e : k = j
      · subst e
        rw [if_pos rfl, if_pos (by omega), Nat.sub_self, List.getElem?_cons_zero, if_pos (by omega)]
      · rw [if_neg e, if_neg (by omega)]
theorem bench_row {l : List Dy} {f : Nat → Int} {q : Int} {k m : Nat} (h : k + m ≤ 3969) : ((benchC l f q).drop (1 + k)).take m = numsC m (fun j => f (k + j)) := by
  rw [benchC, Nat.add_comm, List.drop_succ_cons, List.drop_append_of_le_length (by rw [numsC_len]; omega), List.take_append_of_le_length (by rw [List.length_drop, numsC_len]; omega), numsC_take h]
theorem bench_put {l : List Dy} {f g : Nat → Int} {q : Int} {k m : Nat} (h : k + m ≤ 3969) : setMany (benchC l f q) (1 + k) (numsC m g) = benchC l (fun j => if k ≤ j ∧ j < k + m then g (j - k) else f j) q := by
  refine List.ext_getElem? fun j => ?_
  rw [setMany_get _ _ _ _ (by rw [bench_len, numsC_len]; omega), numsC_len]
  rcases Nat.lt_or_ge j 1 with h1 | h1
  · have : j = 0 := by omega
    subst this
    rw [if_neg (by omega), bench_dyes, bench_dyes]
  rcases Nat.lt_or_ge j 3970 with h2 | h2
  · obtain ⟨i, rfl⟩ : ∃ i, j = 1 + i := ⟨j - 1, by omega⟩
    rw [bench_at (by omega), bench_at (by omega)]
    by_cases h3 : k ≤ i ∧ i < k + m
    · rw [if_pos (by omega), if_pos h3, show 1 + i - (1 + k) = i - k by omega, numsC_get (by omega)]
    · rw [if_neg (by omega), if_neg h3]
  · rw [if_neg (by omega)]
    rcases Nat.lt_or_ge 3970 j with h4 | h4
    · rw [List.getElem?_eq_none (by rw [bench_len]; omega), List.getElem?_eq_none (by rw [bench_len]; omega)]
    · have : j = 3970 := by omega
      subst this
      rw [bench_fast, bench_fast]
theorem zeros9 : (List.replicate 9 (List.replicate 441 (C.d (.int .i64 0)))).flatten = numsC 3969 (fun _ => 0) := by rw [List.flatten_replicate_replicate, ← zero_nums]
theorem bench_clear {l : List Dy} {f : Nat → Int} {q : Int} : setMany (benchC l f q) 1 (List.replicate 9 (List.replicate 441 (C.d (.int .i64 0)))).flatten = benchC l (fun _ => 0) q := by
  rw [zeros9, show (1 : Nat) = 1 + 0 from rfl, bench_put (by omega)]
  exact bench_ext fun k hk => by rw [if_pos (by omega)]
theorem bench_copy {l : List Dy} {f : Nat → Int} {q : Int} {i : Nat} (h : i < 8) : setMany (benchC l f q) (1 + (i + 1) * 441) (((benchC l f q).drop (1 + i * 441)).take 441) = benchC l (copyRow i f) q := by
  rw [bench_row (by omega), bench_put (by omega)]
  refine bench_ext fun k hk => ?_
  unfold copyRow
  by_cases h1 : (i + 1) * 441 ≤ k ∧ k < (i + 1) * 441 + 441
  · rw [if_pos h1, if_pos (by omega)]
    congr 1; omega
  · rw [if_neg h1, if_neg (by omega)]
end Go.Proofs.Ytkbnmanfoejoiaa
