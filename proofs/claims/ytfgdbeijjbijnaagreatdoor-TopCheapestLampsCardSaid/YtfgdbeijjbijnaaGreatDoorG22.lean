/- Benches: what a programme makes of a row. -/
import Derived.Test.YtfgdbeijjbijnaaGreatDoorG21
import Derived.Test.YtfgdbeijjbijnaaGreatDoorG20
import Derived.Test.YtfgdbeijjbijnaaGreatDoorWD
set_option linter.unusedSimpArgs false
set_option linter.unusedVariables false
set_option linter.unusedSimpArgs false
set_option linter.unusedVariables false
set_option maxRecDepth 100000
namespace Go.Proofs.YtfgdbeijjbijnaaGreatDoor
open Go Go.Abs Go.Proofs
def kp163 : List (Nat × List Nat) := [(0, [0, 1, 2]), (1, [4])]
theorem lk163 : lookK kp163 0 = some [0, 1, 2] ∧ lookK kp163 1 = some [4] := ⟨rfl, rfl⟩
def kp79 : List (Nat × List Nat) := [(0, [2, 3, 4]), (1, [6])]
theorem lk79 : lookK kp79 0 = some [2, 3, 4] ∧ lookK kp79 1 = some [6] := ⟨rfl, rfl⟩
def kp32 : List (Nat × List Nat) := [(0, [0, 1]), (1, [0, 1, 12]), (2, [4, 5]), (3, [0, 1, 21]), (4, [4, 5]), (5, [0, 1, 6]), (6, [0, 1, 6, 30]), (7, [4, 5]), (8, [0, 1, 7]), (9, [0, 7]), (10, [7, 38, 39, 40]), (11, [7, 38, 39, 40, 41]), (12, [7, 9, 38, 39, 40]), (13, [7, 9, 10, 11, 38, 39, 40]), (14, [7, 38, 39, 40]), (15, [7, 38, 39, 40]), (16, [4, 5])]
theorem lk32 : lookK kp32 0 = some [0, 1] ∧ lookK kp32 1 = some [0, 1, 12] ∧ lookK kp32 2 = some [4, 5] ∧ lookK kp32 3 = some [0, 1, 21] ∧ lookK kp32 4 = some [4, 5] ∧ lookK kp32 5 = some [0, 1, 6] ∧ lookK kp32 6 = some [0, 1, 6, 30] ∧ lookK kp32 7 = some [4, 5] ∧ lookK kp32 8 = some [0, 1, 7] ∧ lookK kp32 9 = some [0, 7] ∧ lookK kp32 10 = some [7, 38, 39, 40] ∧ lookK kp32 11 = some [7, 38, 39, 40, 41] ∧ lookK kp32 12 = some [7, 9, 38, 39, 40] ∧ lookK kp32 13 = some [7, 9, 10, 11, 38, 39, 40] ∧ lookK kp32 14 = some [7, 38, 39, 40] ∧ lookK kp32 15 = some [7, 38, 39, 40] ∧ lookK kp32 16 = some [4, 5] := ⟨rfl, rfl, rfl, rfl, rfl, rfl, rfl, rfl, rfl, rfl, rfl, rfl, rfl, rfl, rfl, rfl, rfl⟩

theorem chk163 (lo hi x : Int) : ACall Tryz.prog 163 [I x, .c (.ptr 0 0), .c (.ptr 1 0)] (Hw lo hi) (one (B (decide (x < lo) || decide (hi < x))) (Hw lo hi)) := by
  refine acall_at (X := tx) (nt := 13) (rs := [.tmp 4]) Tryz.func163 rfl rfl rfl rfl mo (by kernel_rfl) rfl rfl (fun hf => ?_)
  by_cases h : x < lo
  · simp (config := { maxSteps := 2000000 }) only [go_sem, reduceIte, Nat.reduceEqDiff, Nat.reduceAdd, Nat.reduceLT, Nat.reduceLeDiff, Nat.reduceBEq, Nat.reduceMul, Nat.reduceSub, Nat.reduceDiv, Int.reduceNeg, Int.reduceLT, Int.reduceLE, Int.reduceEq, Int.reduceToNat, lk163, lk79, lk32, Hw, h]
    all_goals first | exact .refl _ | exact ⟨.refl _, .refl _⟩ | exact ⟨.refl _, .refl _, .refl _⟩ | exact ⟨.refl _, _, rfl⟩ | exact ⟨_, rfl⟩ | exact ⟨.refl _, [], by simp⟩ | exact ⟨[], by simp⟩
  · simp (config := { maxSteps := 2000000 }) only [go_sem, reduceIte, Nat.reduceEqDiff, Nat.reduceAdd, Nat.reduceLT, Nat.reduceLeDiff, Nat.reduceBEq, Nat.reduceMul, Nat.reduceSub, Nat.reduceDiv, Int.reduceNeg, Int.reduceLT, Int.reduceLE, Int.reduceEq, Int.reduceToNat, lk163, lk79, lk32, Hw, h]
    all_goals first | exact .refl _ | exact ⟨.refl _, .refl _⟩ | exact ⟨.refl _, .refl _, .refl _⟩ | exact ⟨.refl _, _, rfl⟩ | exact ⟨_, rfl⟩ | exact ⟨.refl _, [], by simp⟩ | exact ⟨[], by simp⟩
set_option maxHeartbeats 1000000 in
theorem within79 (lo hi : Int) (l : List Int) : Pure Tryz.prog 79 [I lo, I hi, ints l] (B (inR lo hi l)) := by
  refine pure_wk (X := tx) (nt := 11) (rs := [.tmp 6]) Tryz.func79 rfl rfl rfl rfl mo (by kernel_rfl) rfl rfl (fun hf => ?_)
  simp (config := { maxSteps := 2000000 }) only [go_sem, reduceIte, Nat.reduceEqDiff, Nat.reduceAdd, Nat.reduceLT, Nat.reduceLeDiff, Nat.reduceBEq, Nat.reduceMul, Nat.reduceSub, Nat.reduceDiv, Int.reduceNeg, Int.reduceLT, Int.reduceLE, Int.reduceEq, Int.reduceToNat, lk163, lk79, lk32, ints]
  refine aops_at (has152 l 163 [.ptr 0 0, .ptr 1 0] (fun n => decide (n < lo) || decide (hi < n)) (Hw lo hi) rfl rfl (fun x _ => chk163 lo hi x)) rfl rfl (by first | exact wk_refls _ | (repeat constructor)) ?_
  simp (config := { maxSteps := 2000000 }) only [go_sem, reduceIte, Nat.reduceEqDiff, Nat.reduceAdd, Nat.reduceLT, Nat.reduceLeDiff, Nat.reduceBEq, Nat.reduceMul, Nat.reduceSub, Nat.reduceDiv, Int.reduceNeg, Int.reduceLT, Int.reduceLE, Int.reduceEq, Int.reduceToNat, lk163, lk79, lk32, inR]
  all_goals first | exact .refl _ | exact ⟨.refl _, .refl _⟩ | exact ⟨.refl _, .refl _, .refl _⟩ | exact ⟨.refl _, _, rfl⟩ | exact ⟨_, rfl⟩ | exact ⟨.refl _, [], by simp⟩ | exact ⟨[], by simp⟩
def prD (x : Nat × Nat) : List D := [.int .i64 x.1, .int .i64 x.2]
def prs (p : List (Nat × Nat)) : V := .c (.d (.sl (p.map prD)))
def iCs (l : List Int) : List C := l.map fun x => .d (.int .i64 x)
theorem iCs_len (l : List Int) : (iCs l).length = l.length := by simp [iCs]
theorem iCs_low (m : Nat) (l : List Int) : C.lowL m (iCs l) = true := by
  have := lowL_d m (l.map fun x => D.int .i64 x)
  rwa [List.map_map] at this
theorem iCs_get {l : List Int} {i : Nat} (h : i < l.length) : (iCs l)[i]? = some (.d (.int .i64 (l.getD i 0))) := by
  simp [iCs, List.getD, List.getElem?_eq_getElem h]
theorem iCs_set (l : List Int) (i : Nat) (v : Int) : (iCs l).set i (.d (.int .i64 v)) = iCs (l.set i v) := by
  simp [iCs, List.map_set]
theorem set_many2 {α : Type} : ∀ (v l : List α) (a : List α), v.length = l.length → setMany (a ++ l) a.length v = a ++ v
  | [], [], a, _ => by simp [setMany]
  | x :: v, y :: l, a, h => by
    rw [setMany, List.set_append_right _ _ (Nat.le_refl _), Nat.sub_self, List.set_cons_zero]
    have := set_many2 v l (a ++ [x]) (by simpa using h)
    simpa using this
theorem set_row {z : List C} {l : List Int} (h : z.length = l.length) : setMany z 0 (iCs l) = iCs l := set_many2 (iCs l) z [] (by rw [iCs_len, h])
theorem flat_ints : ∀ l : List Int, ((l.map iD).flatten.map C.d) = iCs l
  | [] => rfl
  | x :: l => by
    have ih := flat_ints l
    simp only [List.map_cons, List.flatten_cons, iD, iCs, List.cons_append, List.nil_append] at ih ⊢
    rw [← ih]
theorem src_ints (H : List AB) (l : List Int) : srcCells H 1 l.length (.d (.sl (l.map iD))) = some (iCs l) := by
  simp only [srcCells, rowsOf]
  rw [if_pos ⟨by simp, by simp [iD]⟩, List.take_of_length_le (by simp), flat_ints]
theorem chunk_row : ∀ {l : List Int} {n : Nat}, l.length = n → chunk 1 n (l.map fun x => D.int .i64 x) = l.map iD
  | [], _, h => by subst h; rfl
  | x :: l, n, h => by
    subst h
    have ih := chunk_row (l := l) rfl
    simp only [List.length_cons, chunk, List.map_cons, iD, List.take_succ_cons, List.take_zero, List.drop_succ_cons, List.drop_zero] at ih ⊢
    rw [ih]
set_option maxHeartbeats 4000000 in
theorem run32 (p : List (Nat × Nat)) (l : List Int) (h2 : 2 ≤ l.length) (h12 : l.length ≤ 12) (hb : ∀ x ∈ l, 0 ≤ x ∧ x ≤ 100000) (hp : p.length ≤ 1000) (ok : okQ l.length p = true) (hc : Pure Tryz.prog 80 [I l.length, prs p] (I 0)) : Pure Tryz.prog 32 [prs p, ints l] (.tup [ints (runQ p l), I 0]) := by
  refine pure_fzE (bad := [14]) (kp := kp32) (X := tx) (nt := 70) (rs := [.tmp 4, .tmp 5]) Tryz.func32 rfl rfl rfl rfl mo (by kernel_rfl) rfl rfl (fun hf => ?_)
  have e1 : decide ((l.length : Int) < 2) = false := by simp; omega
  have e2 : decide ((12 : Int) < (l.length : Int)) = false := by simp; omega
  have hin : inR 0 100000 l = true := by
    unfold inR
    rw [Bool.not_eq_true', List.any_eq_false]
    intro x hx
    have := hb x hx
    simp; omega
  simp (config := { maxSteps := 2000000 }) only [go_sem, reduceIte, Nat.reduceEqDiff, Nat.reduceAdd, Nat.reduceLT, Nat.reduceLeDiff, Nat.reduceBEq, Nat.reduceMul, Nat.reduceSub, Nat.reduceDiv, Int.reduceNeg, Int.reduceLT, Int.reduceLE, Int.reduceEq, Int.reduceToNat, lk163, lk79, lk32, prs, ints, e1, e2]
  refine aops_pure' (within79 0 100000 l) rfl rfl (by first | exact wk_refls _ | (repeat constructor)) ?_
  simp (config := { maxSteps := 2000000 }) only [go_sem, reduceIte, Nat.reduceEqDiff, Nat.reduceAdd, Nat.reduceLT, Nat.reduceLeDiff, Nat.reduceBEq, Nat.reduceMul, Nat.reduceSub, Nat.reduceDiv, Int.reduceNeg, Int.reduceLT, Int.reduceLE, Int.reduceEq, Int.reduceToNat, lk163, lk79, lk32, hin]
  refine aops_pure' (hc) rfl rfl (by first | exact wk_refls _ | (repeat constructor)) ?_
  have hz : ((List.replicate l.length [C.d (.int .i64 0)]).flatten).length = l.length := by simp
  simp (config := { maxSteps := 2000000 }) only [go_sem, reduceIte, Nat.reduceEqDiff, Nat.reduceAdd, Nat.reduceLT, Nat.reduceLeDiff, Nat.reduceBEq, Nat.reduceMul, Nat.reduceSub, Nat.reduceDiv, Int.reduceNeg, Int.reduceLT, Int.reduceLE, Int.reduceEq, Int.reduceToNat, lk163, lk79, lk32, Nat.min_self, src_ints, Nat.mul_one, Nat.zero_add, hz, Nat.le_refl, if_true, set_row hz, Int.toNat_natCast]
  refine ⟨by rw [Bool.and_eq_true, Bool.and_eq_true, Bool.and_eq_true]; exact ⟨⟨⟨decide_eq_true (by omega), decide_eq_true (Int.le_refl _)⟩, decide_eq_true (by show (8 : Int) * _ ≤ _; omega)⟩, decide_eq_true (by show (_ : Int) ≤ 140737488355328; omega)⟩, ?_⟩
  refine ⟨by simp [iCs_len], ?_⟩
  refine goE_loop (bad := [14]) (kp := kp32) (fun i : Nat => { slots := [(7, .c (.ms 0 0 l.length l.length)), (38, .c (.d (.sl (p.map prD)))), (39, I p.length), (40, I i)], heap := [.cells (iCs (runQ (p.take i) l))], marks := [] }) (fun i => i ≤ p.length) (fun i => p.length - i) 0 mo (by kernel_rfl) ?_ (Nat.zero_le _) ?_
  · exact Ent.refl
  rintro i hi
  simp (config := { maxSteps := 2000000 }) only [go_sem, reduceIte, Nat.reduceEqDiff, Nat.reduceAdd, Nat.reduceLT, Nat.reduceLeDiff, Nat.reduceBEq, Nat.reduceMul, Nat.reduceSub, Nat.reduceDiv, Int.reduceNeg, Int.reduceLT, Int.reduceLE, Int.reduceEq, Int.reduceToNat, lk163, lk79, lk32]
  refine goE_if (fun h => ?_) (fun h => ?_)
  · have hlt : i < p.length := by simpa using h
    obtain ⟨x, hx⟩ := get_of_lt hlt
    have hxo : x.1 < x.2 ∧ x.2 < l.length := by
      have := List.all_eq_true.1 ok x (List.mem_of_getElem? hx)
      simpa using this
    obtain ⟨row, hrow⟩ : ∃ row, row = runQ (p.take i) l := ⟨_, rfl⟩
    have hrl : row.length = l.length := by rw [hrow, runQ_len]
    have hnx : runQ (p.take (i + 1)) l = exch x row := by rw [take_succ_eq hx, runQ_snoc, hrow]
    have cx : (decide ((0 : Int) ≤ (i : Int)) && decide ((i : Int) < (p.length : Int))) = true := by simp; omega
    have c1 : (decide ((0 : Int) ≤ (x.1 : Int)) && decide ((x.1 : Int) < (l.length : Int))) = true := by simp; omega
    have c2 : (decide ((0 : Int) ≤ (x.2 : Int)) && decide ((x.2 : Int) < (l.length : Int))) = true := by simp; omega
    have d1 : ∀ r : List Int, r.length = l.length → decide (x.1 + 1 ≤ (iCs r).length) = true := fun r hr => by rw [iCs_len, hr]; simp; omega
    have d2 : ∀ r : List Int, r.length = l.length → decide (x.2 + 1 ≤ (iCs r).length) = true := fun r hr => by rw [iCs_len, hr]; simp; omega
    have g1 : (iCs row)[x.1]? = some (.d (.int .i64 (row.getD x.1 0))) := iCs_get (by omega)
    have g2 : (iCs row)[x.2]? = some (.d (.int .i64 (row.getD x.2 0))) := iCs_get (by omega)
    have d1' := d1 row hrl
    have d2' := d2 row hrl
    rw [← hrow]
    simp (config := { maxSteps := 2000000 }) only [go_sem, reduceIte, Nat.reduceEqDiff, Nat.reduceAdd, Nat.reduceLT, Nat.reduceLeDiff, Nat.reduceBEq, Nat.reduceMul, Nat.reduceSub, Nat.reduceDiv, Int.reduceNeg, Int.reduceLT, Int.reduceLE, Int.reduceEq, Int.reduceToNat, lk163, lk79, lk32, hx, prD, cx, c1, c2, d1', d2', g1, g2, Nat.mul_one]
    have m1 : maxL (row.getD x.1 0) [row.getD x.2 0] = max (row.getD x.1 0) (row.getD x.2 0) := by simp [maxL]
    have m2 : minL (row.getD x.1 0) [row.getD x.2 0] = min (row.getD x.1 0) (row.getD x.2 0) := by simp [minL]
    refine ⟨by rw [List.length_set]; exact d2', pairsOk_ord (by kernel_rfl), ?_⟩
    simp (config := { maxSteps := 2000000 }) only [go_sem, reduceIte, Nat.reduceEqDiff, Nat.reduceAdd, Nat.reduceLT, Nat.reduceLeDiff, Nat.reduceBEq, Nat.reduceMul, Nat.reduceSub, Nat.reduceDiv, Int.reduceNeg, Int.reduceLT, Int.reduceLE, Int.reduceEq, Int.reduceToNat, lk163, lk79, lk32, wr_succ hlt (show p.length ≤ 140737488355328 by omega), m1, m2, iCs_set]
    refine ⟨i + 1, hlt, by omega, ?_⟩
    refine ent_weaken [.cells [.d (.int .i64 x.1), .d (.int .i64 x.2)]] (by simp only [hnx, exch]; rfl) rfl (Nat.zero_le _) (by simp only [List.all_cons, List.all_nil, AB.low, iCs_low, Bool.and_self]) rfl ?_
    simp (config := { maxSteps := 2000000 }) only [go_sem, reduceIte, Nat.reduceEqDiff, Nat.reduceAdd, Nat.reduceLT, Nat.reduceLeDiff, Nat.reduceBEq, Nat.reduceMul, Nat.reduceSub, Nat.reduceDiv, Int.reduceNeg, Int.reduceLT, Int.reduceLE, Int.reduceEq, Int.reduceToNat, lk163, lk79, lk32]
    all_goals first | exact .refl _ | exact ⟨.refl _, .refl _⟩ | exact ⟨.refl _, .refl _, .refl _⟩ | exact ⟨.refl _, _, rfl⟩ | exact ⟨_, rfl⟩ | exact ⟨.refl _, [], by simp⟩ | exact ⟨[], by simp⟩
  · have hi' : i = p.length := by simp at h; omega
    subst hi'
    simp (config := { maxSteps := 2000000 }) only [go_sem, reduceIte, Nat.reduceEqDiff, Nat.reduceAdd, Nat.reduceLT, Nat.reduceLeDiff, Nat.reduceBEq, Nat.reduceMul, Nat.reduceSub, Nat.reduceDiv, Int.reduceNeg, Int.reduceLT, Int.reduceLE, Int.reduceEq, Int.reduceToNat, lk163, lk79, lk32, List.take_length]
    have hq : (runQ p l).length = l.length := runQ_len _ _
    have hfz := FzC.ms (id := 0) (ds := (runQ p l).map fun x => D.int .i64 x) 0 1 l.length l.length (by simp [hq]) (Nat.le_refl _) (by unfold lim; omega)
    rw [List.drop_zero, chunk_row hq] at hfz
    exact ⟨0, iCs (runQ p l), (runQ p l).map fun x => D.int .i64 x, .tup [ints (runQ p l), I 0], rfl, by rw [show iCs (runQ p l) = ((runQ p l).map fun x => D.int .i64 x).map C.d by simp [iCs]]; exact toDs_d _, .tup rfl (fun i x y hx hy => by
      match i, hx, hy with
      | 0, hx, hy => simp at hx hy; subst hx; subst hy; exact .c hfz
      | 1, hx, hy => simp at hx hy; subst hx; subst hy; exact .same _
      | i + 2, hx, hy => simp at hx), .refl _⟩
end Go.Proofs.YtfgdbeijjbijnaaGreatDoor

/- Benches: the programmes that are built for 2 to 12 lamps put all rows in order. -/
set_option linter.unusedSimpArgs false
set_option linter.unusedVariables false
set_option maxRecDepth 100000
namespace Go.Proofs.YtfgdbeijjbijnaaGreatDoor
open Go Go.Abs Go.Proofs

def prgT : List (List (Nat × Nat)) := [[(0, 1)], [(0, 2), (0, 1), (1, 2)], [(0, 2), (1, 3), (0, 1), (2, 3), (1, 2)], [(0, 4), (0, 2), (1, 3), (2, 4), (0, 1), (2, 3), (1, 4), (1, 2), (3, 4)], [(0, 4), (1, 5), (0, 2), (1, 3), (2, 4), (3, 5), (0, 1), (2, 3), (4, 5), (1, 4), (1, 2), (3, 4)], [(0, 4), (1, 5), (2, 6), (0, 2), (1, 3), (4, 6), (2, 4), (3, 5), (0, 1), (2, 3), (4, 5), (1, 4), (3, 6), (1, 2), (3, 4), (5, 6)], [(0, 4), (1, 5), (2, 6), (3, 7), (0, 2), (1, 3), (4, 6), (5, 7), (2, 4), (3, 5), (0, 1), (2, 3), (4, 5), (6, 7), (1, 4), (3, 6), (1, 2), (3, 4), (5, 6)], [(0, 8), (0, 4), (1, 5), (2, 6), (3, 7), (4, 8), (0, 2), (1, 3), (4, 6), (5, 7), (2, 8), (2, 4), (3, 5), (6, 8), (0, 1), (2, 3), (4, 5), (6, 7), (1, 8), (1, 4), (3, 6), (5, 8), (1, 2), (3, 4), (5, 6), (7, 8)], [(0, 8), (1, 9), (0, 4), (1, 5), (2, 6), (3, 7), (4, 8), (5, 9), (0, 2), (1, 3), (4, 6), (5, 7), (2, 8), (3, 9), (2, 4), (3, 5), (6, 8), (7, 9), (0, 1), (2, 3), (4, 5), (6, 7), (8, 9), (1, 8), (1, 4), (3, 6), (5, 8), (1, 2), (3, 4), (5, 6), (7, 8)], [(0, 8), (1, 9), (2, 10), (0, 4), (1, 5), (2, 6), (3, 7), (4, 8), (5, 9), (6, 10), (0, 2), (1, 3), (4, 6), (5, 7), (8, 10), (2, 8), (3, 9), (2, 4), (3, 5), (6, 8), (7, 9), (0, 1), (2, 3), (4, 5), (6, 7), (8, 9), (1, 8), (3, 10), (1, 4), (3, 6), (5, 8), (7, 10), (1, 2), (3, 4), (5, 6), (7, 8), (9, 10)], [(0, 8), (1, 9), (2, 10), (3, 11), (0, 4), (1, 5), (2, 6), (3, 7), (4, 8), (5, 9), (6, 10), (7, 11), (0, 2), (1, 3), (4, 6), (5, 7), (8, 10), (9, 11), (2, 8), (3, 9), (2, 4), (3, 5), (6, 8), (7, 9), (0, 1), (2, 3), (4, 5), (6, 7), (8, 9), (10, 11), (1, 8), (3, 10), (1, 4), (3, 6), (5, 8), (7, 10), (1, 2), (3, 4), (5, 6), (7, 8), (9, 10)]]
def prg (n : Nat) : List (Nat × Nat) := (prgT[n - 2]?).getD []
noncomputable def okB1 (n : Nat) : Bool := isV (.tup [prs (prg n), I 0]) (yRes tx (exW []) 50000 31 [I n] [])
noncomputable def okB2 (n : Nat) : Bool := isV (I 0) (yRes tx (exW []) 50000 80 [I n, prs (prg n)] [])
def okB3 (n : Nat) : Bool := okQ n (prg n) && (fallB (runB (prg n) (lines0 n)) && ((prg n).length.ble 1000 && ((prs (prg n)).low 0)))
theorem okB1_2 : okB1 2 = true := by kernel_rfl
theorem okB2_2 : okB2 2 = true := by kernel_rfl
theorem okB1_3 : okB1 3 = true := by kernel_rfl
theorem okB2_3 : okB2 3 = true := by kernel_rfl
theorem okB1_4 : okB1 4 = true := by kernel_rfl
theorem okB2_4 : okB2 4 = true := by kernel_rfl
theorem okB1_5 : okB1 5 = true := by kernel_rfl
theorem okB2_5 : okB2 5 = true := by kernel_rfl
theorem okB1_6 : okB1 6 = true := by kernel_rfl
theorem okB2_6 : okB2 6 = true := by kernel_rfl
theorem okB1_7 : okB1 7 = true := by kernel_rfl
theorem okB2_7 : okB2 7 = true := by kernel_rfl
theorem okB1_8 : okB1 8 = true := by kernel_rfl
theorem okB2_8 : okB2 8 = true := by kernel_rfl
theorem okB1_9 : okB1 9 = true := by kernel_rfl
theorem okB2_9 : okB2 9 = true := by kernel_rfl
theorem okB1_10 : okB1 10 = true := by kernel_rfl
theorem okB2_10 : okB2 10 = true := by kernel_rfl
theorem okB1_11 : okB1 11 = true := by kernel_rfl
theorem okB2_11 : okB2 11 = true := by kernel_rfl
theorem okB1_12 : okB1 12 = true := by kernel_rfl
theorem okB2_12 : okB2 12 = true := by kernel_rfl
theorem okB3_all : (List.range' 2 11).all okB3 = true := by kernel_rfl
theorem okB12 {n : Nat} (h2 : 2 ≤ n) (h12 : n ≤ 12) : okB1 n = true ∧ okB2 n = true := by
  match n, h2, h12 with
  | 2, _, _ => exact ⟨okB1_2, okB2_2⟩
  | 3, _, _ => exact ⟨okB1_3, okB2_3⟩
  | 4, _, _ => exact ⟨okB1_4, okB2_4⟩
  | 5, _, _ => exact ⟨okB1_5, okB2_5⟩
  | 6, _, _ => exact ⟨okB1_6, okB2_6⟩
  | 7, _, _ => exact ⟨okB1_7, okB2_7⟩
  | 8, _, _ => exact ⟨okB1_8, okB2_8⟩
  | 9, _, _ => exact ⟨okB1_9, okB2_9⟩
  | 10, _, _ => exact ⟨okB1_10, okB2_10⟩
  | 11, _, _ => exact ⟨okB1_11, okB2_11⟩
  | 12, _, _ => exact ⟨okB1_12, okB2_12⟩
theorem okB_n {n : Nat} (h2 : 2 ≤ n) (h12 : n ≤ 12) : Pure Tryz.prog 31 [I n] (.tup [prs (prg n), I 0]) ∧ Pure Tryz.prog 80 [I n, prs (prg n)] (I 0) ∧ okQ n (prg n) = true ∧ fallB (runB (prg n) (lines0 n)) = true ∧ (prg n).length ≤ 1000 := by
  have h := List.all_eq_true.1 okB3_all n (by rw [List.mem_range'_1]; omega)
  simp only [okB3, Bool.and_eq_true] at h
  obtain ⟨c, d, e, f⟩ := h
  obtain ⟨a, b⟩ := okB12 h2 h12
  refine ⟨pure_yres (gh := []) 50000 wmo (xw_ok [] kn_nil) rfl a rfl ?_, pure_yres (gh := []) 50000 wmo (xw_ok [] kn_nil) rfl b ?_ rfl, c, d, Nat.le_of_ble_eq_true e⟩
  · simp only [V.low, V.lowL, f, Bool.and_true]; rfl
  · simp only [List.all_cons, List.all_nil, f, Bool.and_true]; rfl
end Go.Proofs.YtfgdbeijjbijnaaGreatDoor

/- Streets of benches: the law's walk. -/
set_option linter.unusedSimpArgs false
set_option linter.unusedVariables false
set_option maxRecDepth 100000
namespace Go.Proofs.YtfgdbeijjbijnaaGreatDoor
open Go Go.Abs Go.Proofs
def kp5 : List (Nat × List Nat) := [(0, [0, 1, 2]), (1, [0, 1, 2, 7]), (2, [0, 1, 2, 7, 30]), (3, [6]), (4, [0, 7, 8]), (5, [0, 7, 8, 9]), (6, [0, 7, 8, 9, 10]), (7, [0, 7, 8, 9, 10, 42]), (8, [0, 7, 8, 9, 10]), (9, [0, 7, 8, 9, 10, 11]), (10, [0, 7, 8, 9, 10, 11]), (11, [0, 7, 8, 9, 10]), (12, [7, 8, 9, 12, 13]), (13, [7, 8, 13, 14, 15]), (14, [7, 8, 13, 14, 15, 16, 17, 18]), (15, [7, 8, 14, 16, 17, 18, 93]), (16, [6]), (17, [7, 8, 14, 16, 17, 18, 97]), (18, [6]), (19, [7, 8, 14, 16, 17, 18, 19]), (20, [7, 8, 14, 16, 17, 18, 19, 20]), (21, [7, 8, 14, 16, 17, 18, 19, 20, 106]), (22, [7, 8, 14, 16, 17, 18, 19, 20]), (23, [7, 8, 14, 16, 17, 18, 19, 20]), (24, [17, 18, 19, 21, 22]), (25, [6])]
theorem lk5 : lookK kp5 0 = some [0, 1, 2] ∧ lookK kp5 1 = some [0, 1, 2, 7] ∧ lookK kp5 2 = some [0, 1, 2, 7, 30] ∧ lookK kp5 3 = some [6] ∧ lookK kp5 4 = some [0, 7, 8] ∧ lookK kp5 5 = some [0, 7, 8, 9] ∧ lookK kp5 6 = some [0, 7, 8, 9, 10] ∧ lookK kp5 7 = some [0, 7, 8, 9, 10, 42] ∧ lookK kp5 8 = some [0, 7, 8, 9, 10] ∧ lookK kp5 9 = some [0, 7, 8, 9, 10, 11] ∧ lookK kp5 10 = some [0, 7, 8, 9, 10, 11] ∧ lookK kp5 11 = some [0, 7, 8, 9, 10] ∧ lookK kp5 12 = some [7, 8, 9, 12, 13] ∧ lookK kp5 13 = some [7, 8, 13, 14, 15] ∧ lookK kp5 14 = some [7, 8, 13, 14, 15, 16, 17, 18] ∧ lookK kp5 15 = some [7, 8, 14, 16, 17, 18, 93] ∧ lookK kp5 16 = some [6] ∧ lookK kp5 17 = some [7, 8, 14, 16, 17, 18, 97] ∧ lookK kp5 18 = some [6] ∧ lookK kp5 19 = some [7, 8, 14, 16, 17, 18, 19] ∧ lookK kp5 20 = some [7, 8, 14, 16, 17, 18, 19, 20] ∧ lookK kp5 21 = some [7, 8, 14, 16, 17, 18, 19, 20, 106] ∧ lookK kp5 22 = some [7, 8, 14, 16, 17, 18, 19, 20] ∧ lookK kp5 23 = some [7, 8, 14, 16, 17, 18, 19, 20] ∧ lookK kp5 24 = some [17, 18, 19, 21, 22] ∧ lookK kp5 25 = some [6] := ⟨rfl, rfl, rfl, rfl, rfl, rfl, rfl, rfl, rfl, rfl, rfl, rfl, rfl, rfl, rfl, rfl, rfl, rfl, rfl, rfl, rfl, rfl, rfl, rfl, rfl, rfl⟩

def wD (x : Int) : List D := [.int .u32 x]
def u32s (l : List Int) : V := .c (.d (.sl (l.map wD)))
def csts (l : List Int) : List Int := l.map fun x => Int.tmod x 100001
def lpC (pl de : Int) (g : Nat) (l : List Int) : List C := [.d (.int .i64 pl), .d (.int .i64 de), .d (.int .i64 0), .own g (l.map fun c => [.int .i64 0, .int .i64 (pl - 1), .int .i64 c])]
theorem idx_w {N i : Nat} (h : i < N) (h2 : N ≤ 12) : wr .i64 (wr .i64 ((N : Int) - 1) - i) = ((N - 1 - i : Nat) : Int) := by
  rw [wr_id (x := (N : Int) - 1) (by omega) (by omega), wr_id (by omega) (by omega)]; omega
theorem idx_c {N i : Nat} (h : i < N) : (decide ((0 : Int) ≤ ((N - 1 - i : Nat) : Int)) && decide (((N - 1 - i : Nat) : Int) < (N : Int))) = true := by simp; omega
theorem sum_w {A : List Int} {i : Nat} {y : Int} (hy : A[i]? = some y) (hl : A.length ≤ 12) (hb : ∀ x ∈ A, 0 ≤ x ∧ x ≤ 100000) : wr .i64 ((A.take i).sum + y) = (A.take (i + 1)).sum := by
  have hsb := sum_bnd A i (fun x hx => by have := hb x hx; omega)
  have hyb := hb y (List.mem_of_getElem? hy)
  have hi := (List.getElem?_eq_some_iff.1 hy).1
  rw [sum_take_succ hy]; exact wr_id (by omega) (by omega)
theorem nxt_w {i : Nat} (h : i < 1000) : wr .i64 ((i : Int) + 1) = ((i + 1 : Nat) : Int) := by rw [wr_id (by omega) (by omega)]; omega
set_option maxHeartbeats 8000000 in
theorem cheapLaw (cs : List Int) (hcs : ∀ x ∈ cs, 0 ≤ x ∧ x ≤ 4294967295) (d q : Int) (hd : 0 ≤ d) (hd2 : d ≤ 255) (hq : 0 ≤ q) (hq2 : q ≤ 255) (hW : PureG Tryz.prog GH3 24 [] (B true)) : ACall Tryz.prog 5 [u32s cs, .c (.d (.int .u8 d)), .c (.d (.int .u8 q))] GH3 (one (B true) GH3) := by
  refine acall_atE (bad := []) (kp := kp5) (X := tx) (nt := 143) (rs := [.tmp 6]) Tryz.func5 rfl rfl rfl rfl mo (by kernel_rfl) rfl rfl (fun hf => ?_)
  have wa := fun T => atGH3 hW T
  simp (config := { maxSteps := 2000000 }) only [go_sem, reduceIte, Nat.reduceEqDiff, Nat.reduceAdd, Nat.reduceLT, Nat.reduceLeDiff, Nat.reduceBEq, Nat.reduceMul, Nat.reduceSub, Nat.reduceDiv, Int.reduceNeg, Int.reduceLT, Int.reduceLE, Int.reduceEq, Int.reduceToNat, lk5, GH3, u32s]
  by_cases h2 : (cs.length : Int) < 2
  · simp (config := { maxSteps := 2000000 }) only [go_sem, reduceIte, Nat.reduceEqDiff, Nat.reduceAdd, Nat.reduceLT, Nat.reduceLeDiff, Nat.reduceBEq, Nat.reduceMul, Nat.reduceSub, Nat.reduceDiv, Int.reduceNeg, Int.reduceLT, Int.reduceLE, Int.reduceEq, Int.reduceToNat, lk5, h2]
    refine aops_at (wa _) rfl rfl (by first | exact wk_refls _ | (repeat constructor)) ?_
    simp (config := { maxSteps := 2000000 }) only [go_sem, reduceIte, Nat.reduceEqDiff, Nat.reduceAdd, Nat.reduceLT, Nat.reduceLeDiff, Nat.reduceBEq, Nat.reduceMul, Nat.reduceSub, Nat.reduceDiv, Int.reduceNeg, Int.reduceLT, Int.reduceLE, Int.reduceEq, Int.reduceToNat, lk5]
    all_goals first | exact .refl _ | exact ⟨.refl _, .refl _⟩ | exact ⟨.refl _, .refl _, .refl _⟩ | exact ⟨.refl _, _, rfl⟩ | exact ⟨_, rfl⟩ | exact ⟨.refl _, [], by simp⟩ | exact ⟨[], by simp⟩
  by_cases h12 : (12 : Int) < (cs.length : Int)
  · simp (config := { maxSteps := 2000000 }) only [go_sem, reduceIte, Nat.reduceEqDiff, Nat.reduceAdd, Nat.reduceLT, Nat.reduceLeDiff, Nat.reduceBEq, Nat.reduceMul, Nat.reduceSub, Nat.reduceDiv, Int.reduceNeg, Int.reduceLT, Int.reduceLE, Int.reduceEq, Int.reduceToNat, lk5, h2, h12]
    refine aops_at (wa _) rfl rfl (by first | exact wk_refls _ | (repeat constructor)) ?_
    simp (config := { maxSteps := 2000000 }) only [go_sem, reduceIte, Nat.reduceEqDiff, Nat.reduceAdd, Nat.reduceLT, Nat.reduceLeDiff, Nat.reduceBEq, Nat.reduceMul, Nat.reduceSub, Nat.reduceDiv, Int.reduceNeg, Int.reduceLT, Int.reduceLE, Int.reduceEq, Int.reduceToNat, lk5]
    all_goals first | exact .refl _ | exact ⟨.refl _, .refl _⟩ | exact ⟨.refl _, .refl _, .refl _⟩ | exact ⟨.refl _, _, rfl⟩ | exact ⟨_, rfl⟩ | exact ⟨.refl _, [], by simp⟩ | exact ⟨[], by simp⟩
  have w1 : wr .i64 q = q := wr_id (by omega) (by omega)
  have w2 : wr .i64 d = d := wr_id (by omega) (by omega)
  have w3 : wr .i64 (1 + Int.tmod q 40) = 1 + Int.tmod q 40 := by
    have := Int.tmod_lt_of_pos q (b := 40) (by decide)
    have := Int.tmod_nonneg 40 hq
    exact wr_id (by omega) (by omega)
  simp (config := { maxSteps := 2000000 }) only [go_sem, reduceIte, Nat.reduceEqDiff, Nat.reduceAdd, Nat.reduceLT, Nat.reduceLeDiff, Nat.reduceBEq, Nat.reduceMul, Nat.reduceSub, Nat.reduceDiv, Int.reduceNeg, Int.reduceLT, Int.reduceLE, Int.reduceEq, Int.reduceToNat, lk5, h2, h12, w1, w2, w3]
  have pl1 := Int.tmod_lt_of_pos q (b := 40) (by decide)
  have pl0 := Int.tmod_nonneg 40 hq
  have de1 := Int.tmod_lt_of_pos d (b := 3) (by decide)
  have de0 := Int.tmod_nonneg 3 hd
  obtain ⟨pl, hpl⟩ : ∃ pl, pl = 1 + Int.tmod q 40 := ⟨_, rfl⟩
  obtain ⟨de, hde⟩ : ∃ de, de = Int.tmod d 3 := ⟨_, rfl⟩
  rw [← hpl, ← hde]
  rw [← hde] at de0 de1
  have p1 : 1 ≤ pl := by omega
  have p40 : pl ≤ 40 := by omega
  have w4 : wr .i64 (pl - 1) = pl - 1 := wr_id (by omega) (by omega)
  have hlow : ∀ n l, [glNone, glFirst, glBits, AB.cells (lpC pl de 5 l), .grow n 1, .grow n 3].all (AB.low 6) = true := fun n l => by
    show (AB.low 6 glNone && (AB.low 6 glFirst && (AB.low 6 glBits && (AB.low 6 (.cells (lpC pl de 5 l)) && (AB.low 6 (.grow n 1) && (AB.low 6 (.grow n 3) && true)))))) = true
    rw [low_none, low_first, low_bits]
    simp only [AB.low, lpC, C.lowL, C.low]
    rfl
  have hcl : (csts cs).length = cs.length := by simp [csts]
  refine goE_loop (bad := []) (kp := kp5) (fun i : Nat => { slots := [(0, .c (.d (.sl (cs.map wD)))), (7, I cs.length), (8, .c (.ptr 3 0)), (9, .c (.own 4 (((csts cs).take i).map iD))), (10, I i)], heap := [glNone, glFirst, glBits, .cells (lpC pl de 5 ((csts cs).take i)), .grow i 1, .grow i 3], marks := [] }) (fun i => i ≤ cs.length) (fun i => cs.length - i) 0 mo (by kernel_rfl) ?_ (Nat.zero_le _) ?_
  · refine Ent.trans (ent_own 9 1 rfl) ?_
    refine Ent.trans (ent_own_cell 3 3 3 rfl rfl) ?_
    refine ent_weaken [] rfl rfl (show 3 ≤ 6 by decide) (hlow 0 []) rfl ?_
    simp (config := { maxSteps := 2000000 }) only [go_sem, reduceIte, Nat.reduceEqDiff, Nat.reduceAdd, Nat.reduceLT, Nat.reduceLeDiff, Nat.reduceBEq, Nat.reduceMul, Nat.reduceSub, Nat.reduceDiv, Int.reduceNeg, Int.reduceLT, Int.reduceLE, Int.reduceEq, Int.reduceToNat, lk5, lpC, List.take_zero, List.map_nil]
    all_goals first | exact .refl _ | exact ⟨.refl _, .refl _⟩ | exact ⟨.refl _, .refl _, .refl _⟩ | exact ⟨.refl _, _, rfl⟩ | exact ⟨_, rfl⟩ | exact ⟨.refl _, [], by simp⟩ | exact ⟨[], by simp⟩
  rintro i hi
  simp (config := { maxSteps := 2000000 }) only [go_sem, reduceIte, Nat.reduceEqDiff, Nat.reduceAdd, Nat.reduceLT, Nat.reduceLeDiff, Nat.reduceBEq, Nat.reduceMul, Nat.reduceSub, Nat.reduceDiv, Int.reduceNeg, Int.reduceLT, Int.reduceLE, Int.reduceEq, Int.reduceToNat, lk5, lpC]
  refine goE_if (fun h => ?_) (fun h => ?_)
  · have hlt : i < cs.length := by simpa using h
    obtain ⟨x, hx⟩ := get_of_lt hlt
    obtain ⟨x0, x1⟩ := hcs x (List.mem_of_getElem? hx)
    have hpm : (cs.map wD)[i]? = some [.int .u32 x] := by rw [List.getElem?_map, hx]; rfl
    have hpc : (csts cs)[i]? = some (Int.tmod x 100001) := by rw [csts, List.getElem?_map, hx]; rfl
    have cx : (decide ((0 : Int) ≤ (i : Int)) && decide ((i : Int) < (cs.length : Int))) = true := by simp; omega
    have w5 : wr .i64 x = x := wr_id (by omega) (by omega)
    have htk : ((csts cs).take i).length = i := by simp [hcl]; omega
    simp (config := { maxSteps := 2000000 }) only [go_sem, reduceIte, Nat.reduceEqDiff, Nat.reduceAdd, Nat.reduceLT, Nat.reduceLeDiff, Nat.reduceBEq, Nat.reduceMul, Nat.reduceSub, Nat.reduceDiv, Int.reduceNeg, Int.reduceLT, Int.reduceLE, Int.reduceEq, Int.reduceToNat, lk5, hpm, cx, w4, w5, htk, lpC]
    refine ⟨by simp [iD]; omega, by simp; omega, i + 1, hlt, by omega, ?_⟩
    refine ent_weaken [] (by simp only [lpC, take_succ_eq hpc, List.map_append, List.map_cons, List.map_nil, List.append_nil]) rfl (show 3 ≤ 6 by decide) (hlow (i + 1) ((csts cs).take (i + 1))) rfl ?_
    simp (config := { maxSteps := 2000000 }) only [go_sem, reduceIte, Nat.reduceEqDiff, Nat.reduceAdd, Nat.reduceLT, Nat.reduceLeDiff, Nat.reduceBEq, Nat.reduceMul, Nat.reduceSub, Nat.reduceDiv, Int.reduceNeg, Int.reduceLT, Int.reduceLE, Int.reduceEq, Int.reduceToNat, lk5, lpC, wr_succ hlt (show cs.length ≤ 140737488355328 by omega), take_succ_eq hpc, List.map_append, List.map_cons, List.map_nil, iD]
    all_goals first | exact .refl _ | exact ⟨.refl _, .refl _⟩ | exact ⟨.refl _, .refl _, .refl _⟩ | exact ⟨.refl _, _, rfl⟩ | exact ⟨_, rfl⟩ | exact ⟨.refl _, [], by simp⟩ | exact ⟨[], by simp⟩
  · have hi' : i = cs.length := by simp at h; omega
    subst hi'
    obtain ⟨xs, hxs⟩ : ∃ xs, xs = csts cs := ⟨_, rfl⟩
    have hxb : ∀ x ∈ xs, 0 ≤ x ∧ x ≤ 100000 := fun x hx => by
      rw [hxs] at hx
      obtain ⟨y, hy, rfl⟩ := List.mem_map.1 hx
      have h1 := Int.tmod_lt_of_pos y (b := 100001) (by decide)
      have h2 := Int.tmod_nonneg 100001 (hcs y hy).1
      show 0 ≤ Int.tmod y 100001 ∧ Int.tmod y 100001 ≤ 100000
      omega
    have htake : (csts cs).take cs.length = xs := by rw [hxs, ← hcl, List.take_length]
    rw [← hxs] at hcl
    obtain ⟨k31, k80, ok, hs, hp1⟩ := okB_n (n := cs.length) (by omega) (by omega)
    obtain ⟨p, hp⟩ : ∃ p, p = prg cs.length := ⟨_, rfl⟩
    rw [← hp] at k31 k80 ok hs hp1
    rw [← hcl] at k80 ok hs
    have hrun := run32 p xs (by omega) (by omega) hxb hp1 ok k80
    have hr : OkR (lampR pl de xs) := lampR_ok p1 p40 de0 (by omega) (by omega) (fun c hc => by have := hxb c hc; omega)
    obtain ⟨b, c, pr, n, s1, _, s3, s4⟩ := street_told hr
    have t1 := fun T => atGH s1 rfl rfl T
    have hps : (lampR pl de xs).ps.map pD = xs.map fun c => [D.int .i64 0, D.int .i64 (pl - 1), D.int .i64 c] := by simp [lampR, pD]
    have hrv : roadV (lampR pl de xs) = .agg [.d (.int .i64 pl), .d (.int .i64 de), .d (.int .i64 0), .d (.sl (xs.map fun c => [D.int .i64 0, D.int .i64 (pl - 1), D.int .i64 c]))] := by unfold roadV roadC; rw [hps]; rfl
    rw [hrv] at t1
    have h18 := check18 (lampR pl de xs) c
    rw [hrv] at h18
    obtain ⟨ds, hds⟩ : ∃ ds, ds = xs.map fun c => [D.int .i64 0, D.int .i64 (pl - 1), D.int .i64 c] := ⟨_, rfl⟩
    rw [← hds] at t1 h18
    have hsl : (runQ p xs).length = cs.length := by rw [runQ_len, hcl]
    simp only [prs, ints] at k31 hrun t1 h18
    simp (config := { maxSteps := 2000000 }) only [go_sem, reduceIte, Nat.reduceEqDiff, Nat.reduceAdd, Nat.reduceLT, Nat.reduceLeDiff, Nat.reduceBEq, Nat.reduceMul, Nat.reduceSub, Nat.reduceDiv, Int.reduceNeg, Int.reduceLT, Int.reduceLE, Int.reduceEq, Int.reduceToNat, lk5, htake, lpC, ← hds]
    refine aops_pure' (k31) rfl rfl (by first | exact wk_refls _ | (repeat constructor)) ?_
    simp (config := { maxSteps := 2000000 }) only [go_sem, reduceIte, Nat.reduceEqDiff, Nat.reduceAdd, Nat.reduceLT, Nat.reduceLeDiff, Nat.reduceBEq, Nat.reduceMul, Nat.reduceSub, Nat.reduceDiv, Int.reduceNeg, Int.reduceLT, Int.reduceLE, Int.reduceEq, Int.reduceToNat, lk5]
    refine aops_pure' (hrun) rfl rfl (by first | exact wk_refls _ | (repeat constructor)) ?_
    simp (config := { maxSteps := 2000000 }) only [go_sem, reduceIte, Nat.reduceEqDiff, Nat.reduceAdd, Nat.reduceLT, Nat.reduceLeDiff, Nat.reduceBEq, Nat.reduceMul, Nat.reduceSub, Nat.reduceDiv, Int.reduceNeg, Int.reduceLT, Int.reduceLE, Int.reduceEq, Int.reduceToNat, lk5]
    refine aops_at (t1 _) rfl rfl (by first | exact wk_refls _ | (repeat constructor)) ?_
    simp (config := { maxSteps := 2000000 }) only [go_sem, reduceIte, Nat.reduceEqDiff, Nat.reduceAdd, Nat.reduceLT, Nat.reduceLeDiff, Nat.reduceBEq, Nat.reduceMul, Nat.reduceSub, Nat.reduceDiv, Int.reduceNeg, Int.reduceLT, Int.reduceLE, Int.reduceEq, Int.reduceToNat, lk5, hsl]
    by_cases hle : (cs.length : Int) ≤ de
    · have hb : b = false := by
        cases b with
        | false => rfl
        | true => have := (s3 rfl).hold; rw [lamps_dark p1 (by omega)] at this; cases this
      subst hb
      simp (config := { maxSteps := 2000000 }) only [go_sem, reduceIte, Nat.reduceEqDiff, Nat.reduceAdd, Nat.reduceLT, Nat.reduceLeDiff, Nat.reduceBEq, Nat.reduceMul, Nat.reduceSub, Nat.reduceDiv, Int.reduceNeg, Int.reduceLT, Int.reduceLE, Int.reduceEq, Int.reduceToNat, lk5, hle]
      refine aops_at (wa _) rfl rfl (by first | exact wk_refls _ | (repeat constructor)) ?_
      simp (config := { maxSteps := 2000000 }) only [go_sem, reduceIte, Nat.reduceEqDiff, Nat.reduceAdd, Nat.reduceLT, Nat.reduceLeDiff, Nat.reduceBEq, Nat.reduceMul, Nat.reduceSub, Nat.reduceDiv, Int.reduceNeg, Int.reduceLT, Int.reduceLE, Int.reduceEq, Int.reduceToNat, lk5]
      all_goals first | exact .refl _ | exact ⟨.refl _, .refl _⟩ | exact ⟨.refl _, .refl _, .refl _⟩ | exact ⟨.refl _, _, rfl⟩ | exact ⟨_, rfl⟩ | exact ⟨.refl _, [], by simp⟩ | exact ⟨[], by simp⟩
    · have hb : b = true := by
        cases b with
        | true => rfl
        | false =>
          obtain ⟨ch, hch⟩ := lamps_lit (pl := pl) (de := de) (cs := xs) (by omega)
          rw [s4 rfl] at hch; cases hch
      subst hb
      have hbest := s3 rfl
      have hn := lamps_best ok hs hr (by omega) (fun x hx => by have := hxb x hx; omega) hbest
      obtain ⟨A, hA⟩ : ∃ A, A = (runQ p xs).reverse := ⟨_, rfl⟩
      have hAl : A.length = cs.length := by rw [hA, List.length_reverse, hsl]
      have hAb : ∀ x ∈ A, 0 ≤ x ∧ x ≤ 100000 := fun x hx => by
        rw [hA, List.mem_reverse] at hx
        exact runQ_mem (p := p) (l := xs) (Q := fun x => 0 ≤ x ∧ x ≤ 100000) ok hxb x hx
      rw [← hA] at hn
      have hok : okHold (lampR pl de xs) c = 0 := by simp [okHold, hbest.ch, hbest.hold]
      rw [if_pos hok, hok, hbest.cost] at h18
      simp (config := { maxSteps := 2000000 }) only [go_sem, reduceIte, Nat.reduceEqDiff, Nat.reduceAdd, Nat.reduceLT, Nat.reduceLeDiff, Nat.reduceBEq, Nat.reduceMul, Nat.reduceSub, Nat.reduceDiv, Int.reduceNeg, Int.reduceLT, Int.reduceLE, Int.reduceEq, Int.reduceToNat, lk5, hle]
      have hrl : (lampR pl de xs).ps.length = xs.length := lampR_len _ _ _
      refine goE_loop (bad := []) (kp := kp5) (fun i : Nat => { slots := [(7, I cs.length), (8, .c (.ptr 3 0)), (14, .c (.d (.sl ((runQ p xs).map iD)))), (16, .c (.d (.sl (c.map iD)))), (17, I n), (18, I 0), (19, I (A.take i).sum), (20, I i)], heap := [glNone, glFirst, glBits, .cells (lpC pl de 5 xs), .grow cs.length 1, .grow cs.length 3], marks := [] }) (fun i => (i : Int) ≤ de + 1) (fun i => de.toNat + 1 - i) 0 mo (by kernel_rfl) ?_ (by show ((0 : Nat) : Int) ≤ de + 1; omega) ?_
      · refine ent_weaken [] (by simp only [lpC, ← hds, List.append_nil]) rfl (show 3 ≤ 6 by decide) (hlow cs.length xs) rfl ?_
        simp (config := { maxSteps := 2000000 }) only [go_sem, reduceIte, Nat.reduceEqDiff, Nat.reduceAdd, Nat.reduceLT, Nat.reduceLeDiff, Nat.reduceBEq, Nat.reduceMul, Nat.reduceSub, Nat.reduceDiv, Int.reduceNeg, Int.reduceLT, Int.reduceLE, Int.reduceEq, Int.reduceToNat, lk5, List.take_zero, List.sum_nil, ints]
        all_goals first | exact .refl _ | exact ⟨.refl _, .refl _⟩ | exact ⟨.refl _, .refl _, .refl _⟩ | exact ⟨.refl _, _, rfl⟩ | exact ⟨_, rfl⟩ | exact ⟨.refl _, [], by simp⟩ | exact ⟨[], by simp⟩
      rintro i hi
      simp (config := { maxSteps := 2000000 }) only [go_sem, reduceIte, Nat.reduceEqDiff, Nat.reduceAdd, Nat.reduceLT, Nat.reduceLeDiff, Nat.reduceBEq, Nat.reduceMul, Nat.reduceSub, Nat.reduceDiv, Int.reduceNeg, Int.reduceLT, Int.reduceLE, Int.reduceEq, Int.reduceToNat, lk5, lpC, ← hds]
      refine goE_if (fun h => ?_) (fun h => ?_)
      · have hile : (i : Int) ≤ de := by simpa using h
        have hiA : i < A.length := by omega
        obtain ⟨y, hy⟩ := get_of_lt hiA
        have hyr : (runQ p xs)[cs.length - 1 - i]? = some y := by
          rw [hA, List.getElem?_reverse (by omega), hsl] at hy; exact hy
        have hym : ((runQ p xs).map iD)[cs.length - 1 - i]? = some [.int .i64 y] := by rw [List.getElem?_map, hyr]; rfl
        have n1 : cs.length ≤ 12 := by omega
        have n2 : i < cs.length := by omega
        have n3 : ((i + 1 : Nat) : Int) ≤ de + 1 := by omega
        have n4 : de.toNat + 1 - (i + 1) < de.toNat + 1 - i := by omega
        have w6 := idx_w n2 n1
        have w7 := sum_w hy (by rw [hAl]; exact n1) hAb
        have cx := idx_c n2
        have w8 := nxt_w (Nat.lt_trans n2 (Nat.lt_of_le_of_lt n1 (by decide)))
        simp (config := { maxSteps := 2000000 }) only [go_sem, reduceIte, Nat.reduceEqDiff, Nat.reduceAdd, Nat.reduceLT, Nat.reduceLeDiff, Nat.reduceBEq, Nat.reduceMul, Nat.reduceSub, Nat.reduceDiv, Int.reduceNeg, Int.reduceLT, Int.reduceLE, Int.reduceEq, Int.reduceToNat, lk5, w6, hym, hsl, cx, w7, w8, lpC, ← hds]
        refine ⟨i + 1, n3, n4, ?_⟩
        refine ent_weaken [] (by simp only [lpC, ← hds, List.append_nil]) rfl (show 3 ≤ 6 by decide) (hlow cs.length xs) rfl ?_
        simp (config := { maxSteps := 2000000 }) only [go_sem, reduceIte, Nat.reduceEqDiff, Nat.reduceAdd, Nat.reduceLT, Nat.reduceLeDiff, Nat.reduceBEq, Nat.reduceMul, Nat.reduceSub, Nat.reduceDiv, Int.reduceNeg, Int.reduceLT, Int.reduceLE, Int.reduceEq, Int.reduceToNat, lk5]
        all_goals first | exact .refl _ | exact ⟨.refl _, .refl _⟩ | exact ⟨.refl _, .refl _, .refl _⟩ | exact ⟨.refl _, _, rfl⟩ | exact ⟨_, rfl⟩ | exact ⟨.refl _, [], by simp⟩ | exact ⟨[], by simp⟩
      · have hi' : i = de.toNat + 1 := by simp at h; omega
        subst hi'
        rw [← hn]
        simp (config := { maxSteps := 2000000 }) only [go_sem, reduceIte, Nat.reduceEqDiff, Nat.reduceAdd, Nat.reduceLT, Nat.reduceLeDiff, Nat.reduceBEq, Nat.reduceMul, Nat.reduceSub, Nat.reduceDiv, Int.reduceNeg, Int.reduceLT, Int.reduceLE, Int.reduceEq, Int.reduceToNat, lk5, lpC, ← hds]
        refine aops_pure' (h18) rfl rfl (by first | exact wk_refls _ | (repeat constructor)) ?_
        simp (config := { maxSteps := 2000000 }) only [go_sem, reduceIte, Nat.reduceEqDiff, Nat.reduceAdd, Nat.reduceLT, Nat.reduceLeDiff, Nat.reduceBEq, Nat.reduceMul, Nat.reduceSub, Nat.reduceDiv, Int.reduceNeg, Int.reduceLT, Int.reduceLE, Int.reduceEq, Int.reduceToNat, lk5]
        refine aops_at (wa _) rfl rfl (by first | exact wk_refls _ | (repeat constructor)) ?_
        simp (config := { maxSteps := 2000000 }) only [go_sem, reduceIte, Nat.reduceEqDiff, Nat.reduceAdd, Nat.reduceLT, Nat.reduceLeDiff, Nat.reduceBEq, Nat.reduceMul, Nat.reduceSub, Nat.reduceDiv, Int.reduceNeg, Int.reduceLT, Int.reduceLE, Int.reduceEq, Int.reduceToNat, lk5]
        all_goals first | exact .refl _ | exact ⟨.refl _, .refl _⟩ | exact ⟨.refl _, .refl _, .refl _⟩ | exact ⟨.refl _, _, rfl⟩ | exact ⟨_, rfl⟩ | exact ⟨.refl _, [], by simp⟩ | exact ⟨[], by simp⟩
end Go.Proofs.YtfgdbeijjbijnaaGreatDoor

/- A list of uint32 as an argument. -/
set_option linter.unusedSimpArgs false
set_option linter.unusedVariables false
set_option maxRecDepth 100000
namespace Go.Proofs.YtfgdbeijjbijnaaGreatDoor
open Go Go.Abs Go.Proofs
theorem has_u32 {n : Nat} {ds : List D} (h : HasT Tryz.prog n 70 ds) : ∃ m : Int, ds = wD m ∧ 0 ≤ m ∧ m ≤ 4294967295 := by
  cases n with
  | zero => exact h.elim
  | succ n =>
    simp only [HasT, Tryz.underlying70] at h
    obtain ⟨m, h, hw⟩ := h
    refine ⟨m, h, ?_⟩
    simp [Lit.wf, IntKind.min, IntKind.max, IntKind.signed, IntKind.bits] at hw
    omega
theorem arg_u32s {n : Nat} {ds : List D} (h : HasT Tryz.prog n 90 ds) : ∃ l : List Int, argV Tryz.prog 90 ds = u32s l ∧ ∀ x ∈ l, 0 ≤ x ∧ x ≤ 4294967295 := by
  cases n with
  | zero => exact h.elim
  | succ n =>
    simp only [HasT, Tryz.underlying90] at h
    obtain ⟨rows, rfl, hw, hr⟩ := h
    have : ∃ l : List Int, rows = l.map wD ∧ ∀ x ∈ l, 0 ≤ x ∧ x ≤ 4294967295 := by
      clear hw
      induction rows with
      | nil => exact ⟨[], rfl, by intro x hx; simp at hx⟩
      | cons r rows ih =>
        obtain ⟨m, hm, h0⟩ := has_u32 (hr r (by simp))
        obtain ⟨l, hl, hb⟩ := ih (fun r hr' => hr r (List.mem_cons_of_mem _ hr'))
        refine ⟨m :: l, by rw [hm, hl]; rfl, ?_⟩
        intro x hx
        rcases List.mem_cons.1 hx with rfl | hx
        · exact h0
        · exact hb x hx
    obtain ⟨l, rfl, hb⟩ := this
    exact ⟨l, by simp [argV, Tryz.underlying90, u32s], hb⟩
end Go.Proofs.YtfgdbeijjbijnaaGreatDoor

/- The row's closed facts. -/
set_option linter.unusedSimpArgs false
set_option linter.unusedVariables false
set_option maxRecDepth 100000
namespace Go.Proofs.YtfgdbeijjbijnaaGreatDoor
open Go Go.Abs Go.Proofs
set_option maxHeartbeats 4000000 in
theorem topCheapestLamps_joined : joinedFacts Tryz.pinned.checked.prog 5 Tryz.f5 (OpenSpec.ofChange Rows.topCheapestLampsSpec).bare Rows.topCheapestLampsRow = true := by
  simp only [joinedFacts, Bool.and_eq_true]
  refine ⟨⟨⟨⟨⟨⟨⟨⟨⟨⟨⟨⟨⟨⟨⟨⟨⟨⟨⟨⟨⟨⟨⟨⟨⟨⟨⟨⟨⟨⟨⟨?_, ?_⟩, ?_⟩, ?_⟩, ?_⟩, ?_⟩, ?_⟩, ?_⟩, ?_⟩, ?_⟩, ?_⟩, ?_⟩, ?_⟩, ?_⟩, ?_⟩, ?_⟩, ?_⟩, ?_⟩, ?_⟩, ?_⟩, ?_⟩, ?_⟩, ?_⟩, ?_⟩, ?_⟩, ?_⟩, ?_⟩, ?_⟩, ?_⟩, ?_⟩, ?_⟩, ?_⟩
  all_goals as_aux_lemma => kernel_rfl
end Go.Proofs.YtfgdbeijjbijnaaGreatDoor

