/- Dyes: small functions of the statements; Works. -/
import Derived.Test.YtkbnmanfoejoiaaDL4
import Derived.Test.YtkbnmanfoejoiaaD20b
import Derived.Test.YtkbnmanfoejoiaaD20
set_option linter.unusedSimpArgs false
set_option linter.unusedVariables false
set_option maxRecDepth 100000
namespace Go.Proofs.Ytkbnmanfoejoiaa
open Go Go.Abs Go.Proofs
def kp13 : List (Nat × List Nat) := [(0, []), (1, [1]), (2, [1, 2, 3, 4]), (3, [1, 2, 3, 4, 5, 6]), (4, [1, 2, 3, 4, 5, 6, 8]), (5, [1, 2, 3, 4, 5, 6, 8, 10]), (6, [1, 2, 3, 4, 5, 6, 8, 10, 11, 12, 13]), (7, [1, 2, 3, 4, 5, 6, 8, 10, 11, 12, 13, 16]), (8, [1, 2, 3, 4, 5, 6, 8, 10, 11, 12, 13, 16, 17, 18]), (9, [1, 2, 3, 4, 5, 6, 8, 10, 11, 12, 13, 16, 17, 18, 19, 20]), (10, [1, 2, 3, 4, 5, 6, 8, 10, 11, 12, 13, 16, 17, 18, 19, 20, 21, 22]), (11, [1, 2, 3, 4, 5, 6, 8, 10, 11, 12, 13, 16, 17, 18, 19, 20, 22, 23, 24]), (12, [1, 2, 3, 5, 11, 12, 17, 19, 23, 131]), (13, [0]), (14, [2, 3, 5, 12, 17, 19, 23, 25, 26]), (15, [0])]
theorem lk13 : lookK kp13 0 = some [] ∧ lookK kp13 1 = some [1] ∧ lookK kp13 2 = some [1, 2, 3, 4] ∧ lookK kp13 3 = some [1, 2, 3, 4, 5, 6] ∧ lookK kp13 4 = some [1, 2, 3, 4, 5, 6, 8] ∧ lookK kp13 5 = some [1, 2, 3, 4, 5, 6, 8, 10] ∧ lookK kp13 6 = some [1, 2, 3, 4, 5, 6, 8, 10, 11, 12, 13] ∧ lookK kp13 7 = some [1, 2, 3, 4, 5, 6, 8, 10, 11, 12, 13, 16] ∧ lookK kp13 8 = some [1, 2, 3, 4, 5, 6, 8, 10, 11, 12, 13, 16, 17, 18] ∧ lookK kp13 9 = some [1, 2, 3, 4, 5, 6, 8, 10, 11, 12, 13, 16, 17, 18, 19, 20] ∧ lookK kp13 10 = some [1, 2, 3, 4, 5, 6, 8, 10, 11, 12, 13, 16, 17, 18, 19, 20, 21, 22] ∧ lookK kp13 11 = some [1, 2, 3, 4, 5, 6, 8, 10, 11, 12, 13, 16, 17, 18, 19, 20, 22, 23, 24] ∧ lookK kp13 12 = some [1, 2, 3, 5, 11, 12, 17, 19, 23, 131] ∧ lookK kp13 13 = some [0] ∧ lookK kp13 14 = some [2, 3, 5, 12, 17, 19, 23, 25, 26] ∧ lookK kp13 15 = some [0] := ⟨rfl, rfl, rfl, rfl, rfl, rfl, rfl, rfl, rfl, rfl, rfl, rfl, rfl, rfl, rfl, rfl⟩
def kp32 : List (Nat × List Nat) := [(0, [0, 3]), (1, [4])]
theorem lk32 : lookK kp32 0 = some [0, 3] ∧ lookK kp32 1 = some [4] := ⟨rfl, rfl⟩
def kp33 : List (Nat × List Nat) := [(0, [0, 1]), (1, [0, 1, 5]), (2, [0, 1, 5, 6]), (3, [0, 1, 5, 6, 11]), (4, [0, 1, 5, 6]), (5, [0, 1, 5, 6, 7]), (6, [0, 1, 5, 6, 7, 17]), (7, [0, 1, 5, 6, 7]), (8, [0, 1, 5, 6]), (9, [4])]
theorem lk33 : lookK kp33 0 = some [0, 1] ∧ lookK kp33 1 = some [0, 1, 5] ∧ lookK kp33 2 = some [0, 1, 5, 6] ∧ lookK kp33 3 = some [0, 1, 5, 6, 11] ∧ lookK kp33 4 = some [0, 1, 5, 6] ∧ lookK kp33 5 = some [0, 1, 5, 6, 7] ∧ lookK kp33 6 = some [0, 1, 5, 6, 7, 17] ∧ lookK kp33 7 = some [0, 1, 5, 6, 7] ∧ lookK kp33 8 = some [0, 1, 5, 6] ∧ lookK kp33 9 = some [4] := ⟨rfl, rfl, rfl, rfl, rfl, rfl, rfl, rfl, rfl, rfl⟩
def kp35 : List (Nat × List Nat) := [(0, [0, 1, 2, 3, 8]), (1, [8])]
theorem lk35 : lookK kp35 0 = some [0, 1, 2, 3, 8] ∧ lookK kp35 1 = some [8] := ⟨rfl, rfl⟩
def kp36 : List (Nat × List Nat) := [(0, [0]), (1, [0, 3]), (2, [0, 3, 4]), (3, [0, 3, 4, 8]), (4, [0, 3, 4]), (5, [0, 3, 4]), (6, [2])]
theorem lk36 : lookK kp36 0 = some [0] ∧ lookK kp36 1 = some [0, 3] ∧ lookK kp36 2 = some [0, 3, 4] ∧ lookK kp36 3 = some [0, 3, 4, 8] ∧ lookK kp36 4 = some [0, 3, 4] ∧ lookK kp36 5 = some [0, 3, 4] ∧ lookK kp36 6 = some [2] := ⟨rfl, rfl, rfl, rfl, rfl, rfl, rfl⟩
def kp37 : List (Nat × List Nat) := [(0, []), (1, [0])]
theorem lk37 : lookK kp37 0 = some [] ∧ lookK kp37 1 = some [0] := ⟨rfl, rfl⟩
def kp38 : List (Nat × List Nat) := [(0, [0, 2]), (1, [2])]
theorem lk38 : lookK kp38 0 = some [0, 2] ∧ lookK kp38 1 = some [2] := ⟨rfl, rfl⟩

theorem kind35 (a b p f : Int) : Pure Try.prog 35 [I a, I b, I p, I f] (dyV ⟨a, b, p, f⟩) := by
  refine pure_wkE (bad := []) (kp := kp35) (X := tx) (nt := 15) (rs := [.cell 8 58]) Try.func35 rfl rfl rfl rfl mo (by kernel_rfl) rfl rfl (fun hf => ?_)
  simp (maxSteps := 2000000) only [go_sem, reduceIte, Nat.reduceEqDiff, Nat.reduceAdd, Nat.reduceLeDiff, Nat.reduceBEq, Nat.reduceMul, lk13, lk32, lk33, lk35, lk36, lk37, lk38, dyV, dyC]
theorem want38 (f : Int) : Pure Try.prog 38 [I f] (wnV (wt0 f)) := by
  refine pure_wkE (bad := []) (kp := kp38) (X := tx) (nt := 8) (rs := [.cell 2 27]) Try.func38 rfl rfl rfl rfl mo (by kernel_rfl) rfl rfl (fun hf => ?_)
  simp (maxSteps := 2000000) only [go_sem, reduceIte, Nat.reduceEqDiff, Nat.reduceAdd, Nat.reduceLeDiff, Nat.reduceBEq, Nat.reduceMul, lk13, lk32, lk33, lk35, lk36, lk37, lk38, wnV, wnC, wt0]
theorem shelf37 : Pure Try.prog 37 [] (dys sh0) := by
  refine pure_wkE (bad := []) (kp := kp37) (X := tx) (nt := 5) (rs := [.tmp 0]) Try.func37 rfl rfl rfl rfl mo (by kernel_rfl) rfl rfl (fun hf => ?_)
  have k1 := kind35 2 1 5 6
  have k2 := kind35 0 3 4 3
  have k3 := kind35 1 0 3 8
  simp (maxSteps := 2000000) only [go_sem, lk13, lk32, lk33, lk35, lk36, lk37, lk38, dyV, dyC] at k1 k2 k3
  simp (maxSteps := 2000000) only [go_sem, reduceIte, Nat.reduceAdd, lk13, lk32, lk33, lk35, lk36, lk37, lk38]
  refine aops_pure' (k1) rfl rfl (by first | exact wk_refls _ | (repeat constructor)) ?_
  simp (maxSteps := 2000000) only [go_sem, reduceIte, Nat.reduceEqDiff, lk13, lk32, lk33, lk35, lk36, lk37, lk38]
  refine aops_pure' (k2) rfl rfl (by first | exact wk_refls _ | (repeat constructor)) ?_
  simp (maxSteps := 2000000) only [go_sem, reduceIte, Nat.reduceEqDiff, lk13, lk32, lk33, lk35, lk36, lk37, lk38]
  refine aops_pure' (k3) rfl rfl (by first | exact wk_refls _ | (repeat constructor)) ?_
  simp (maxSteps := 2000000) only [go_sem, reduceIte, Nat.reduceEqDiff, Nat.reduceAdd, Nat.reduceLeDiff, Nat.reduceBEq, Nat.reduceMul, lk13, lk32, lk33, lk35, lk36, lk37, lk38, dys, sh0, dyD]
  all_goals first | exact .refl _ | exact ⟨.refl _, .refl _⟩ | exact ⟨.refl _, .refl _, .refl _⟩ | exact ⟨.refl _, _, rfl⟩ | exact ⟨_, rfl⟩ | exact ⟨.refl _, [], by simp⟩ | exact ⟨[], by simp⟩
theorem fine32 (l : List Dy) (w : Wn) : Pure Try.prog 32 [dys l, wnV w] (B (decide (okWn l w = 0))) := by
  refine pure_wkE (bad := []) (kp := kp32) (X := tx) (nt := 14) (rs := [.tmp 4]) Try.func32 rfl rfl rfl rfl mo (by kernel_rfl) rfl rfl (fun hf => ?_)
  have hw := wanted26 l w
  unfold wnV wnC at hw
  simp (maxSteps := 2000000) only [go_sem, reduceIte, Nat.reduceEqDiff, Nat.reduceAdd, lk13, lk32, lk33, lk35, lk36, lk37, lk38, wnV, wnC, dys]
  by_cases h : l.length ≤ 12
  · have h' : (l.length : Int) ≤ 12 := by omega
    simp (maxSteps := 2000000) only [go_sem, reduceIte, Nat.reduceEqDiff, Nat.reduceAdd, lk13, lk32, lk33, lk35, lk36, lk37, lk38, h']
    refine aops_pure' (hw) rfl rfl (by first | exact wk_refls _ | (repeat constructor)) ?_
    simp (maxSteps := 2000000) only [go_sem, reduceIte, Nat.reduceEqDiff, lk13, lk32, lk33, lk35, lk36, lk37, lk38]
  · have h' : ¬ (l.length : Int) ≤ 12 := by omega
    have e : ¬ okWn l w = 0 := fun h0 => h (by have := ((okWn_iff l w).1 h0).1.n8; omega)
    simp (maxSteps := 2000000) only [go_sem, reduceIte, Nat.reduceEqDiff, lk13, lk32, lk33, lk35, lk36, lk37, lk38, h', e]
theorem app_ok {n : Nat} (l : List Int) (h : n ≤ 1000000) : ((l.all fun x => (iD x).length == 1) && decide ((n + 1 + (n + 1) / 4 + 256) * 8 ≤ 281474976710656) && decide (n ≤ 140737488355327)) = true := by
  simp [iD]; omega
def u8s (l : List Int) : V := .c (.d (.sl (l.map fun b => [.int .u8 b])))
def recL (n : Nat) (by' : List Int) : List Int := (List.range n).map fun i => if i < by'.length then gI by' i % 21 else 0
theorem recL_len (n : Nat) (by' : List Int) : (recL n by').length = n := by simp [recL]
theorem recL_succ (n : Nat) (by' : List Int) : recL (n + 1) by' = recL n by' ++ [if n < by'.length then gI by' n % 21 else 0] := by simp [recL, List.range_succ]
theorem recL_get {n i : Nat} (by' : List Int) (h : i < n) : gI (recL n by') i = if i < by'.length then gI by' i % 21 else 0 := by simp [recL, gI, List.getD, h]
/-- Small numbers. -/
def U8 (l : List Int) : Prop := ∀ x ∈ l, 0 ≤ x ∧ x < 256
theorem U8.g {l : List Int} (h : U8 l) {i : Nat} (hi : i < l.length) : 0 ≤ gI l i ∧ gI l i < 256 := h _ (List.mem_of_getElem? (gI_lt hi))
theorem recL_ok {l : List Dy} (by' : List Int) : OkR l (recL l.length by') := by
  refine ⟨recL_len _ _, fun x hx => ?_⟩
  obtain ⟨i, hi, rfl⟩ := List.mem_map.1 hx
  split <;> omega
theorem tmod_u8 {x : Int} (h : 0 ≤ x) : x.tmod 21 = x % 21 := Int.tmod_eq_emod_of_nonneg h
set_option maxHeartbeats 2000000 in
theorem recipe33 (l : List Dy) (by' : List Int) (hl : l.length ≤ 8) (hu : U8 by') : Pure Try.prog 33 [dys l, u8s by'] (ints (recL l.length by')) := by
  refine pure_wkE (bad := []) (kp := kp33) (X := tx) (nt := 29) (rs := [.tmp 4]) Try.func33 rfl rfl rfl rfl mo (by kernel_rfl) rfl rfl (fun hf => ?_)
  simp (maxSteps := 2000000) only [go_sem, reduceIte, Nat.reduceEqDiff, Nat.reduceAdd, lk13, lk32, lk33, lk35, lk36, lk37, lk38, dys, u8s]
  refine goE_loop (bad := []) (kp := kp33) (fun i : Nat => { slots := [(0, dys l), (1, u8s by'), (5, .c (.own 0 ((recL i by').map iD))), (6, I i)], heap := [.grow i 1], marks := [] }) (fun i => i ≤ l.length) (fun i => l.length - i) 0 mo (by kernel_rfl) ?_ (Nat.zero_le _) ?_
  · refine Ent.trans (ent_own 5 1 rfl) ?_
    refine ent_weaken [] rfl rfl (Nat.zero_le _) rfl rfl ?_
    simp (maxSteps := 2000000) only [go_sem, reduceIte, Nat.reduceEqDiff, Nat.reduceLT, lk13, lk32, lk33, lk35, lk36, lk37, lk38, recL, List.range_zero, dys, u8s]
    all_goals first | exact .refl _ | exact ⟨.refl _, .refl _⟩ | exact ⟨.refl _, .refl _, .refl _⟩ | exact ⟨.refl _, _, rfl⟩ | exact ⟨_, rfl⟩ | exact ⟨.refl _, [], by simp⟩ | exact ⟨[], by simp⟩
  rintro i hi
  simp (maxSteps := 2000000) only [go_sem, reduceIte, Nat.reduceEqDiff, Nat.reduceAdd, lk13, lk32, lk33, lk35, lk36, lk37, lk38, dys, u8s]
  by_cases hlt : i < l.length
  case neg =>
    have hlt' : ¬ (i : Int) < l.length := by omega
    have e : i = l.length := by omega
    subst e
    simp (maxSteps := 2000000) only [go_sem, reduceIte, Nat.reduceEqDiff, Nat.reduceAdd, lk13, lk32, lk33, lk35, lk36, lk37, lk38, hlt', ints]
    all_goals first | exact .refl _ | exact ⟨.refl _, .refl _⟩ | exact ⟨.refl _, .refl _, .refl _⟩ | exact ⟨.refl _, _, rfl⟩ | exact ⟨_, rfl⟩ | exact ⟨.refl _, [], by simp⟩ | exact ⟨[], by simp⟩
  have hlt' : (i : Int) < l.length := by omega
  have hs := recL_succ i by'
  have hrl := recL_len i by'
  have m1 : l.length - (i + 1) < l.length - i := by omega
  have hap := app_ok (n := i) (recL i by') (by omega)
  by_cases hb : i < by'.length
  · have hb' : (i : Int) < by'.length := by omega
    have g1 := gI_lt hb
    have hg := hu.g hb
    have t1 := tmod_u8 hg.1
    rw [if_pos hb] at hs
    have w1 : wr .i64 (gI by' i) = gI by' i := wr_in (by omega)
    have w2 : wr .i64 (gI by' i % 21) = gI by' i % 21 := wr_in (by omega)
    have w7 : wr .i64 ((i : Int) + 1) = ((i + 1 : Nat) : Int) := wr_succ hlt (by omega)
    simp (maxSteps := 2000000) only [go_sem, reduceIte, Nat.reduceEqDiff, Nat.reduceAdd, Nat.reduceLT, Nat.reduceLeDiff, Nat.reduceBEq, Nat.reduceMul, Int.reduceEq, lk13, lk32, lk33, lk35, lk36, lk37, lk38, hlt', hb', nn, g1, w1, t1, w2, hrl, w7]
    refine ⟨hap, i + 1, hlt, m1, ?_⟩
    refine ent_weaken [] rfl rfl (Nat.zero_le _) rfl rfl ?_
    simp (maxSteps := 2000000) only [go_sem, reduceIte, Nat.reduceEqDiff, Nat.reduceLT, lk13, lk32, lk33, lk35, lk36, lk37, lk38, hs, List.map_append, iD, dys, u8s]
    all_goals first | exact .refl _ | exact ⟨.refl _, .refl _⟩ | exact ⟨.refl _, .refl _, .refl _⟩ | exact ⟨.refl _, _, rfl⟩ | exact ⟨_, rfl⟩ | exact ⟨.refl _, [], by simp⟩ | exact ⟨[], by simp⟩
  · have hb' : ¬ (i : Int) < by'.length := by omega
    rw [if_neg hb] at hs
    have w7 : wr .i64 ((i : Int) + 1) = ((i + 1 : Nat) : Int) := wr_succ hlt (by omega)
    simp (maxSteps := 2000000) only [go_sem, reduceIte, Nat.reduceEqDiff, Nat.reduceAdd, Nat.reduceLT, Nat.reduceLeDiff, Nat.reduceBEq, Nat.reduceMul, lk13, lk32, lk33, lk35, lk36, lk37, lk38, hlt', hb', nn, hrl, w7]
    refine ⟨hap, i + 1, hlt, m1, ?_⟩
    refine ent_weaken [] rfl rfl (Nat.zero_le _) rfl rfl ?_
    simp (maxSteps := 2000000) only [go_sem, reduceIte, Nat.reduceEqDiff, Nat.reduceLT, lk13, lk32, lk33, lk35, lk36, lk37, lk38, hs, List.map_append, iD, dys, u8s]
    all_goals first | exact .refl _ | exact ⟨.refl _, .refl _⟩ | exact ⟨.refl _, .refl _, .refl _⟩ | exact ⟨.refl _, _, rfl⟩ | exact ⟨_, rfl⟩ | exact ⟨.refl _, [], by simp⟩ | exact ⟨[], by simp⟩
theorem sumF_mono {f : Nat → Int} {m : Int} {n : Nat} (h : ∀ b, b < n → 0 ≤ f b ∧ f b ≤ m) (hm : 0 ≤ m) {k : Nat} (hk : k ≤ n) (hn : n ≤ 100) (hmm : m ≤ 1000) : -1000000000000000 ≤ sumF f k ∧ sumF f k ≤ 1000000000000000 := by
  have := sumF_bound (f := f) (m := m) (n := k) (fun b hb => h b (by omega))
  have h2 : m * (k : Int) ≤ 1000 * 100 := Int.mul_le_mul hmm (by omega) (by omega) (by omega)
  omega
set_option maxHeartbeats 2000000 in
theorem grains36 (r : List Int) (hr : ∀ x ∈ r, 0 ≤ x ∧ x ≤ 20) (hn : r.length ≤ 100) : Pure Try.prog 36 [ints r] (I (sumF (gI r) r.length)) := by
  refine pure_wkE (bad := []) (kp := kp36) (X := tx) (nt := 18) (rs := [.tmp 2]) Try.func36 rfl rfl rfl rfl mo (by kernel_rfl) rfl rfl (fun hf => ?_)
  have hb : ∀ b, b < r.length → 0 ≤ gI r b ∧ gI r b ≤ 20 := fun b hb => hr _ (List.mem_of_getElem? (gI_lt hb))
  simp (maxSteps := 2000000) only [go_sem, reduceIte, Nat.reduceEqDiff, Nat.reduceAdd, lk13, lk32, lk33, lk35, lk36, lk37, lk38, ints]
  refine goE_loop (bad := []) (kp := kp36) (fun i : Nat => { slots := [(0, ints r), (3, I (sumF (gI r) i)), (4, I i)], heap := [], marks := [] }) (fun i => i ≤ r.length) (fun i => r.length - i) 0 mo (by kernel_rfl) ?_ (Nat.zero_le _) ?_
  · refine ent_weaken [] rfl rfl (Nat.zero_le _) rfl rfl ?_
    simp (maxSteps := 2000000) only [go_sem, reduceIte, Nat.reduceEqDiff, lk13, lk32, lk33, lk35, lk36, lk37, lk38, ints, sumF]
    all_goals first | exact .refl _ | exact ⟨.refl _, .refl _⟩ | exact ⟨.refl _, .refl _, .refl _⟩ | exact ⟨.refl _, _, rfl⟩ | exact ⟨_, rfl⟩ | exact ⟨.refl _, [], by simp⟩ | exact ⟨[], by simp⟩
  rintro i hi
  simp (maxSteps := 2000000) only [go_sem, reduceIte, Nat.reduceEqDiff, Nat.reduceAdd, lk13, lk32, lk33, lk35, lk36, lk37, lk38, ints]
  by_cases hlt : i < r.length
  · have hlt' : (i : Int) < r.length := by omega
    have g1 := gI_lt hlt
    have m1 : r.length - (i + 1) < r.length - i := by omega
    have w1 : wr .i64 (sumF (gI r) i + gI r i) = sumF (gI r) (i + 1) := wr_in (x := sumF (gI r) (i + 1)) (sumF_mono hb (by decide) hlt hn (by decide))
    have w7 : wr .i64 ((i : Int) + 1) = ((i + 1 : Nat) : Int) := wr_succ hlt (Nat.le_trans hn (by decide))
    simp (maxSteps := 2000000) only [go_sem, reduceIte, Nat.reduceEqDiff, Nat.reduceAdd, lk13, lk32, lk33, lk35, lk36, lk37, lk38, hlt', nn, g1, iD, w1, w7]
    refine ⟨i + 1, hlt, m1, ?_⟩
    refine ent_weaken [] rfl rfl (Nat.zero_le _) rfl rfl ?_
    simp (maxSteps := 2000000) only [go_sem, reduceIte, Nat.reduceEqDiff, lk13, lk32, lk33, lk35, lk36, lk37, lk38, ints]
    all_goals first | exact .refl _ | exact ⟨.refl _, .refl _⟩ | exact ⟨.refl _, .refl _, .refl _⟩ | exact ⟨.refl _, _, rfl⟩ | exact ⟨_, rfl⟩ | exact ⟨.refl _, [], by simp⟩ | exact ⟨[], by simp⟩
  · have hlt' : ¬ (i : Int) < r.length := by omega
    have e : i = r.length := by omega
    subst e
    simp (maxSteps := 2000000) only [go_sem, reduceIte, Nat.reduceEqDiff, Nat.reduceAdd, lk13, lk32, lk33, lk35, lk36, lk37, lk38, hlt']
theorem okw0 {f : Int} (h1 : 1 ≤ f) (h8 : f ≤ 8) : okWn sh0 (wt0 f) = 0 := (okWn_iff _ _).2 ⟨sh0_ok, wt0_ok h1 h8⟩
theorem chE3 : chE sh0 (wt0 3) = 0 ∧ chC sh0 (wt0 3) = 15 ∧ chR sh0 (wt0 3) = bestR sh0 (wt0 3) := by
  have hc : costB sh0 (wt0 3) = 15 := cost3 (by decide) (by decide)
  have e : chE sh0 (wt0 3) = 0 := by unfold chE; rw [if_pos (okw0 (by decide) (by decide)), hc]; rfl
  exact ⟨e, by unfold chC; rw [e, hc]; rfl, by unfold chR; rw [e]; rfl⟩
theorem chE6 : chE sh0 (wt0 6) = 13 := by
  have hc : costB sh0 (wt0 6) = MX := cost4 (by decide) (by decide)
  unfold chE; rw [if_pos (okw0 (by decide) (by decide)), if_pos hc]
theorem chk3 : chkE sh0 (wt0 3) (bestR sh0 (wt0 3)) = 0 ∧ chkN sh0 (wt0 3) (bestR sh0 (wt0 3)) = 15 := by
  have hc : costB sh0 (wt0 3) = 15 := cost3 (by decide) (by decide)
  have hne : costB sh0 (wt0 3) ≠ MX := by rw [hc]; unfold MX; decide
  have e : chkE sh0 (wt0 3) (bestR sh0 (wt0 3)) = 0 := chkE_iff.2 ⟨⟨sh0_ok, wt0_ok (by decide) (by decide)⟩, bestR_fits sh0_ok (wt0_ok (by decide) (by decide)) hne⟩
  exact ⟨e, by unfold chkN; rw [e, if_pos rfl, (bestR_law sh0_ok (wt0_ok (by decide) (by decide)) hne).2.2.2, hc]⟩
set_option maxHeartbeats 4000000 in
theorem works13 : Pure Try.prog 13 [] (B true) := by
  refine pure_wkE (bad := []) (kp := kp13) (X := tx) (nt := 175) (rs := [.tmp 0]) Try.func13 rfl rfl rfl rfl mo (by kernel_rfl) rfl rfl (fun hf => ?_)
  have h38a := want38 3
  have h38b := want38 6
  have m14 := mix14 sh0 [2, 0, 1]
  rw [show mixL sh0 [2, 0, 1] = [5, 2] from rfl, show mixP sh0 [2, 0, 1] = 13 from rfl, show mixE sh0 [2, 0, 1] = 0 from rfl] at m14
  have c1 := check16 sh0 (wt0 3) [0, 1, 4]
  rw [show chkN sh0 (wt0 3) [0, 1, 4] = 16 from rfl, show chkE sh0 (wt0 3) [0, 1, 4] = 0 from rfl] at c1
  have c2 := check16 sh0 (wt0 3) [2, 0, 1]
  rw [show chkN sh0 (wt0 3) [2, 0, 1] = 0 from rfl, show chkE sh0 (wt0 3) [2, 0, 1] = 19 from rfl] at c2
  have c3 := check16 sh0 (wt0 6) [0, 1, 4]
  rw [show chkN sh0 (wt0 6) [0, 1, 4] = 0 from rfl, show chkE sh0 (wt0 6) [0, 1, 4] = 20 from rfl] at c3
  have h1 := cheapest21 sh0 (wt0 3)
  rw [chE3.1, chE3.2.1, chE3.2.2] at h1
  have h2 := cheapest21 sh0 (wt0 6)
  rw [chE6] at h2
  have h3 := wider22 sh0 (wt0 6)
  rw [show okWn sh0 (wt0 6) = 0 from rfl, show wiN sh0 (wt0 6) = 1 by unfold wiN; rw [if_pos (okw0 (by decide) (by decide)), wid6]; rfl] at h3
  have h4 := grades24 sh0 (wt0 3)
  rw [show okWn sh0 (wt0 3) = 0 from rfl, show grL sh0 (wt0 3) = [15, 15, 15, -1, -1, -1, -1, -1] by unfold grL; rw [if_pos (okw0 (by decide) (by decide)), grd3]] at h4
  have h5 := table28 sh0 3
  rw [show tabE sh0 3 = 0 from rfl, show tabL sh0 3 = costsL sh0 3 by unfold tabL; rw [show tabE sh0 3 = 0 from rfl, if_pos rfl]] at h5
  have h6 := checktable30 sh0 (wt0 3) (costsL sh0 3)
  have k6 := ctab_own (w := wt0 3) sh0_ok (wt0_ok (by decide) (by decide))
  rw [show (wt0 3).f = 3 from rfl] at k6
  rw [k6.1, k6.2, show costB sh0 (wt0 3) = 15 from cost3 (by decide) (by decide)] at h6
  have h7 := check17 sh0 (wt0 3) (bestR sh0 (wt0 3))
  rw [chk3.1, chk3.2] at h7
  have l1 := longs20 [5, 2] [5, 2]
  have l2 := longs20 [15, 15, 15, -1, -1, -1, -1, -1] [15, 15, 15, -1, -1, -1, -1, -1]
  rw [decide_eq_true rfl] at l1 l2
  generalize costsL sh0 3 = tb at *
  generalize bestR sh0 (wt0 3) = br at *
  generalize chC sh0 (wt0 6) = cc6 at *
  generalize chR sh0 (wt0 6) = cr6 at *
  clear k6
  have hsh := shelf37
  generalize hS : sh0 = s0 at *
  generalize hW3 : wt0 3 = w3 at *
  generalize hW6 : wt0 6 = w6 at *
  simp (maxSteps := 2000000) only [go_sem, reduceIte, Nat.reduceEqDiff, Nat.reduceAdd, Nat.reduceLeDiff, Nat.reduceBEq, Nat.reduceMul, Int.reduceNeg, lk13, lk32, lk33, lk35, lk36, lk37, lk38]
  refine aops_pure' (hsh) rfl rfl (by first | exact wk_refls _ | (repeat constructor)) ?_
  simp (maxSteps := 2000000) only [go_sem, reduceIte, Nat.reduceEqDiff, Int.reduceNeg, lk13, lk32, lk33, lk35, lk36, lk37, lk38]
  refine aops_pure' (m14) rfl rfl (by first | exact wk_refls _ | (repeat constructor)) ?_
  simp (maxSteps := 2000000) only [go_sem, reduceIte, Nat.reduceEqDiff, Int.reduceNeg, lk13, lk32, lk33, lk35, lk36, lk37, lk38]
  refine aops_pure' (h38a) rfl rfl (by first | exact wk_refls _ | (repeat constructor)) ?_
  simp (maxSteps := 2000000) only [go_sem, reduceIte, Nat.reduceEqDiff, Nat.reduceAdd, Nat.reduceLeDiff, Nat.reduceBEq, Nat.reduceMul, Int.reduceNeg, lk13, lk32, lk33, lk35, lk36, lk37, lk38]
  refine aops_pure' (c1) rfl rfl (by first | exact wk_refls _ | (repeat constructor)) ?_
  simp (maxSteps := 2000000) only [go_sem, reduceIte, Nat.reduceEqDiff, Int.reduceNeg, lk13, lk32, lk33, lk35, lk36, lk37, lk38]
  refine aops_pure' (h38a) rfl rfl (by first | exact wk_refls _ | (repeat constructor)) ?_
  simp (maxSteps := 2000000) only [go_sem, reduceIte, Nat.reduceEqDiff, Nat.reduceAdd, Nat.reduceLeDiff, Nat.reduceBEq, Nat.reduceMul, Int.reduceNeg, lk13, lk32, lk33, lk35, lk36, lk37, lk38]
  refine aops_pure' (c2) rfl rfl (by first | exact wk_refls _ | (repeat constructor)) ?_
  simp (maxSteps := 2000000) only [go_sem, reduceIte, Nat.reduceEqDiff, Int.reduceNeg, lk13, lk32, lk33, lk35, lk36, lk37, lk38]
  refine aops_pure' (h38b) rfl rfl (by first | exact wk_refls _ | (repeat constructor)) ?_
  simp (maxSteps := 2000000) only [go_sem, reduceIte, Nat.reduceEqDiff, Nat.reduceAdd, Nat.reduceLeDiff, Nat.reduceBEq, Nat.reduceMul, Int.reduceNeg, lk13, lk32, lk33, lk35, lk36, lk37, lk38]
  refine aops_pure' (c3) rfl rfl (by first | exact wk_refls _ | (repeat constructor)) ?_
  simp (maxSteps := 2000000) only [go_sem, reduceIte, Nat.reduceEqDiff, Int.reduceNeg, lk13, lk32, lk33, lk35, lk36, lk37, lk38]
  refine aops_pure' (h38a) rfl rfl (by first | exact wk_refls _ | (repeat constructor)) ?_
  simp (maxSteps := 2000000) only [go_sem, reduceIte, Nat.reduceEqDiff, Int.reduceNeg, lk13, lk32, lk33, lk35, lk36, lk37, lk38]
  refine aops_pure' (h1) rfl rfl (by first | exact wk_refls _ | (repeat constructor)) ?_
  simp (maxSteps := 2000000) only [go_sem, reduceIte, Nat.reduceEqDiff, Int.reduceNeg, lk13, lk32, lk33, lk35, lk36, lk37, lk38]
  refine aops_pure' (h38b) rfl rfl (by first | exact wk_refls _ | (repeat constructor)) ?_
  simp (maxSteps := 2000000) only [go_sem, reduceIte, Nat.reduceEqDiff, Int.reduceNeg, lk13, lk32, lk33, lk35, lk36, lk37, lk38]
  refine aops_pure' (h2) rfl rfl (by first | exact wk_refls _ | (repeat constructor)) ?_
  simp (maxSteps := 2000000) only [go_sem, reduceIte, Nat.reduceEqDiff, Int.reduceNeg, lk13, lk32, lk33, lk35, lk36, lk37, lk38]
  refine aops_pure' (h38b) rfl rfl (by first | exact wk_refls _ | (repeat constructor)) ?_
  simp (maxSteps := 2000000) only [go_sem, reduceIte, Nat.reduceEqDiff, Int.reduceNeg, lk13, lk32, lk33, lk35, lk36, lk37, lk38]
  refine aops_pure' (h3) rfl rfl (by first | exact wk_refls _ | (repeat constructor)) ?_
  simp (maxSteps := 2000000) only [go_sem, reduceIte, Nat.reduceEqDiff, Int.reduceNeg, lk13, lk32, lk33, lk35, lk36, lk37, lk38]
  refine aops_pure' (h38a) rfl rfl (by first | exact wk_refls _ | (repeat constructor)) ?_
  simp (maxSteps := 2000000) only [go_sem, reduceIte, Nat.reduceEqDiff, Int.reduceNeg, lk13, lk32, lk33, lk35, lk36, lk37, lk38]
  refine aops_pure' (h4) rfl rfl (by first | exact wk_refls _ | (repeat constructor)) ?_
  simp (maxSteps := 2000000) only [go_sem, reduceIte, Nat.reduceEqDiff, Int.reduceNeg, lk13, lk32, lk33, lk35, lk36, lk37, lk38]
  refine aops_pure' (h5) rfl rfl (by first | exact wk_refls _ | (repeat constructor)) ?_
  simp (maxSteps := 2000000) only [go_sem, reduceIte, Nat.reduceEqDiff, Int.reduceNeg, lk13, lk32, lk33, lk35, lk36, lk37, lk38]
  refine aops_pure' (h38a) rfl rfl (by first | exact wk_refls _ | (repeat constructor)) ?_
  simp (maxSteps := 2000000) only [go_sem, reduceIte, Nat.reduceEqDiff, Int.reduceNeg, lk13, lk32, lk33, lk35, lk36, lk37, lk38]
  refine aops_pure' (h6) rfl rfl (by first | exact wk_refls _ | (repeat constructor)) ?_
  simp (maxSteps := 2000000) only [go_sem, reduceIte, Nat.reduceEqDiff, Nat.reduceAdd, Int.reduceNeg, lk13, lk32, lk33, lk35, lk36, lk37, lk38]
  refine aops_pure' (h38a) rfl rfl (by first | exact wk_refls _ | (repeat constructor)) ?_
  simp (maxSteps := 2000000) only [go_sem, reduceIte, Nat.reduceEqDiff, Int.reduceNeg, lk13, lk32, lk33, lk35, lk36, lk37, lk38]
  refine aops_pure' (h7) rfl rfl (by first | exact wk_refls _ | (repeat constructor)) ?_
  simp (maxSteps := 2000000) only [go_sem, reduceIte, Nat.reduceEqDiff, Nat.reduceAdd, Nat.reduceLeDiff, Nat.reduceBEq, Nat.reduceMul, Int.reduceNeg, lk13, lk32, lk33, lk35, lk36, lk37, lk38]
  refine aops_pure' (l1) rfl rfl (by first | exact wk_refls _ | (repeat constructor)) ?_
  simp (maxSteps := 2000000) only [go_sem, reduceIte, Nat.reduceEqDiff, Nat.reduceAdd, Nat.reduceLeDiff, Nat.reduceBEq, Nat.reduceMul, Int.reduceNeg, lk13, lk32, lk33, lk35, lk36, lk37, lk38]
  refine aops_pure' (l2) rfl rfl (by first | exact wk_refls _ | (repeat constructor)) ?_
  simp (maxSteps := 2000000) only [go_sem, reduceIte, Nat.reduceEqDiff, Int.reduceNeg, lk13, lk32, lk33, lk35, lk36, lk37, lk38]
end Go.Proofs.Ytkbnmanfoejoiaa
