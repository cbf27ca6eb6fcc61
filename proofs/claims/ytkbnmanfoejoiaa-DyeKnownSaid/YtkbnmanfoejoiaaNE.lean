/- Dyes: Index, Min, Max. -/
import Derived.Test.YtkbnmanfoejoiaaNC
set_option linter.unusedSimpArgs false
set_option linter.unusedVariables false
set_option maxRecDepth 100000
namespace Go.Proofs.Ytkbnmanfoejoiaa
open Go Go.Abs Go.Proofs
def kp57 : List (Nat × List Nat) := [(0, [0]), (1, [0, 7]), (2, [0]), (3, [0, 3]), (4, [0, 3, 4]), (5, [0, 3, 4, 15]), (6, [0, 3, 4]), (7, [0, 3, 4]), (8, [2])]
theorem lk57 : lookK kp57 0 = some [0] ∧ lookK kp57 1 = some [0, 7] ∧ lookK kp57 2 = some [0] ∧ lookK kp57 3 = some [0, 3] ∧ lookK kp57 4 = some [0, 3, 4] ∧ lookK kp57 5 = some [0, 3, 4, 15] ∧ lookK kp57 6 = some [0, 3, 4] ∧ lookK kp57 7 = some [0, 3, 4] ∧ lookK kp57 8 = some [2] := ⟨rfl, rfl, rfl, rfl, rfl, rfl, rfl, rfl, rfl⟩
def kp58 : List (Nat × List Nat) := [(0, [0]), (1, [0, 7]), (2, [0]), (3, [0, 3]), (4, [0, 3, 4]), (5, [0, 3, 4, 15]), (6, [0, 3, 4]), (7, [0, 3, 4]), (8, [2])]
theorem lk58 : lookK kp58 0 = some [0] ∧ lookK kp58 1 = some [0, 7] ∧ lookK kp58 2 = some [0] ∧ lookK kp58 3 = some [0, 3] ∧ lookK kp58 4 = some [0, 3, 4] ∧ lookK kp58 5 = some [0, 3, 4, 15] ∧ lookK kp58 6 = some [0, 3, 4] ∧ lookK kp58 7 = some [0, 3, 4] ∧ lookK kp58 8 = some [2] := ⟨rfl, rfl, rfl, rfl, rfl, rfl, rfl, rfl, rfl⟩
def kp60 : List (Nat × List Nat) := [(0, [0, 1, 2]), (1, [6])]
theorem lk60 : lookK kp60 0 = some [0, 1, 2] ∧ lookK kp60 1 = some [6] := ⟨rfl, rfl⟩

theorem index60 (i x y : Nat) (hi : i < 100) (hx : x < 100) (hy : y < 100) : Pure Try.prog 60 [I i, I x, I y] (I ((cix i x y : Nat) : Int)) := by
  refine pure_wkE (bad := []) (kp := kp60) (X := tx) (nt := 14) (rs := [.tmp 6]) Try.func60 rfl rfl rfl rfl mo (by kernel_rfl) rfl rfl (fun hf => ?_)
  have w1 : wr .i64 ((i : Int) * 21) = (i : Int) * 21 := wr_in (by omega)
  have w2 : wr .i64 ((i : Int) * 21 + x) = (i : Int) * 21 + x := wr_in (by omega)
  have w3 : wr .i64 (((i : Int) * 21 + x) * 21) = ((i : Int) * 21 + x) * 21 := wr_in (by omega)
  have w4 : wr .i64 (((i : Int) * 21 + x) * 21 + y) = ((cix i x y : Nat) : Int) := by rw [wr_in (by omega)]; unfold cix; omega
  have wx : wr .i64 (x : Int) = x := wr_in (by omega)
  have wy : wr .i64 (y : Int) = y := wr_in (by omega)
  simp (maxSteps := 2000000) only [go_sem, reduceIte, Nat.reduceEqDiff, Nat.reduceAdd, lk57, lk58, lk60, w1, w2, w3, w4, wx, wy]
def mnI (l : List Int) : Nat → Int
  | 0 => gI l 0
  | n + 1 => min (mnI l n) (gI l (n + 1))
def mxI (l : List Int) : Nat → Int
  | 0 => gI l 0
  | n + 1 => max (mxI l n) (gI l (n + 1))
theorem mnI_le {l : List Int} : ∀ {n j : Nat}, j ≤ n → mnI l n ≤ gI l j
  | 0, j, h => by have : j = 0 := by omega
                  subst this; exact Int.le_refl _
  | n + 1, j, h => by
    rw [mnI]
    by_cases e : j = n + 1
    · subst e; omega
    · have := mnI_le (l := l) (n := n) (j := j) (by omega); omega
theorem mnI_mem {l : List Int} : ∀ {n : Nat}, ∃ j, j ≤ n ∧ mnI l n = gI l j
  | 0 => ⟨0, Nat.le_refl _, rfl⟩
  | n + 1 => by
    obtain ⟨j, h1, h2⟩ := mnI_mem (l := l) (n := n)
    rw [mnI]
    by_cases e : mnI l n ≤ gI l (n + 1)
    · exact ⟨j, by omega, by omega⟩
    · exact ⟨n + 1, by omega, by omega⟩
theorem mxI_le {l : List Int} : ∀ {n j : Nat}, j ≤ n → gI l j ≤ mxI l n
  | 0, j, h => by have : j = 0 := by omega
                  subst this; exact Int.le_refl _
  | n + 1, j, h => by
    rw [mxI]
    by_cases e : j = n + 1
    · subst e; omega
    · have := mxI_le (l := l) (n := n) (j := j) (by omega); omega
theorem mxI_mem {l : List Int} : ∀ {n : Nat}, ∃ j, j ≤ n ∧ mxI l n = gI l j
  | 0 => ⟨0, Nat.le_refl _, rfl⟩
  | n + 1 => by
    obtain ⟨j, h1, h2⟩ := mxI_mem (l := l) (n := n)
    rw [mxI]
    by_cases e : gI l (n + 1) ≤ mxI l n
    · exact ⟨j, by omega, by omega⟩
    · exact ⟨n + 1, by omega, by omega⟩
set_option maxHeartbeats 1000000 in
theorem min57 (l : List Int) (h0 : 0 < l.length) : Pure Try.prog 57 [ints l] (I (mnI l (l.length - 1))) := by
  refine pure_wkE (bad := []) (kp := kp57) (X := tx) (nt := 25) (rs := [.tmp 2]) Try.func57 rfl rfl rfl rfl mo (by kernel_rfl) rfl rfl (fun hf => ?_)
  have hl := fit_ints (hf (ints l) (by simp))
  have n1 : ¬ (l.length : Int) < 1 := by omega
  have n2 : (0 : Int) < l.length := by omega
  have g0 := gI_lt h0
  simp (maxSteps := 2000000) only [go_sem, reduceIte, Nat.reduceEqDiff, Nat.reduceAdd, Int.reduceLE, Int.reduceToNat, lk57, lk58, lk60, ints, n1, n2, g0, iD]
  refine goE_loop (bad := []) (kp := kp57) (fun i : Nat => { slots := [(0, ints l), (3, I (mnI l i)), (4, I ((i + 1 : Nat) : Int))], heap := [], marks := [] }) (fun i => i < l.length) (fun i => l.length - i) 0 mo (by kernel_rfl) ?_ h0 ?_
  · refine ent_weaken [] rfl rfl (Nat.zero_le _) rfl rfl ?_
    simp (maxSteps := 2000000) only [go_sem, reduceIte, Nat.reduceEqDiff, lk57, lk58, lk60, ints, mnI]
    all_goals first | exact .refl _ | exact ⟨.refl _, .refl _⟩ | exact ⟨.refl _, .refl _, .refl _⟩ | exact ⟨.refl _, _, rfl⟩ | exact ⟨_, rfl⟩ | exact ⟨.refl _, [], by simp⟩ | exact ⟨[], by simp⟩
  rintro i hi
  simp (maxSteps := 2000000) only [go_sem, reduceIte, Nat.reduceEqDiff, Nat.reduceAdd, lk57, lk58, lk60, ints]
  by_cases hlt : i + 1 < l.length
  · have hlt' : ((i + 1 : Nat) : Int) < l.length := by omega
    have g1 := gI_lt hlt
    have m1 : l.length - (i + 1) < l.length - i := by omega
    have w7 : wr .i64 (((i + 1 : Nat) : Int) + 1) = ((i + 1 + 1 : Nat) : Int) := wr_succ hlt hl
    simp (maxSteps := 2000000) only [go_sem, reduceIte, Nat.reduceEqDiff, Nat.reduceAdd, lk57, lk58, lk60, hlt', nn, g1, iD, w7]
    refine ⟨i + 1, hlt, m1, ?_⟩
    refine ent_weaken [] rfl rfl (Nat.zero_le _) rfl rfl ?_
    simp (maxSteps := 2000000) only [go_sem, reduceIte, Nat.reduceEqDiff, lk57, lk58, lk60, ints, mnI]
    all_goals first | exact .refl _ | exact ⟨.refl _, .refl _⟩ | exact ⟨.refl _, .refl _, .refl _⟩ | exact ⟨.refl _, _, rfl⟩ | exact ⟨_, rfl⟩ | exact ⟨.refl _, [], by simp⟩ | exact ⟨[], by simp⟩
  · have hlt' : ¬ ((i + 1 : Nat) : Int) < l.length := by omega
    have e : l.length - 1 = i := by omega
    rw [e]
    simp (maxSteps := 2000000) only [go_sem, reduceIte, Nat.reduceEqDiff, Nat.reduceAdd, lk57, lk58, lk60, hlt']
set_option maxHeartbeats 1000000 in
theorem max58 (l : List Int) (h0 : 0 < l.length) : Pure Try.prog 58 [ints l] (I (mxI l (l.length - 1))) := by
  refine pure_wkE (bad := []) (kp := kp58) (X := tx) (nt := 25) (rs := [.tmp 2]) Try.func58 rfl rfl rfl rfl mo (by kernel_rfl) rfl rfl (fun hf => ?_)
  have hl := fit_ints (hf (ints l) (by simp))
  have n1 : ¬ (l.length : Int) < 1 := by omega
  have n2 : (0 : Int) < l.length := by omega
  have g0 := gI_lt h0
  simp (maxSteps := 2000000) only [go_sem, reduceIte, Nat.reduceEqDiff, Nat.reduceAdd, Int.reduceLE, Int.reduceToNat, lk57, lk58, lk60, ints, n1, n2, g0, iD]
  refine goE_loop (bad := []) (kp := kp58) (fun i : Nat => { slots := [(0, ints l), (3, I (mxI l i)), (4, I ((i + 1 : Nat) : Int))], heap := [], marks := [] }) (fun i => i < l.length) (fun i => l.length - i) 0 mo (by kernel_rfl) ?_ h0 ?_
  · refine ent_weaken [] rfl rfl (Nat.zero_le _) rfl rfl ?_
    simp (maxSteps := 2000000) only [go_sem, reduceIte, Nat.reduceEqDiff, lk57, lk58, lk60, ints, mxI]
    all_goals first | exact .refl _ | exact ⟨.refl _, .refl _⟩ | exact ⟨.refl _, .refl _, .refl _⟩ | exact ⟨.refl _, _, rfl⟩ | exact ⟨_, rfl⟩ | exact ⟨.refl _, [], by simp⟩ | exact ⟨[], by simp⟩
  rintro i hi
  simp (maxSteps := 2000000) only [go_sem, reduceIte, Nat.reduceEqDiff, Nat.reduceAdd, lk57, lk58, lk60, ints]
  by_cases hlt : i + 1 < l.length
  · have hlt' : ((i + 1 : Nat) : Int) < l.length := by omega
    have g1 := gI_lt hlt
    have m1 : l.length - (i + 1) < l.length - i := by omega
    have w7 : wr .i64 (((i + 1 : Nat) : Int) + 1) = ((i + 1 + 1 : Nat) : Int) := wr_succ hlt hl
    simp (maxSteps := 2000000) only [go_sem, reduceIte, Nat.reduceEqDiff, Nat.reduceAdd, lk57, lk58, lk60, hlt', nn, g1, iD, w7]
    refine ⟨i + 1, hlt, m1, ?_⟩
    refine ent_weaken [] rfl rfl (Nat.zero_le _) rfl rfl ?_
    simp (maxSteps := 2000000) only [go_sem, reduceIte, Nat.reduceEqDiff, lk57, lk58, lk60, ints, mxI]
    all_goals first | exact .refl _ | exact ⟨.refl _, .refl _⟩ | exact ⟨.refl _, .refl _, .refl _⟩ | exact ⟨.refl _, _, rfl⟩ | exact ⟨_, rfl⟩ | exact ⟨.refl _, [], by simp⟩ | exact ⟨[], by simp⟩
  · have hlt' : ¬ ((i + 1 : Nat) : Int) < l.length := by omega
    have e : l.length - 1 = i := by omega
    rw [e]
    simp (maxSteps := 2000000) only [go_sem, reduceIte, Nat.reduceEqDiff, Nat.reduceAdd, lk57, lk58, lk60, hlt']
end Go.Proofs.Ytkbnmanfoejoiaa
/- Dyes: the reference's table of costs. -/
set_option linter.unusedSimpArgs false
set_option linter.unusedVariables false
set_option maxRecDepth 100000
namespace Go.Proofs.Ytkbnmanfoejoiaa
open Go Go.Abs Go.Proofs
def kp56 : List (Nat × List Nat) := [(0, [0, 1]), (1, [0, 1, 5]), (2, [0, 1, 5, 6]), (3, [0, 1, 5, 6, 22]), (4, [0, 1, 5, 6]), (5, [0, 1, 5, 6, 7]), (6, [0, 1, 5, 6, 7, 26]), (7, [0, 1, 5, 6, 7]), (8, [0, 1, 5, 6, 7, 8]), (9, [0, 1, 5, 6, 7, 8, 30]), (10, [0, 1, 5, 6, 7, 8]), (11, [0, 1, 5, 6, 7, 8, 9]), (12, [0, 1, 5, 6, 7, 8, 9, 42]), (13, [0, 1, 5, 6, 7, 8, 9]), (14, [0, 1, 5, 6, 7, 8, 9, 44]), (15, [0, 1, 5, 6, 7, 8, 9, 10]), (16, [0, 1, 5, 6, 7, 8, 9, 10, 11]), (17, [0, 1, 5, 6, 7, 8, 9, 10, 11, 51]), (18, [0, 1, 5, 6, 7, 8, 9, 10, 11]), (19, [0, 1, 5, 6, 7, 8, 9, 10, 11, 12, 13]), (20, [0, 1, 5, 6, 7, 8, 9, 10, 11, 12, 13, 94]), (21, [0, 1, 5, 6, 7, 8, 9, 10, 11]), (22, [0, 1, 5, 6, 7, 8]), (23, [4])]
theorem lk56 : lookK kp56 0 = some [0, 1] ∧ lookK kp56 1 = some [0, 1, 5] ∧ lookK kp56 2 = some [0, 1, 5, 6] ∧ lookK kp56 3 = some [0, 1, 5, 6, 22] ∧ lookK kp56 4 = some [0, 1, 5, 6] ∧ lookK kp56 5 = some [0, 1, 5, 6, 7] ∧ lookK kp56 6 = some [0, 1, 5, 6, 7, 26] ∧ lookK kp56 7 = some [0, 1, 5, 6, 7] ∧ lookK kp56 8 = some [0, 1, 5, 6, 7, 8] ∧ lookK kp56 9 = some [0, 1, 5, 6, 7, 8, 30] ∧ lookK kp56 10 = some [0, 1, 5, 6, 7, 8] ∧ lookK kp56 11 = some [0, 1, 5, 6, 7, 8, 9] ∧ lookK kp56 12 = some [0, 1, 5, 6, 7, 8, 9, 42] ∧ lookK kp56 13 = some [0, 1, 5, 6, 7, 8, 9] ∧ lookK kp56 14 = some [0, 1, 5, 6, 7, 8, 9, 44] ∧ lookK kp56 15 = some [0, 1, 5, 6, 7, 8, 9, 10] ∧ lookK kp56 16 = some [0, 1, 5, 6, 7, 8, 9, 10, 11] ∧ lookK kp56 17 = some [0, 1, 5, 6, 7, 8, 9, 10, 11, 51] ∧ lookK kp56 18 = some [0, 1, 5, 6, 7, 8, 9, 10, 11] ∧ lookK kp56 19 = some [0, 1, 5, 6, 7, 8, 9, 10, 11, 12, 13] ∧ lookK kp56 20 = some [0, 1, 5, 6, 7, 8, 9, 10, 11, 12, 13, 94] ∧ lookK kp56 21 = some [0, 1, 5, 6, 7, 8, 9, 10, 11] ∧ lookK kp56 22 = some [0, 1, 5, 6, 7, 8] ∧ lookK kp56 23 = some [4] := ⟨rfl, rfl, rfl, rfl, rfl, rfl, rfl, rfl, rfl, rfl, rfl, rfl, rfl, rfl, rfl, rfl, rfl, rfl, rfl, rfl, rfl, rfl, rfl, rfl⟩

/-- The least over the first numbers of grains. -/
def gM (d : Dy) (q : Int) (f : Nat → Int) (i x y : Nat) : Nat → Int
  | 0 => MX
  | g + 1 => if (g * d.a.toNat ≤ x ∧ g * d.b.toNat ≤ y) ∧ ¬ (0 < g ∧ d.f < q) ∧ f (cix i (x - g * d.a.toNat) (y - g * d.b.toNat)) ≠ MX then min (gM d q f i x y g) (f (cix i (x - g * d.a.toNat) (y - g * d.b.toNat)) + g * d.p) else gM d q f i x y g
def costV (l : List Dy) (q : Int) (f : Nat → Int) (i x y : Nat) : Int := if i = 0 then (if x = 0 ∧ y = 0 then 0 else MX) else gM (gD l (i - 1)) q f (i - 1) x y 21
def cT (l : List Dy) (q : Int) : Nat → Nat → Int
  | 0 => fun _ => 0
  | k + 1 => upd (cT l q k) k (costV l q (cT l q k) (k / 441) (k % 441 / 21) (k % 21))
theorem Bd.gM {d : Dy} {q : Int} {f : Nat → Int} {i x y : Nat} (h : Bd f) (hd : OkD d) : ∀ g, 0 ≤ gM d q f i x y g ∧ gM d q f i x y g ≤ MX
  | 0 => by unfold Go.Proofs.Ytkbnmanfoejoiaa.gM MX; omega
  | g + 1 => by
    have ih := Bd.gM (q := q) (i := i) (x := x) (y := y) h hd g
    rw [Go.Proofs.Ytkbnmanfoejoiaa.gM]
    split
    · have h1 := h (cix i (x - g * d.a.toNat) (y - g * d.b.toNat))
      have h2 : 0 ≤ (g : Int) * d.p := Int.mul_nonneg (by omega) hd.p0
      omega
    · exact ih
theorem Bd.cT {l : List Dy} (hl : OkL l) (q : Int) : ∀ k, k ≤ (l.length + 1) * 441 → Bd (cT l q k)
  | 0, _ => fun j => by unfold Go.Proofs.Ytkbnmanfoejoiaa.cT MX; omega
  | k + 1, hk => by
    have ih := Bd.cT hl q k (by omega)
    intro j
    unfold Go.Proofs.Ytkbnmanfoejoiaa.cT upd
    split
    · unfold costV
      split
      · split <;> unfold MX <;> omega
      · exact Bd.gM ih (hl.g (by omega)) _
    · exact ih j
theorem cT_succ (l : List Dy) (q : Int) {i x y : Nat} (hx : x < 21) (hy : y < 21) : upd (cT l q (cix i x y)) (cix i x y) (costV l q (cT l q (cix i x y)) i x y) = cT l q (cix i x y + 1) := by
  have e1 : cix i x y / 441 = i := by unfold cix; omega
  have e2 : cix i x y % 441 / 21 = x := by unfold cix; omega
  have e3 : cix i x y % 21 = y := by unfold cix; omega
  rw [cT, e1, e2, e3]
theorem rep_nums (n : Nat) : (List.replicate n [C.d (.int .i64 0)]).flatten = numsC n (fun _ => 0) := by rw [← zero_nums]; exact zc_one _ n
theorem numsC_low (m n : Nat) (f : Nat → Int) : C.lowL m (numsC n f) = true := by
  have e : numsC n f = ((List.range n).map (fun k => D.int .i64 (f k))).map C.d := by simp [numsC, List.map_map, Function.comp_def]
  rw [e, lowL_d]
def numsD (n : Nat) (f : Nat → Int) : List D := (List.range n).map fun k => .int .i64 (f k)
theorem numsC_d (n : Nat) (f : Nat → Int) : numsC n f = (numsD n f).map C.d := by simp [numsC, numsD, List.map_map, Function.comp_def]
theorem numsD_len (n : Nat) (f : Nat → Int) : (numsD n f).length = n := by simp [numsD]
theorem chunk_nums (n : Nat) (f : Nat → Int) : chunk 1 n (numsD n f) = (List.range n).map (fun k => iD (f k)) := by
  refine List.ext_getElem? fun i => ?_
  by_cases h : i < n
  · rw [chunk_get 1 n _ i h, Nat.mul_one]
    have hlt : i < (numsD n f).length := by rw [numsD_len]; exact h
    rw [List.drop_eq_getElem_cons hlt]
    simp [numsD, h, iD]
  · rw [List.getElem?_eq_none (by rw [chunk_length]; omega), List.getElem?_eq_none (by simp; omega)]
def costsL (l : List Dy) (q : Int) : List Int := (List.range ((l.length + 1) * 441)).map (cT l q ((l.length + 1) * 441))
theorem gM_at (d : Dy) (q : Int) (f : Nat → Int) (i x y g : Nat) : gM d q f i x y (g + 1) = if (g * d.a.toNat ≤ x ∧ g * d.b.toNat ≤ y) ∧ ¬ (0 < g ∧ d.f < q) ∧ f (cix i (x - g * d.a.toNat) (y - g * d.b.toNat)) ≠ MX then min (gM d q f i x y g) (f (cix i (x - g * d.a.toNat) (y - g * d.b.toNat)) + g * d.p) else gM d q f i x y g := by rw [gM]
theorem gr1 {d : Dy} {g : Nat} (hd : OkD d) (hg : g ≤ 20) : wr .i64 ((g : Int) * d.a) = ((g * d.a.toNat : Nat) : Int) ∧ g * d.a.toNat ≤ 120 := by
  have d1 := hd.a0
  have d2 := hd.a6
  have e : (g : Int) * d.a = ((g * d.a.toNat : Nat) : Int) := by rw [Int.natCast_mul, Int.toNat_of_nonneg d1]
  have b := mulb (g := (g : Int)) (k := 20) (by omega) (by omega) d1 d2
  rw [e] at b ⊢
  exact ⟨wr_in (by omega), by omega⟩
theorem gr2 {d : Dy} {g : Nat} (hd : OkD d) (hg : g ≤ 20) : wr .i64 ((g : Int) * d.b) = ((g * d.b.toNat : Nat) : Int) ∧ g * d.b.toNat ≤ 120 := by
  have d1 := hd.b0
  have d2 := hd.b6
  have e : (g : Int) * d.b = ((g * d.b.toNat : Nat) : Int) := by rw [Int.natCast_mul, Int.toNat_of_nonneg d1]
  have b := mulb (g := (g : Int)) (k := 20) (by omega) (by omega) d1 d2
  rw [e] at b ⊢
  exact ⟨wr_in (by omega), by omega⟩
theorem gr3 {d : Dy} {g : Nat} (hd : OkD d) (hg : g ≤ 20) : wr .i64 ((g : Int) * d.p) = (g : Int) * d.p ∧ (0 ≤ (g : Int) * d.p ∧ (g : Int) * d.p ≤ 20000000) := by
  have d1 := hd.p0
  have d2 := hd.p6
  have b := mulb (g := (g : Int)) (k := 20) (by omega) (by omega) d1 d2
  exact ⟨wr_in (by omega), by omega⟩
theorem gr4 {x A : Nat} (hx : x < 21) (h : A ≤ x) : ∃ xa : Nat, wr .i64 ((x : Int) - (A : Int)) = (xa : Int) ∧ xa = x - A ∧ xa < 21 ∧ ¬ (xa : Int) < 0 := ⟨x - A, by rw [wr_in (by omega)]; omega, rfl, by omega, by omega⟩
theorem gr5 {x A : Nat} (hx : x < 21) (hA : A ≤ 120) (h : ¬ A ≤ x) : ∃ z : Int, wr .i64 ((x : Int) - (A : Int)) = z ∧ z < 0 := ⟨(x : Int) - A, wr_in (by omega), by omega⟩
theorem gr8 {a b : Int} (h : 0 ≤ a ∧ a ≤ MX) (h2 : 0 ≤ b ∧ b ≤ 20000000) : wr .i64 (a + b) = a + b := wr_in (by unfold MX at h; omega)
theorem cix_lt2 {i n x y : Nat} (hi : i < n) (hx : x < 21) (hy : y < 21) : cix i x y < n * 441 := by unfold cix; omega
set_option maxHeartbeats 8000000 in
theorem costs56 (l : List Dy) (q : Int) (hl : OkL l) : Pure Try.prog 56 [dys l, I q] (ints (costsL l q)) := by
  refine pure_fzE (bad := []) (kp := kp56) (X := tx) (nt := 118) (rs := [.tmp 4]) Try.func56 rfl rfl rfl rfl mo (by kernel_rfl) rfl rfl (fun hf => ?_)
  have h8 := hl.n8
  have hi0 := index60 (l.length + 1) 0 0 (by omega) (by omega) (by omega)
  rw [show cix (l.length + 1) 0 0 = (l.length + 1) * 441 by unfold cix; omega] at hi0
  have w0 : wr .i64 ((l.length : Int) + 1) = ((l.length + 1 : Nat) : Int) := by rw [wr_in (by omega)]; omega
  simp (maxSteps := 2000000) only [go_sem, lk56, dys, w0] at hi0
  simp (maxSteps := 2000000) only [go_sem, reduceIte, Nat.reduceEqDiff, Nat.reduceAdd, lk56, dys, w0]
  refine aops_pure' (hi0) rfl rfl (by first | exact wk_refls _ | (repeat constructor)) ?_
  simp (maxSteps := 2000000) only [go_sem, reduceIte, Nat.reduceEqDiff, lk56, nn, Int.toNat_natCast, rep_nums]
  refine ⟨by rw [Bool.and_eq_true, Bool.and_eq_true]; exact ⟨⟨decide_eq_true (Int.le_refl _), decide_eq_true (by show (8 : Int) * _ ≤ _; omega)⟩, decide_eq_true (by show (_ : Int) ≤ 140737488355328; omega)⟩, ?_⟩
  refine goE_loop (bad := []) (kp := kp56) (fun i : Nat => { slots := [(0, dys l), (1, I q), (5, .c (.ms 0 0 ((l.length + 1) * 441) ((l.length + 1) * 441))), (6, I i)], heap := [.cells (numsC ((l.length + 1) * 441) (cT l q (i * 441)))], marks := [] }) (fun i => i ≤ l.length + 1) (fun i => l.length + 1 - i) 0 mo (by kernel_rfl) ?_ (Nat.zero_le _) ?_
  · refine ent_weaken [] (by simp [cT]) rfl (Nat.zero_le _) (by simp [AB.low, numsC_low]) rfl ?_
    simp (maxSteps := 2000000) only [go_sem, reduceIte, Nat.reduceEqDiff, Nat.reduceLT, Nat.reduceMul, lk56, dys]
    all_goals first | exact .refl _ | exact ⟨.refl _, .refl _⟩ | exact ⟨.refl _, .refl _, .refl _⟩ | exact ⟨.refl _, _, rfl⟩ | exact ⟨_, rfl⟩ | exact ⟨.refl _, [], by simp⟩ | exact ⟨[], by simp⟩
  rintro i hi
  simp (maxSteps := 2000000) only [go_sem, reduceIte, Nat.reduceEqDiff, Nat.reduceAdd, lk56, dys]
  by_cases hlt : i < l.length + 1
  case neg =>
    have hlt' : ¬ (i : Int) ≤ l.length := by omega
    have e : i = l.length + 1 := by omega
    subst e
    simp (maxSteps := 2000000) only [go_sem, reduceIte, Nat.reduceEqDiff, Nat.reduceAdd, lk56, hlt']
    refine ⟨0, numsC ((l.length + 1) * 441) (cT l q ((l.length + 1) * 441)), numsD ((l.length + 1) * 441) (cT l q ((l.length + 1) * 441)), _, rfl, by rw [numsC_d]; exact toDs_d _, .v (.c (.ms 0 1 ((l.length + 1) * 441) ((l.length + 1) * 441) (by rw [numsD_len]; omega) (Nat.le_refl _) (by unfold lim; omega))), ?_⟩
    rw [List.drop_zero, chunk_nums, ints, costsL, List.map_map]
    exact .refl _
  have hlt' : (i : Int) ≤ l.length := by omega
  simp (maxSteps := 2000000) only [go_sem, reduceIte, Nat.reduceEqDiff, Nat.reduceAdd, lk56, hlt', dys]
  refine goE_loop (bad := []) (kp := kp56) (fun x : Nat => { slots := [(0, dys l), (1, I q), (5, .c (.ms 0 0 ((l.length + 1) * 441) ((l.length + 1) * 441))), (6, I i), (7, I x)], heap := [.cells (numsC ((l.length + 1) * 441) (cT l q (i * 441 + x * 21)))], marks := [] }) (fun x => x ≤ 21) (fun x => 21 - x) 0 mo (by kernel_rfl) ?_ (Nat.zero_le _) ?_
  · refine ent_weaken [] (by simp) rfl (Nat.zero_le _) (by simp [AB.low, numsC_low]) rfl ?_
    simp (maxSteps := 2000000) only [go_sem, reduceIte, Nat.reduceEqDiff, Nat.reduceLT, Nat.reduceMul, lk56, dys]
    all_goals first | exact .refl _ | exact ⟨.refl _, .refl _⟩ | exact ⟨.refl _, .refl _, .refl _⟩ | exact ⟨.refl _, _, rfl⟩ | exact ⟨_, rfl⟩ | exact ⟨.refl _, [], by simp⟩ | exact ⟨[], by simp⟩
  rintro x hx
  simp (maxSteps := 2000000) only [go_sem, reduceIte, Nat.reduceEqDiff, Nat.reduceAdd, lk56, dys]
  by_cases hx1 : x < 21
  case neg =>
    have hx1' : ¬ (x : Int) ≤ 20 := by omega
    have e : x = 21 := by omega
    subst e
    have w7 : wr .i64 ((i : Int) + 1) = ((i + 1 : Nat) : Int) := wr_succ hlt (by omega)
    have m1 : l.length + 1 - (i + 1) < l.length + 1 - i := by omega
    simp (maxSteps := 2000000) only [go_sem, reduceIte, Nat.reduceEqDiff, Nat.reduceAdd, Nat.reduceMul, Nat.reduceSub, Int.reduceLE, lk56, hx1', w7]
    refine ⟨i + 1, hlt, m1, ?_⟩
    refine ent_weaken [] (by simp [Nat.add_mul]) rfl (Nat.zero_le _) (by simp [AB.low, numsC_low]) rfl ?_
    simp (maxSteps := 2000000) only [go_sem, reduceIte, Nat.reduceEqDiff, Nat.reduceLT, lk56, dys]
    all_goals first | exact .refl _ | exact ⟨.refl _, .refl _⟩ | exact ⟨.refl _, .refl _, .refl _⟩ | exact ⟨.refl _, _, rfl⟩ | exact ⟨_, rfl⟩ | exact ⟨.refl _, [], by simp⟩ | exact ⟨[], by simp⟩
  have hx1' : (x : Int) ≤ 20 := by omega
  simp (maxSteps := 2000000) only [go_sem, reduceIte, Nat.reduceEqDiff, Nat.reduceAdd, lk56, hx1', dys]
  refine goE_loop (bad := []) (kp := kp56) (fun y : Nat => { slots := [(0, dys l), (1, I q), (5, .c (.ms 0 0 ((l.length + 1) * 441) ((l.length + 1) * 441))), (6, I i), (7, I x), (8, I y)], heap := [.cells (numsC ((l.length + 1) * 441) (cT l q (cix i x y)))], marks := [] }) (fun y => y ≤ 21) (fun y => 21 - y) 0 mo (by kernel_rfl) ?_ (Nat.zero_le _) ?_
  · refine ent_weaken [] (by simp [cix]) rfl (Nat.zero_le _) (by simp [AB.low, numsC_low]) rfl ?_
    simp (maxSteps := 2000000) only [go_sem, reduceIte, Nat.reduceEqDiff, Nat.reduceLT, lk56, dys]
    all_goals first | exact .refl _ | exact ⟨.refl _, .refl _⟩ | exact ⟨.refl _, .refl _, .refl _⟩ | exact ⟨.refl _, _, rfl⟩ | exact ⟨_, rfl⟩ | exact ⟨.refl _, [], by simp⟩ | exact ⟨[], by simp⟩
  rintro y hy
  simp (maxSteps := 2000000) only [go_sem, reduceIte, Nat.reduceEqDiff, Nat.reduceAdd, lk56, dys]
  by_cases hy1 : y < 21
  case neg =>
    have hy1' : ¬ (y : Int) ≤ 20 := by omega
    have e : y = 21 := by omega
    subst e
    have w7 : wr .i64 ((x : Int) + 1) = ((x + 1 : Nat) : Int) := wr_succ hx1 (by omega)
    have m1 : 21 - (x + 1) < 21 - x := by omega
    simp (maxSteps := 2000000) only [go_sem, reduceIte, Nat.reduceEqDiff, Nat.reduceAdd, Nat.reduceSub, Int.reduceLE, lk56, hy1', w7]
    refine ⟨x + 1, hx1, m1, ?_⟩
    refine ent_weaken [] (by simp [cix, Nat.add_mul, Nat.add_assoc]) rfl (Nat.zero_le _) (by simp [AB.low, numsC_low]) rfl ?_
    simp (maxSteps := 2000000) only [go_sem, reduceIte, Nat.reduceEqDiff, Nat.reduceLT, lk56, dys]
    all_goals first | exact .refl _ | exact ⟨.refl _, .refl _⟩ | exact ⟨.refl _, .refl _, .refl _⟩ | exact ⟨.refl _, _, rfl⟩ | exact ⟨_, rfl⟩ | exact ⟨.refl _, [], by simp⟩ | exact ⟨[], by simp⟩
  have hy1' : (y : Int) ≤ 20 := by omega
  have w8 : wr .i64 ((y : Int) + 1) = ((y + 1 : Nat) : Int) := wr_succ hy1 (by omega)
  have m2 : 21 - (y + 1) < 21 - y := by omega
  have hix := index60 i x y (by omega) (by omega) (by omega)
  have hcN : cix i x y < (l.length + 1) * 441 := by unfold cix; omega
  have hcl : ((cix i x y : Nat) : Int) < (((l.length + 1) * 441 : Nat) : Int) := by omega
  have c3 : decide (cix i x y + 1 ≤ (l.length + 1) * 441) = true := by simp; omega
  by_cases hi0 : i = 0
  · have hi0' : decide ((i : Int) = 0) = true := by simp; omega
    have hi0'' : ¬ (0 : Int) < i := by omega
    by_cases hxz : x = 0
    · have hxz' : decide ((x : Int) = 0) = true := by simp; omega
      by_cases hyz : y = 0
      · have hyz' : decide ((y : Int) = 0) = true := by simp; omega
        have hV : costV l q (cT l q (cix i x y)) i x y = 0 := by rw [costV, if_pos hi0, if_pos ⟨hxz, hyz⟩]
        simp (maxSteps := 2000000) only [go_sem, reduceIte, Nat.reduceEqDiff, Nat.reduceAdd, lk56, hy1', hi0', hi0'', hxz', hyz']
        refine aops_pure' (hix) rfl rfl (by first | exact wk_refls _ | (repeat constructor)) ?_
        simp (maxSteps := 2000000) only [go_sem, reduceIte, Nat.reduceEqDiff, lk56, numsC_len, hcl, nn, Int.toNat_natCast, Nat.mul_one, Nat.zero_add, c3, w8]
        refine ⟨y + 1, hy1, m2, ?_⟩
        refine ent_weaken [] (by rw [show cix i x (y + 1) = cix i x y + 1 from rfl, ← cT_succ l q hx1 hy1, hV, ← numsC_set]; rfl) rfl (Nat.zero_le _) (by simp [AB.low, numsC_low]) rfl ?_
        simp (maxSteps := 2000000) only [go_sem, reduceIte, Nat.reduceEqDiff, Nat.reduceLT, lk56, dys]
        all_goals first | exact .refl _ | exact ⟨.refl _, .refl _⟩ | exact ⟨.refl _, .refl _, .refl _⟩ | exact ⟨.refl _, _, rfl⟩ | exact ⟨_, rfl⟩ | exact ⟨.refl _, [], by simp⟩ | exact ⟨[], by simp⟩
      · have hyz' : ¬ (y : Int) = 0 := by omega
        have hV : costV l q (cT l q (cix i x y)) i x y = MX := by rw [costV, if_pos hi0, if_neg (fun h => hyz h.2)]
        simp (maxSteps := 2000000) only [go_sem, reduceIte, Nat.reduceEqDiff, Nat.reduceAdd, lk56, hy1', hi0', hi0'', hxz', hyz']
        refine aops_pure' (hix) rfl rfl (by first | exact wk_refls _ | (repeat constructor)) ?_
        simp (maxSteps := 2000000) only [go_sem, reduceIte, Nat.reduceEqDiff, lk56, numsC_len, hcl, nn, Int.toNat_natCast, Nat.mul_one, Nat.zero_add, c3, w8]
        refine ⟨y + 1, hy1, m2, ?_⟩
        refine ent_weaken [] (by rw [show cix i x (y + 1) = cix i x y + 1 from rfl, ← cT_succ l q hx1 hy1, hV, ← numsC_set]; rfl) rfl (Nat.zero_le _) (by simp [AB.low, numsC_low]) rfl ?_
        simp (maxSteps := 2000000) only [go_sem, reduceIte, Nat.reduceEqDiff, Nat.reduceLT, lk56, dys]
        all_goals first | exact .refl _ | exact ⟨.refl _, .refl _⟩ | exact ⟨.refl _, .refl _, .refl _⟩ | exact ⟨.refl _, _, rfl⟩ | exact ⟨_, rfl⟩ | exact ⟨.refl _, [], by simp⟩ | exact ⟨[], by simp⟩
    · have hxz' : ¬ (x : Int) = 0 := by omega
      have hV : costV l q (cT l q (cix i x y)) i x y = MX := by rw [costV, if_pos hi0, if_neg (fun h => hxz h.1)]
      simp (maxSteps := 2000000) only [go_sem, reduceIte, Nat.reduceEqDiff, Nat.reduceAdd, lk56, hy1', hi0', hi0'', hxz']
      refine aops_pure' (hix) rfl rfl (by first | exact wk_refls _ | (repeat constructor)) ?_
      simp (maxSteps := 2000000) only [go_sem, reduceIte, Nat.reduceEqDiff, lk56, numsC_len, hcl, nn, Int.toNat_natCast, Nat.mul_one, Nat.zero_add, c3, w8]
      refine ⟨y + 1, hy1, m2, ?_⟩
      refine ent_weaken [] (by rw [show cix i x (y + 1) = cix i x y + 1 from rfl, ← cT_succ l q hx1 hy1, hV, ← numsC_set]; rfl) rfl (Nat.zero_le _) (by simp [AB.low, numsC_low]) rfl ?_
      simp (maxSteps := 2000000) only [go_sem, reduceIte, Nat.reduceEqDiff, Nat.reduceLT, lk56, dys]
      all_goals first | exact .refl _ | exact ⟨.refl _, .refl _⟩ | exact ⟨.refl _, .refl _, .refl _⟩ | exact ⟨.refl _, _, rfl⟩ | exact ⟨_, rfl⟩ | exact ⟨.refl _, [], by simp⟩ | exact ⟨[], by simp⟩
  · obtain ⟨p, rfl⟩ : ∃ p, i = p + 1 := ⟨i - 1, by omega⟩
    have hi0' : decide (((p + 1 : Nat) : Int) = 0) = false := by simp; omega
    have hi0'' : (0 : Int) < ((p + 1 : Nat) : Int) := by omega
    have hp : p < l.length := by omega
    have hp' : (p : Int) < l.length := by omega
    have wp : wr .i64 (((p + 1 : Nat) : Int) - 1) = (p : Int) := by rw [wr_in (by omega)]; omega
    have g1 := gD_lt hp
    have hd : OkD (gD l p) := hl.g hp
    have hV : costV l q (cT l q (cix (p + 1) x y)) (p + 1) x y = gM (gD l p) q (cT l q (cix (p + 1) x y)) p x y 21 := by rw [costV, if_neg (by omega)]; rfl
    have hBf := Go.Proofs.Ytkbnmanfoejoiaa.Bd.cT hl q (cix (p + 1) x y) (by omega)
    simp (maxSteps := 2000000) only [go_sem, reduceIte, Nat.reduceEqDiff, Nat.reduceAdd, lk56, hy1', hi0', hi0'', wp, hp', nn, g1, dyD]
    refine goE_loop (bad := []) (kp := kp56) (fun g : Nat => { slots := [(0, dys l), (1, I q), (5, .c (.ms 0 0 ((l.length + 1) * 441) ((l.length + 1) * 441))), (6, I ((p + 1 : Nat) : Int)), (7, I x), (8, I y), (9, I (gM (gD l p) q (cT l q (cix (p + 1) x y)) p x y g)), (10, .c (.ptr 1 0)), (11, I g)], heap := [.cells (numsC ((l.length + 1) * 441) (cT l q (cix (p + 1) x y))), .cells (dyC (gD l p))], marks := [] }) (fun g => g ≤ 21) (fun g => 21 - g) 0 mo (by kernel_rfl) ?_ (Nat.zero_le _) ?_
    · refine ent_weaken [] (by simp [dyC]) rfl (Nat.zero_le _) (by simp [AB.low, numsC_low, dyC, C.lowL, C.low]) rfl ?_
      simp (maxSteps := 2000000) only [go_sem, reduceIte, Nat.reduceEqDiff, Nat.reduceAdd, Nat.reduceLT, lk56, dys, gM, MX]
      all_goals first | exact .refl _ | exact ⟨.refl _, .refl _⟩ | exact ⟨.refl _, .refl _, .refl _⟩ | exact ⟨.refl _, _, rfl⟩ | exact ⟨_, rfl⟩ | exact ⟨.refl _, [], by simp⟩ | exact ⟨[], by simp⟩
    rintro g hg
    simp (maxSteps := 2000000) only [go_sem, reduceIte, Nat.reduceEqDiff, Nat.reduceAdd, lk56, dys, dyC]
    by_cases hg1 : g < 21
    case neg =>
      have hg1' : ¬ (g : Int) ≤ 20 := by omega
      have e : g = 21 := by omega
      subst e
      simp (maxSteps := 2000000) only [go_sem, reduceIte, Nat.reduceEqDiff, Nat.reduceAdd, Nat.reduceSub, Int.reduceLE, lk56, hg1']
      refine aops_pure' (hix) rfl rfl (by first | exact wk_refls _ | (repeat constructor)) ?_
      simp (maxSteps := 2000000) only [go_sem, reduceIte, Nat.reduceEqDiff, lk56, numsC_len, hcl, nn, Int.toNat_natCast, Nat.mul_one, Nat.zero_add, c3, w8]
      refine ⟨y + 1, hy1, m2, ?_⟩
      refine ent_weaken [.cells (dyC (gD l p))] (by rw [show cix (p + 1) x (y + 1) = cix (p + 1) x y + 1 from rfl, ← cT_succ l q hx1 hy1, hV, ← numsC_set]; rfl) rfl (Nat.zero_le _) (by simp [AB.low, numsC_low]) rfl ?_
      simp (maxSteps := 2000000) only [go_sem, reduceIte, Nat.reduceEqDiff, Nat.reduceLT, lk56, dys]
      all_goals first | exact .refl _ | exact ⟨.refl _, .refl _⟩ | exact ⟨.refl _, .refl _, .refl _⟩ | exact ⟨.refl _, _, rfl⟩ | exact ⟨_, rfl⟩ | exact ⟨.refl _, [], by simp⟩ | exact ⟨[], by simp⟩
    have hg1' : (g : Int) ≤ 20 := by omega
    have m3 : 21 - (g + 1) < 21 - g := by omega
    have hg21 : g + 1 ≤ 21 := hg1
    have hgM := Go.Proofs.Ytkbnmanfoejoiaa.Bd.gM (q := q) (i := p) (x := x) (y := y) hBf hd g
    have hs := gM_at (gD l p) q (cT l q (cix (p + 1) x y)) p x y g
    obtain ⟨wA, bA⟩ := gr1 hd (show g ≤ 20 by omega)
    obtain ⟨wB, bB⟩ := gr2 hd (show g ≤ 20 by omega)
    obtain ⟨w5, bP⟩ := gr3 hd (show g ≤ 20 by omega)
    have hp100 : p < 100 := by omega
    have hpl : p < l.length + 1 := by omega
    have g0 : g = 0 ∨ 0 < g := by omega
    have g0' : (g : Int) = 0 ∨ (0 : Int) < g := by omega
    have w9 : wr .i64 ((g : Int) + 1) = ((g + 1 : Nat) : Int) := wr_succ hg1 (by decide)
    generalize gM (gD l p) q (cT l q (cix (p + 1) x y)) p x y g = G0 at *
    generalize g * (gD l p).a.toNat = A at *
    generalize g * (gD l p).b.toNat = B' at *
    by_cases hx2 : A ≤ x
    case neg =>
      obtain ⟨z, w3, hz⟩ := gr5 hx1 bA hx2
      obtain ⟨z2, w4⟩ : ∃ z2, wr .i64 ((y : Int) - (B' : Int)) = z2 := ⟨_, rfl⟩
      rw [if_neg (fun h => hx2 h.1.1)] at hs
      simp (maxSteps := 2000000) only [go_sem, reduceIte, Nat.reduceEqDiff, Nat.reduceAdd, Nat.reduceLeDiff, Nat.reduceBEq, Nat.reduceMul, Int.reduceLT, Int.reduceLE, Int.reduceToNat, lk56, hg1', wA, wB, w3, w4, hz, w9]
      refine ⟨g + 1, hg1, m3, ?_⟩
      refine ent_weaken [] (by simp [dyC]) rfl (Nat.zero_le _) (by simp [AB.low, numsC_low, dyC, C.lowL, C.low]) rfl ?_
      simp (maxSteps := 2000000) only [go_sem, reduceIte, Nat.reduceEqDiff, Nat.reduceAdd, Nat.reduceLT, lk56, dys, hs]
      all_goals first | exact .refl _ | exact ⟨.refl _, .refl _⟩ | exact ⟨.refl _, .refl _, .refl _⟩ | exact ⟨.refl _, _, rfl⟩ | exact ⟨_, rfl⟩ | exact ⟨.refl _, [], by simp⟩ | exact ⟨[], by simp⟩
    obtain ⟨xa, w3, hxa, xa1, xa2⟩ := gr4 hx1 hx2
    by_cases hy2 : B' ≤ y
    case neg =>
      obtain ⟨z, w4, hz⟩ := gr5 hy1 bB hy2
      rw [if_neg (fun h => hy2 h.1.2)] at hs
      simp (maxSteps := 2000000) only [go_sem, reduceIte, Nat.reduceEqDiff, Nat.reduceAdd, Nat.reduceLeDiff, Nat.reduceBEq, Nat.reduceMul, Int.reduceLT, Int.reduceLE, Int.reduceToNat, lk56, hg1', wA, wB, w3, w4, xa2, hz, w9]
      refine ⟨g + 1, hg1, m3, ?_⟩
      refine ent_weaken [] (by simp [dyC]) rfl (Nat.zero_le _) (by simp [AB.low, numsC_low, dyC, C.lowL, C.low]) rfl ?_
      simp (maxSteps := 2000000) only [go_sem, reduceIte, Nat.reduceEqDiff, Nat.reduceAdd, Nat.reduceLT, lk56, dys, hs]
      all_goals first | exact .refl _ | exact ⟨.refl _, .refl _⟩ | exact ⟨.refl _, .refl _, .refl _⟩ | exact ⟨.refl _, _, rfl⟩ | exact ⟨_, rfl⟩ | exact ⟨.refl _, [], by simp⟩ | exact ⟨[], by simp⟩
    obtain ⟨yb, w4, hyb, yb1, yb2⟩ := gr4 hy1 hy2
    rw [← hxa, ← hyb] at hs
    have hi2 := index60 p xa yb hp100 (Nat.lt_trans xa1 (by decide)) (Nat.lt_trans yb1 (by decide))
    have kN := cix_lt2 hpl xa1 yb1
    have kN' : ((cix p xa yb : Nat) : Int) < (((l.length + 1) * 441 : Nat) : Int) := Int.ofNat_lt.2 kN
    have v1 := numsC_get (f := cT l q (cix (p + 1) x y)) kN
    have b1 := hBf (cix p xa yb)
    have c4 : decide (cix p xa yb + 1 ≤ (l.length + 1) * 441) = true := decide_eq_true kN
    simp only [hx2, hy2, true_and] at hs
    have w8 := gr8 b1 bP
    generalize cT l q (cix (p + 1) x y) (cix p xa yb) = fk at *
    generalize cix p xa yb = k at *
    by_cases hg0 : 0 < g
    · have hg0' : (0 : Int) < g := Int.ofNat_lt.2 hg0
      by_cases hf1 : (gD l p).f < q
      case pos =>
        rw [if_neg (fun h => h.1 ⟨hg0, hf1⟩)] at hs
        simp (maxSteps := 2000000) only [go_sem, reduceIte, Nat.reduceEqDiff, Nat.reduceAdd, Nat.reduceLeDiff, Nat.reduceBEq, Nat.reduceMul, Int.reduceLT, Int.reduceLE, Int.reduceToNat, lk56, hg1', wA, wB, w3, w4, xa2, yb2, hg0', hf1, w9]
        refine ⟨g + 1, hg1, m3, ?_⟩
        refine ent_weaken [] (by simp [dyC]) rfl (Nat.zero_le _) (by simp [AB.low, numsC_low, dyC, C.lowL, C.low]) rfl ?_
        simp (maxSteps := 2000000) only [go_sem, reduceIte, Nat.reduceEqDiff, Nat.reduceAdd, Nat.reduceLT, lk56, dys, hs]
        all_goals first | exact .refl _ | exact ⟨.refl _, .refl _⟩ | exact ⟨.refl _, .refl _, .refl _⟩ | exact ⟨.refl _, _, rfl⟩ | exact ⟨_, rfl⟩ | exact ⟨.refl _, [], by simp⟩ | exact ⟨[], by simp⟩
      simp only [hf1, and_false, not_false_eq_true, true_and] at hs
      by_cases hm : fk = MX
      case pos =>
        have hm' : fk = 1099511627776 := hm
        rw [if_neg (fun h => h hm)] at hs
        simp (maxSteps := 2000000) only [go_sem, reduceIte, Nat.reduceEqDiff, Nat.reduceAdd, Nat.reduceLeDiff, Nat.reduceBEq, Nat.reduceMul, Int.reduceLT, Int.reduceLE, Int.reduceToNat, lk56, hg1', wA, wB, w3, w4, xa2, yb2, hg0', hf1, wp]
        refine aops_pure' (hi2) rfl rfl (by first | exact wk_refls _ | (repeat constructor)) ?_
        simp (maxSteps := 2000000) only [go_sem, reduceIte, Nat.reduceEqDiff, Nat.reduceAdd, lk56, numsC_len, kN', nn, Int.toNat_natCast, Nat.mul_one, Nat.zero_add, v1, c4, hm', w9]
        refine ⟨g + 1, hg1, m3, ?_⟩
        refine ent_weaken [] (by simp [dyC]) rfl (Nat.zero_le _) (by simp [AB.low, numsC_low, dyC, C.lowL, C.low]) rfl ?_
        simp (maxSteps := 2000000) only [go_sem, reduceIte, Nat.reduceEqDiff, Nat.reduceAdd, Nat.reduceLT, lk56, dys, hs]
        all_goals first | exact .refl _ | exact ⟨.refl _, .refl _⟩ | exact ⟨.refl _, .refl _, .refl _⟩ | exact ⟨.refl _, _, rfl⟩ | exact ⟨_, rfl⟩ | exact ⟨.refl _, [], by simp⟩ | exact ⟨[], by simp⟩
      have hm' : ¬ fk = 1099511627776 := hm
      rw [if_pos hm] at hs
      simp (maxSteps := 2000000) only [go_sem, reduceIte, Nat.reduceEqDiff, Nat.reduceAdd, Nat.reduceLeDiff, Nat.reduceBEq, Nat.reduceMul, Int.reduceLT, Int.reduceLE, Int.reduceToNat, lk56, hg1', wA, wB, w3, w4, xa2, yb2, hg0', hf1, wp]
      refine aops_pure' (hi2) rfl rfl (by first | exact wk_refls _ | (repeat constructor)) ?_
      simp (maxSteps := 2000000) only [go_sem, reduceIte, Nat.reduceEqDiff, Nat.reduceAdd, lk56, numsC_len, kN', nn, Int.toNat_natCast, Nat.mul_one, Nat.zero_add, v1, c4, hm', w9, wp]
      refine dops_pure' (hi2) rfl rfl (by first | exact wk_refls _ | (repeat constructor)) (by kernel_rfl) ?_
      simp (maxSteps := 2000000) only [go_sem, reduceIte, Nat.reduceEqDiff, Nat.reduceAdd, Nat.reduceLeDiff, Nat.reduceBEq, lk56, numsC_len, kN', nn, Int.toNat_natCast, Nat.mul_one, Nat.zero_add, v1, c4, hm', w5, w8, w9]
      refine ⟨g + 1, hg1, m3, ?_⟩
      refine ent_weaken [] (by simp [dyC]) rfl (Nat.zero_le _) (by simp [AB.low, numsC_low, dyC, C.lowL, C.low]) rfl ?_
      simp (maxSteps := 2000000) only [go_sem, reduceIte, Nat.reduceEqDiff, Nat.reduceAdd, Nat.reduceLT, lk56, dys, hs]
      all_goals first | exact .refl _ | exact ⟨.refl _, .refl _⟩ | exact ⟨.refl _, .refl _, .refl _⟩ | exact ⟨.refl _, _, rfl⟩ | exact ⟨_, rfl⟩ | exact ⟨.refl _, [], by simp⟩ | exact ⟨[], by simp⟩
    · have hg0' : ¬ (0 : Int) < g := fun h => hg0 (Int.ofNat_lt.1 h)
      simp only [hg0, false_and, not_false_eq_true, true_and] at hs
      by_cases hm : fk = MX
      case pos =>
        have hm' : fk = 1099511627776 := hm
        rw [if_neg (fun h => h hm)] at hs
        simp (maxSteps := 2000000) only [go_sem, reduceIte, Nat.reduceEqDiff, Nat.reduceAdd, Nat.reduceLeDiff, Nat.reduceBEq, Nat.reduceMul, Int.reduceLT, Int.reduceLE, Int.reduceToNat, lk56, hg1', wA, wB, w3, w4, xa2, yb2, hg0', wp]
        refine aops_pure' (hi2) rfl rfl (by first | exact wk_refls _ | (repeat constructor)) ?_
        simp (maxSteps := 2000000) only [go_sem, reduceIte, Nat.reduceEqDiff, Nat.reduceAdd, lk56, numsC_len, kN', nn, Int.toNat_natCast, Nat.mul_one, Nat.zero_add, v1, c4, hm', w9]
        refine ⟨g + 1, hg1, m3, ?_⟩
        refine ent_weaken [] (by simp [dyC]) rfl (Nat.zero_le _) (by simp [AB.low, numsC_low, dyC, C.lowL, C.low]) rfl ?_
        simp (maxSteps := 2000000) only [go_sem, reduceIte, Nat.reduceEqDiff, Nat.reduceAdd, Nat.reduceLT, lk56, dys, hs]
        all_goals first | exact .refl _ | exact ⟨.refl _, .refl _⟩ | exact ⟨.refl _, .refl _, .refl _⟩ | exact ⟨.refl _, _, rfl⟩ | exact ⟨_, rfl⟩ | exact ⟨.refl _, [], by simp⟩ | exact ⟨[], by simp⟩
      have hm' : ¬ fk = 1099511627776 := hm
      rw [if_pos hm] at hs
      simp (maxSteps := 2000000) only [go_sem, reduceIte, Nat.reduceEqDiff, Nat.reduceAdd, Nat.reduceLeDiff, Nat.reduceBEq, Nat.reduceMul, Int.reduceLT, Int.reduceLE, Int.reduceToNat, lk56, hg1', wA, wB, w3, w4, xa2, yb2, hg0', wp]
      refine aops_pure' (hi2) rfl rfl (by first | exact wk_refls _ | (repeat constructor)) ?_
      simp (maxSteps := 2000000) only [go_sem, reduceIte, Nat.reduceEqDiff, Nat.reduceAdd, lk56, numsC_len, kN', nn, Int.toNat_natCast, Nat.mul_one, Nat.zero_add, v1, c4, hm', w9, wp]
      refine dops_pure' (hi2) rfl rfl (by first | exact wk_refls _ | (repeat constructor)) (by kernel_rfl) ?_
      simp (maxSteps := 2000000) only [go_sem, reduceIte, Nat.reduceEqDiff, Nat.reduceAdd, Nat.reduceLeDiff, Nat.reduceBEq, lk56, numsC_len, kN', nn, Int.toNat_natCast, Nat.mul_one, Nat.zero_add, v1, c4, hm', w5, w8, w9]
      refine ⟨g + 1, hg1, m3, ?_⟩
      refine ent_weaken [] (by simp [dyC]) rfl (Nat.zero_le _) (by simp [AB.low, numsC_low, dyC, C.lowL, C.low]) rfl ?_
      simp (maxSteps := 2000000) only [go_sem, reduceIte, Nat.reduceEqDiff, Nat.reduceAdd, Nat.reduceLT, lk56, dys, hs]
      all_goals first | exact .refl _ | exact ⟨.refl _, .refl _⟩ | exact ⟨.refl _, .refl _, .refl _⟩ | exact ⟨.refl _, _, rfl⟩ | exact ⟨_, rfl⟩ | exact ⟨.refl _, [], by simp⟩ | exact ⟨[], by simp⟩
end Go.Proofs.Ytkbnmanfoejoiaa
/- Dyes: what fill and Costs compute. -/
set_option linter.unusedSimpArgs false
set_option linter.unusedVariables false
set_option maxRecDepth 100000
namespace Go.Proofs.Ytkbnmanfoejoiaa
open Go Go.Abs Go.Proofs

theorem cix_inj {i x y x' y' : Nat} (hy : y < 21) (hy' : y' < 21) (h : cix i x y = cix i x' y') : x = x' ∧ y = y' := by unfold cix at h; omega
theorem upd_at (f : Nat → Int) (k : Nat) (v : Int) : upd f k v k = v := if_pos rfl
theorem upd_other {f : Nat → Int} {k j : Nat} {v : Int} (h : j ≠ k) : upd f k v j = f j := if_neg h
theorem relax_other {d : Dy} {i : Nat} {f : Nat → Int} {x y j : Nat} (h : j ≠ cix (i + 1) (x + d.a.toNat) (y + d.b.toNat)) : relaxD d i f x y j = f j := by
  unfold relaxD
  split
  · exact upd_other h
  · rfl
theorem run_inv {d : Dy} (hd : OkD d) (i : Nat) (f : Nat → Int) : ∀ (k : Nat), k ≤ 441 → ∀ x y, x < 21 → y < 21 →
    runS (relaxD d i) f k (cix (i + 1) x y) = if (d.a.toNat ≤ x ∧ d.b.toNat ≤ y) ∧ (x - d.a.toNat) * 21 + (y - d.b.toNat) < k ∧ runS (relaxD d i) f k (cix (i + 1) (x - d.a.toNat) (y - d.b.toNat)) ≠ MX then min (f (cix (i + 1) x y)) (runS (relaxD d i) f k (cix (i + 1) (x - d.a.toNat) (y - d.b.toNat)) + d.p) else f (cix (i + 1) x y)
  | 0, _, x, y, hx, hy => by rw [if_neg (fun h => by omega)]; rfl
  | k + 1, hk, x, y, hx, hy => by
    have ih := run_inv hd i f k (by omega)
    rw [runS]
    have hab : 0 < d.a.toNat + d.b.toNat := by
      have := hd.ab
      have := hd.a0
      have := hd.b0
      omega
    generalize runS (relaxD d i) f k = S at *
    obtain ⟨x0, hx0⟩ : ∃ x0, x0 = k / 21 := ⟨_, rfl⟩
    obtain ⟨y0, hy0⟩ : ∃ y0, y0 = k % 21 := ⟨_, rfl⟩
    rw [← hx0, ← hy0]
    have hx0' : x0 < 21 := by omega
    have hy0' : y0 < 21 := by omega
    have hk0 : x0 * 21 + y0 = k := by omega
    unfold relaxD
    generalize d.a.toNat = a at *
    generalize d.b.toNat = b at *
    by_cases hc : (x0 + a < 21 ∧ y0 + b < 21) ∧ S (cix (i + 1) x0 y0) ≠ MX
    · rw [if_pos hc]
      by_cases ht : x = x0 + a ∧ y = y0 + b
      · obtain ⟨rfl, rfl⟩ := ht
        rw [upd_at, Nat.add_sub_cancel, Nat.add_sub_cancel, upd_other (fun h => by have := cix_inj hy0' hc.1.2 h; omega), if_pos ⟨⟨by omega, by omega⟩, by omega, hc.2⟩]
        have h := ih (x0 + a) (y0 + b) hx hy
        rw [if_neg (fun h => by omega)] at h
        rw [h]
      · rw [upd_other (fun h => ht (cix_inj hy hc.1.2 h)), ih x y hx hy]
        by_cases h1 : (a ≤ x ∧ b ≤ y) ∧ (x - a) * 21 + (y - b) < k
        · have hne : cix (i + 1) (x - a) (y - b) ≠ cix (i + 1) (x0 + a) (y0 + b) := fun h => by
            have := cix_inj (by omega) hc.1.2 h
            omega
          rw [upd_other hne]
          by_cases h2 : S (cix (i + 1) (x - a) (y - b)) ≠ MX
          · rw [if_pos ⟨h1.1, h1.2, h2⟩, if_pos ⟨h1.1, by omega, h2⟩]
          · rw [if_neg (fun h => h2 h.2.2), if_neg (fun h => h2 h.2.2)]
        · rw [if_neg (fun h => h1 ⟨h.1, h.2.1⟩), if_neg (fun h => ?_)]
          have : (x - a) * 21 + (y - b) = k := by
            have h3 := h.2.1
            have h4 : ¬ (x - a) * 21 + (y - b) < k := fun h5 => h1 ⟨h.1, h5⟩
            omega
          exact ht (by omega)
    · rw [if_neg hc, ih x y hx hy]
      by_cases h1 : (a ≤ x ∧ b ≤ y) ∧ (x - a) * 21 + (y - b) < k
      · by_cases h2 : S (cix (i + 1) (x - a) (y - b)) ≠ MX
        · rw [if_pos ⟨h1.1, h1.2, h2⟩, if_pos ⟨h1.1, by omega, h2⟩]
        · rw [if_neg (fun h => h2 h.2.2), if_neg (fun h => h2 h.2.2)]
      · rw [if_neg (fun h => h1 ⟨h.1, h.2.1⟩), if_neg (fun h => ?_)]
        have h3 := h.2.1
        have h4 : ¬ (x - a) * 21 + (y - b) < k := fun h5 => h1 ⟨h.1, h5⟩
        have e1 : x - a = x0 := by omega
        have e2 : y - b = y0 := by omega
        have h5 := h.2.2
        rw [e1, e2] at h5
        exact hc ⟨by omega, h5⟩
theorem run_low {d : Dy} {i j : Nat} {f : Nat → Int} (hj : j < (i + 1) * 441) : ∀ k, runS (relaxD d i) f k j = f j
  | 0 => rfl
  | k + 1 => by
    rw [runS, relax_other (by unfold cix; omega), run_low hj k]
theorem copy_at (i : Nat) (f : Nat → Int) {x y : Nat} (hx : x < 21) (hy : y < 21) : copyRow i f (cix (i + 1) x y) = f (cix i x y) := by
  unfold copyRow
  rw [if_pos (by unfold cix; omega)]
  congr 1
  unfold cix; omega
theorem copy_low {i j : Nat} {f : Nat → Int} (hj : j < (i + 1) * 441) : copyRow i f j = f j := if_neg (by omega)
theorem fill_low {l : List Dy} {q : Int} {i j : Nat} (hj : j < (i + 1) * 441) : fillF l q (i + 1) j = fillF l q i j := by
  rw [fillF]
  split
  · rw [run_low hj, copy_low hj]
  · exact copy_low hj
theorem fill_later {l : List Dy} {q : Int} {i j : Nat} (hj : j < (i + 1) * 441) : ∀ n, i ≤ n → fillF l q n j = fillF l q i j
  | 0, h => by have : i = 0 := by omega
               subst this; rfl
  | n + 1, h => by
    by_cases e : i = n + 1
    · subst e; rfl
    · have hin : i ≤ n := by omega
      have h2 : (i + 1) * 441 ≤ (n + 1) * 441 := Nat.mul_le_mul_right _ (by omega)
      rw [fill_low (by omega), fill_later hj n hin]
/-- The rows of a table of costs: one row follows from the row before. -/
structure RecT (l : List Dy) (q : Int) (T : Nat → Int) : Prop where
  z : ∀ x y, x < 21 → y < 21 → T (cix 0 x y) = if x = 0 ∧ y = 0 then 0 else MX
  s : ∀ i x y, i < l.length → x < 21 → y < 21 → T (cix (i + 1) x y) = if ((gD l i).a.toNat ≤ x ∧ (gD l i).b.toNat ≤ y) ∧ q ≤ (gD l i).f ∧ T (cix (i + 1) (x - (gD l i).a.toNat) (y - (gD l i).b.toNat)) ≠ MX then min (T (cix i x y)) (T (cix (i + 1) (x - (gD l i).a.toNat) (y - (gD l i).b.toNat)) + (gD l i).p) else T (cix i x y)
theorem fill_rec {l : List Dy} (hl : OkL l) (q : Int) : RecT l q (fillF l q l.length) := by
  refine ⟨fun x y hx hy => ?_, fun i x y hi hx hy => ?_⟩
  · rw [fill_later (i := 0) (by unfold cix; omega) l.length (Nat.zero_le _)]
    unfold fillF fill0
    by_cases h : x = 0 ∧ y = 0
    · rw [if_pos h, if_pos (by unfold cix; omega)]
    · rw [if_neg h, if_neg (by unfold cix; omega), if_pos (by unfold cix; omega)]
  · have e0 : fillF l q l.length (cix i x y) = fillF l q i (cix i x y) := fill_later (by unfold cix; omega) _ (by omega)
    have e1 : ∀ x y, x < 21 → y < 21 → fillF l q l.length (cix (i + 1) x y) = fillF l q (i + 1) (cix (i + 1) x y) := fun x y hx hy => fill_later (by unfold cix; omega) _ (by omega)
    rw [e0, e1 x y hx hy, e1 _ _ (Nat.lt_of_le_of_lt (Nat.sub_le _ _) hx) (Nat.lt_of_le_of_lt (Nat.sub_le _ _) hy)]
    by_cases hq : q ≤ (gD l i).f
    · have h := run_inv (hl.g hi) i (copyRow i (fillF l q i)) 441 (Nat.le_refl _) x y hx hy
      rw [copy_at i _ hx hy] at h
      rw [show fillF l q (i + 1) = runS (relaxD (gD l i) i) (copyRow i (fillF l q i)) 441 by rw [fillF, if_pos hq]]
      rw [h]
      by_cases h1 : ((gD l i).a.toNat ≤ x ∧ (gD l i).b.toNat ≤ y) ∧ runS (relaxD (gD l i) i) (copyRow i (fillF l q i)) 441 (cix (i + 1) (x - (gD l i).a.toNat) (y - (gD l i).b.toNat)) ≠ MX
      · rw [if_pos ⟨h1.1, by omega, h1.2⟩, if_pos ⟨h1.1, hq, h1.2⟩]
      · rw [if_neg (fun h2 => h1 ⟨h2.1, h2.2.2⟩), if_neg (fun h2 => h1 ⟨h2.1, h2.2.2⟩)]
    · rw [show fillF l q (i + 1) = copyRow i (fillF l q i) by rw [fillF, if_neg hq], copy_at i _ hx hy, if_neg (fun h => hq h.2.1)]
/-! ### Recipes -/
/-- By the first dyes one comes to both bands at a cost. -/
def Reach (l : List Dy) (q : Int) : Nat → Nat → Nat → Int → Prop
  | 0, x, y, c => x = 0 ∧ y = 0 ∧ c = 0
  | i + 1, x, y, c => ∃ g : Nat, (0 < g → q ≤ (gD l i).f) ∧ ∃ x' y' c', Reach l q i x' y' c' ∧ x = x' + g * (gD l i).a.toNat ∧ y = y' + g * (gD l i).b.toNat ∧ c = c' + g * (gD l i).p
theorem ok_g20 {d : Dy} (hd : OkD d) {g x y x' y' : Nat} (hx : x < 21) (hy : y < 21) (ex : x = x' + g * d.a.toNat) (ey : y = y' + g * d.b.toNat) : g ≤ 20 := by
  have h1 := hd.ab
  have h2 := hd.a0
  have h3 := hd.b0
  by_cases ha : 0 < d.a.toNat
  · have : g * 1 ≤ g * d.a.toNat := Nat.mul_le_mul_left _ ha
    omega
  · have : g * 1 ≤ g * d.b.toNat := Nat.mul_le_mul_left _ (by omega)
    omega
theorem reach_bound {l : List Dy} (hl : OkL l) {q : Int} : ∀ {i x y : Nat} {c : Int}, i ≤ l.length → x < 21 → y < 21 → Reach l q i x y c → 0 ≤ c ∧ c ≤ 20000000 * i
  | 0, x, y, c, _, _, _, h => by obtain ⟨_, _, rfl⟩ := h; omega
  | i + 1, x, y, c, hi, hx, hy, h => by
    obtain ⟨g, hg, x', y', c', h1, ex, ey, ec⟩ := h
    have hd := hl.g (show i < l.length by omega)
    have ih := reach_bound hl (by omega) (by omega) (by omega) h1
    have hg := ok_g20 hd hx hy ex ey
    have hp := mulb (g := (g : Int)) (k := 20) (by omega) (by omega) hd.p0 hd.p6
    omega
/-- The least cost, or MX. -/
structure IsL (l : List Dy) (q : Int) (i x y : Nat) (v : Int) : Prop where
  at' : v = MX ∨ Reach l q i x y v
  le : ∀ c, Reach l q i x y c → v ≤ c
theorem isL_uniq {l : List Dy} (hl : OkL l) {q : Int} {i x y : Nat} {v w : Int} (hi : i ≤ l.length) (hx : x < 21) (hy : y < 21) (h : IsL l q i x y v) (k : IsL l q i x y w) : v = w := by
  have h8 := hl.n8
  rcases h.at' with h1 | h1 <;> rcases k.at' with k1 | k1
  · rw [h1, k1]
  · have := h.le _ k1
    have := reach_bound hl hi hx hy k1
    unfold MX at *; omega
  · have := k.le _ h1
    have := reach_bound hl hi hx hy h1
    unfold MX at *; omega
  · have := h.le _ k1
    have := k.le _ h1
    omega
theorem rec_isL {l : List Dy} (hl : OkL l) {q : Int} {T : Nat → Int} (h : RecT l q T) : ∀ {i : Nat}, i ≤ l.length → ∀ {x y : Nat}, x < 21 → y < 21 → IsL l q i x y (T (cix i x y))
  | 0, _, x, y, hx, hy => by
    rw [h.z x y hx hy]
    by_cases e : x = 0 ∧ y = 0
    · rw [if_pos e]
      exact ⟨.inr ⟨e.1, e.2, rfl⟩, fun c hc => by have := hc.2.2; omega⟩
    · rw [if_neg e]
      exact ⟨.inl rfl, fun c hc => absurd ⟨hc.1, hc.2.1⟩ e⟩
  | i + 1, hi, x, y, hx, hy => by
    have hd := hl.g (show i < l.length by omega)
    have h8 := hl.n8
    have hab : 0 < (gD l i).a.toNat + (gD l i).b.toNat := by
      have := hd.ab
      have := hd.a0
      have := hd.b0
      omega
    have ih0 := fun {x y : Nat} (hx : x < 21) (hy : y < 21) => rec_isL hl h (i := i) (by omega) (x := x) (y := y) hx hy
    have hle0 : ∀ {x y : Nat}, x < 21 → y < 21 → T (cix (i + 1) x y) ≤ T (cix i x y) := fun {x y} hx hy => by
      rw [h.s i x y (by omega) hx hy]
      split <;> omega
    refine ⟨?_, ?_⟩
    · -- it is reached
      have key : ∀ m x y, x + y < m → x < 21 → y < 21 → T (cix (i + 1) x y) = MX ∨ Reach l q (i + 1) x y (T (cix (i + 1) x y)) := fun m => by
        induction m with
        | zero => intro x y h; omega
        | succ m ihm =>
          intro x y hm hx hy
          have base : T (cix i x y) = MX ∨ Reach l q (i + 1) x y (T (cix i x y)) := by
            rcases (ih0 hx hy).at' with h1 | h1
            · exact .inl h1
            · exact .inr ⟨0, fun h => by omega, x, y, _, h1, by omega, by omega, by omega⟩
          rw [h.s i x y (by omega) hx hy]
          split
          · rename_i hc
            by_cases hm2 : T (cix i x y) ≤ T (cix (i + 1) (x - (gD l i).a.toNat) (y - (gD l i).b.toNat)) + (gD l i).p
            · rw [Int.min_eq_left hm2]; exact base
            · rw [Int.min_eq_right (by omega)]
              rcases ihm (x - (gD l i).a.toNat) (y - (gD l i).b.toNat) (by omega) (by omega) (by omega) with h2 | h2
              · exact absurd h2 hc.2.2
              · obtain ⟨g, hg, x', y', c', r1, ex, ey, ec⟩ := h2
                refine .inr ⟨g + 1, fun _ => hc.2.1, x', y', c', r1, ?_, ?_, ?_⟩
                · rw [Nat.add_mul, Nat.one_mul]; omega
                · rw [Nat.add_mul, Nat.one_mul]; omega
                · rw [ec, Int.natCast_succ, Int.add_mul, Int.one_mul]; omega
          · exact base
      exact key (x + y + 1) x y (by omega) hx hy
    · intro c hc
      obtain ⟨g, hg, x', y', c', r1, ex, ey, ec⟩ := hc
      have key : ∀ (g : Nat) x y (c : Int), (0 < g → q ≤ (gD l i).f) → x < 21 → y < 21 → x = x' + g * (gD l i).a.toNat → y = y' + g * (gD l i).b.toNat → c = c' + g * (gD l i).p → T (cix (i + 1) x y) ≤ c := fun g => by
        induction g with
        | zero =>
          intro x y c _ hx hy ex ey ec
          have e1 : x = x' := by omega
          have e2 : y = y' := by omega
          subst e1; subst e2
          have := (ih0 hx hy).le _ r1
          have := hle0 hx hy
          have e : ((0 : Nat) : Int) * (gD l i).p = 0 := by rw [show ((0 : Nat) : Int) = 0 from rfl, Int.zero_mul]
          omega
        | succ g ihg =>
          intro x y c hq hx hy ex ey ec
          rw [Nat.add_mul, Nat.one_mul] at ex ey
          rw [Int.natCast_succ, Int.add_mul, Int.one_mul] at ec
          have h1 := ihg (x - (gD l i).a.toNat) (y - (gD l i).b.toNat) (c - (gD l i).p) (fun _ => hq (by omega)) (by omega) (by omega) (by omega) (by omega) (by omega)
          have hr : Reach l q (i + 1) (x - (gD l i).a.toNat) (y - (gD l i).b.toNat) (c - (gD l i).p) := ⟨g, fun _ => hq (by omega), x', y', c', r1, by omega, by omega, by omega⟩
          have hb := reach_bound hl (by omega) (by omega) (by omega) hr
          rw [h.s i x y (by omega) hx hy, if_pos ⟨⟨by omega, by omega⟩, hq (by omega), fun e => by rw [e] at h1; unfold MX at h1; omega⟩]
          omega
      exact key g x y c hg hx hy ex ey ec
end Go.Proofs.Ytkbnmanfoejoiaa
/- Dyes: bound. -/
set_option linter.unusedSimpArgs false
set_option linter.unusedVariables false
set_option maxRecDepth 100000
namespace Go.Proofs.Ytkbnmanfoejoiaa
open Go Go.Abs Go.Proofs
def kp55 : List (Nat × List Nat) := [(0, [0, 2, 4]), (1, [0, 2, 4, 7]), (2, [0, 2, 4, 7, 8]), (3, [0, 2, 4, 7, 8, 19]), (4, [0, 2, 4, 7, 8]), (5, [0, 2, 4, 7, 8, 9]), (6, [0, 2, 4, 7, 8, 9, 31]), (7, [0, 2, 4, 7, 8, 9]), (8, [0, 2, 4, 7, 8, 9]), (9, [6])]
theorem lk55 : lookK kp55 0 = some [0, 2, 4] ∧ lookK kp55 1 = some [0, 2, 4, 7] ∧ lookK kp55 2 = some [0, 2, 4, 7, 8] ∧ lookK kp55 3 = some [0, 2, 4, 7, 8, 19] ∧ lookK kp55 4 = some [0, 2, 4, 7, 8] ∧ lookK kp55 5 = some [0, 2, 4, 7, 8, 9] ∧ lookK kp55 6 = some [0, 2, 4, 7, 8, 9, 31] ∧ lookK kp55 7 = some [0, 2, 4, 7, 8, 9] ∧ lookK kp55 8 = some [0, 2, 4, 7, 8, 9] ∧ lookK kp55 9 = some [6] := ⟨rfl, rfl, rfl, rfl, rfl, rfl, rfl, rfl, rfl, rfl⟩

def rowM (t : Nat → Int) (n x y0 : Nat) (b : Int) : Nat → Int
  | 0 => b
  | k + 1 => min (rowM t n x y0 b k) (t (cix n x (y0 + k)))
def allM (t : Nat → Int) (n x0 y0 h : Nat) : Nat → Int
  | 0 => MX
  | k + 1 => rowM t n (x0 + k) y0 (allM t n x0 y0 h k) h
/-- The bound of a table for a want. -/
def boundF (n : Nat) (w : Wn) (t : Nat → Int) : Int := allM t n w.x.lo.toNat w.y.lo.toNat (w.y.hi.toNat + 1 - w.y.lo.toNat) (w.x.hi.toNat + 1 - w.x.lo.toNat)
set_option maxHeartbeats 4000000 in
theorem bound55 (l : List Dy) (w : Wn) (t : List Int) (hl : OkL l) (ho : OkW w) (ht : t.length = (l.length + 1) * 441) : Pure Try.prog 55 [dys l, wnV w, ints t] (I (boundF l.length w (gI t))) := by
  refine pure_wkE (bad := []) (kp := kp55) (X := tx) (nt := 45) (rs := [.tmp 6]) Try.func55 rfl rfl rfl rfl mo (by kernel_rfl) rfl rfl (fun hf => ?_)
  have h8 := hl.n8
  have o1 := ho.x0
  have o2 := ho.x1
  have o3 := ho.x2
  have o4 := ho.y0
  have o5 := ho.y1
  have o6 := ho.y2
  obtain ⟨x0, hx0⟩ : ∃ x0 : Nat, w.x.lo = x0 := ⟨w.x.lo.toNat, by omega⟩
  obtain ⟨x1, hx1⟩ : ∃ x1 : Nat, w.x.hi = x1 := ⟨w.x.hi.toNat, by omega⟩
  obtain ⟨z0, hz0⟩ : ∃ z0 : Nat, w.y.lo = z0 := ⟨w.y.lo.toNat, by omega⟩
  obtain ⟨z1, hz1⟩ : ∃ z1 : Nat, w.y.hi = z1 := ⟨w.y.hi.toNat, by omega⟩
  have hbd : boundF l.length w (gI t) = allM (gI t) l.length x0 z0 (z1 + 1 - z0) (x1 + 1 - x0) := by unfold boundF; rw [hx0, hx1, hz0, hz1]; rfl
  rw [hbd]
  simp (maxSteps := 2000000) only [go_sem, reduceIte, Nat.reduceEqDiff, Nat.reduceAdd, Nat.reduceLeDiff, Nat.reduceBEq, Nat.reduceMul, Int.reduceLT, Int.reduceLE, Int.reduceToNat, lk55, wnV, wnC, hx0, hx1, hz0, hz1]
  refine goE_loop (bad := []) (kp := kp55) (fun k : Nat => { slots := [(0, dys l), (2, ints t), (4, .c (.ptr 0 0)), (7, I (allM (gI t) l.length x0 z0 (z1 + 1 - z0) k)), (8, I ((x0 + k : Nat) : Int))], heap := [.cells [.d (.int .i64 (x0 : Int)), .d (.int .i64 (x1 : Int)), .d (.int .i64 (z0 : Int)), .d (.int .i64 (z1 : Int)), .d (.int .i64 w.f)]], marks := [] }) (fun k => k ≤ x1 + 1 - x0) (fun k => x1 + 1 - x0 - k) 0 mo (by kernel_rfl) ?_ (Nat.zero_le _) ?_
  · refine ent_weaken [] rfl rfl (Nat.zero_le _) rfl rfl ?_
    simp (maxSteps := 2000000) only [go_sem, reduceIte, Nat.reduceEqDiff, Nat.reduceLT, lk55, dys, ints, wnC, allM, MX, hx0, hx1, hz0, hz1, Nat.add_zero]
    all_goals first | exact .refl _ | exact ⟨.refl _, .refl _⟩ | exact ⟨.refl _, .refl _, .refl _⟩ | exact ⟨.refl _, _, rfl⟩ | exact ⟨_, rfl⟩ | exact ⟨.refl _, [], by simp⟩ | exact ⟨[], by simp⟩
  rintro k hk
  simp (maxSteps := 2000000) only [go_sem, reduceIte, Nat.reduceEqDiff, Nat.reduceAdd, Nat.reduceLeDiff, Nat.reduceBEq, Nat.reduceMul, Int.reduceLT, Int.reduceLE, Int.reduceToNat, lk55, dys, ints, wnC, hx0, hx1, hz0, hz1]
  by_cases hlt : k < x1 + 1 - x0
  · have hlt' : ((x0 + k : Nat) : Int) ≤ x1 := by omega
    simp (maxSteps := 2000000) only [go_sem, reduceIte, Nat.reduceEqDiff, Nat.reduceAdd, Nat.reduceLeDiff, Nat.reduceBEq, Nat.reduceMul, Int.reduceLT, Int.reduceLE, Int.reduceToNat, lk55, hlt', dys, ints, wnC, hx0, hx1, hz0, hz1]
    refine goE_loop (bad := []) (kp := kp55) (fun j : Nat => { slots := [(0, dys l), (2, ints t), (4, .c (.ptr 0 0)), (7, I (rowM (gI t) l.length (x0 + k) z0 (allM (gI t) l.length x0 z0 (z1 + 1 - z0) k) j)), (8, I ((x0 + k : Nat) : Int)), (9, I ((z0 + j : Nat) : Int))], heap := [.cells [.d (.int .i64 (x0 : Int)), .d (.int .i64 (x1 : Int)), .d (.int .i64 (z0 : Int)), .d (.int .i64 (z1 : Int)), .d (.int .i64 w.f)]], marks := [] }) (fun j => j ≤ z1 + 1 - z0) (fun j => z1 + 1 - z0 - j) 0 mo (by kernel_rfl) ?_ (Nat.zero_le _) ?_
    · refine ent_weaken [] rfl rfl (Nat.zero_le _) rfl rfl ?_
      simp (maxSteps := 2000000) only [go_sem, reduceIte, Nat.reduceEqDiff, Nat.reduceLT, lk55, dys, ints, wnC, rowM, hx0, hx1, hz0, hz1, Nat.add_zero]
      all_goals first | exact .refl _ | exact ⟨.refl _, .refl _⟩ | exact ⟨.refl _, .refl _, .refl _⟩ | exact ⟨.refl _, _, rfl⟩ | exact ⟨_, rfl⟩ | exact ⟨.refl _, [], by simp⟩ | exact ⟨[], by simp⟩
    rintro j hj
    simp (maxSteps := 2000000) only [go_sem, reduceIte, Nat.reduceEqDiff, Nat.reduceAdd, Nat.reduceLeDiff, Nat.reduceBEq, Nat.reduceMul, Int.reduceLT, Int.reduceLE, Int.reduceToNat, lk55, dys, ints, wnC, hx0, hx1, hz0, hz1]
    by_cases hlj : j < z1 + 1 - z0
    · have hlj' : ((z0 + j : Nat) : Int) ≤ z1 := by omega
      have hi := index60 l.length (x0 + k) (z0 + j) (by omega) (by omega) (by omega)
      have hcl : cix l.length (x0 + k) (z0 + j) < t.length := by rw [ht]; unfold cix; omega
      have hcl' : ((cix l.length (x0 + k) (z0 + j) : Nat) : Int) < t.length := by omega
      have g1 := gI_lt hcl
      have m1 : z1 + 1 - z0 - (j + 1) < z1 + 1 - z0 - j := by omega
      have w7 : wr .i64 (((z0 + j : Nat) : Int) + 1) = ((z0 + (j + 1) : Nat) : Int) := by rw [wr_in (by omega)]; omega
      simp (maxSteps := 2000000) only [go_sem, reduceIte, Nat.reduceEqDiff, Nat.reduceAdd, lk55, hlj']
      refine aops_pure' (hi) rfl rfl (by first | exact wk_refls _ | (repeat constructor)) ?_
      simp (maxSteps := 2000000) only [go_sem, reduceIte, Nat.reduceEqDiff, lk55, hcl', nn, g1, iD, w7]
      refine ⟨j + 1, hlj, m1, ?_⟩
      refine ent_weaken [] rfl rfl (Nat.zero_le _) rfl rfl ?_
      simp (maxSteps := 2000000) only [go_sem, reduceIte, Nat.reduceEqDiff, Nat.reduceLT, lk55, dys, ints, wnC, rowM, hx0, hx1, hz0, hz1]
      all_goals first | exact .refl _ | exact ⟨.refl _, .refl _⟩ | exact ⟨.refl _, .refl _, .refl _⟩ | exact ⟨.refl _, _, rfl⟩ | exact ⟨_, rfl⟩ | exact ⟨.refl _, [], by simp⟩ | exact ⟨[], by simp⟩
    · have hlj' : ¬ ((z0 + j : Nat) : Int) ≤ z1 := by omega
      have e : j = z1 + 1 - z0 := by omega
      have m1 : x1 + 1 - x0 - (k + 1) < x1 + 1 - x0 - k := by omega
      have w7 : wr .i64 (((x0 + k : Nat) : Int) + 1) = ((x0 + (k + 1) : Nat) : Int) := by rw [wr_in (by omega)]; omega
      simp (maxSteps := 2000000) only [go_sem, reduceIte, Nat.reduceEqDiff, Nat.reduceAdd, lk55, hlj', w7]
      refine ⟨k + 1, hlt, m1, ?_⟩
      rw [e]
      refine ent_weaken [] rfl rfl (Nat.zero_le _) rfl rfl ?_
      simp (maxSteps := 2000000) only [go_sem, reduceIte, Nat.reduceEqDiff, Nat.reduceLT, lk55, dys, ints, wnC, allM, hx0, hx1, hz0, hz1]
      all_goals first | exact .refl _ | exact ⟨.refl _, .refl _⟩ | exact ⟨.refl _, .refl _, .refl _⟩ | exact ⟨.refl _, _, rfl⟩ | exact ⟨_, rfl⟩ | exact ⟨.refl _, [], by simp⟩ | exact ⟨[], by simp⟩
  · have hlt' : ¬ ((x0 + k : Nat) : Int) ≤ x1 := by omega
    have e : k = x1 + 1 - x0 := by omega
    rw [e]
    rw [e] at hlt'
    simp (maxSteps := 2000000) only [go_sem, reduceIte, Nat.reduceEqDiff, Nat.reduceAdd, lk55, hlt']
end Go.Proofs.Ytkbnmanfoejoiaa
