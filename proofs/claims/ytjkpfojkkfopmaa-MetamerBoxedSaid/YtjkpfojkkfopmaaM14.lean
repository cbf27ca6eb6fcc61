/- Metamers: a truth by numbers, and the laws' helpers. -/
import Derived.Test.YtjkpfojkkfopmaaM13
set_option linter.unusedSimpArgs false
set_option linter.unusedVariables false
set_option maxRecDepth 100000
namespace Go.Proofs.Ytjkpfojkkfopmaa
open Go Go.Abs Go.Proofs
def kp42 : List (Nat × List Nat) := [(0, [1, 2, 3]), (1, [6])]
theorem lk42 : lookK kp42 0 = some [1, 2, 3] ∧ lookK kp42 1 = some [6] := ⟨rfl, rfl⟩
def kp43 : List (Nat × List Nat) := [(0, [1, 2, 4]), (1, [1, 2, 4, 5]), (2, [1, 2, 4, 5, 6]), (3, [1, 2, 4, 5, 6, 7]), (4, [1, 2, 4, 5, 6, 7, 15]), (5, [1, 2, 4, 5, 6, 7]), (6, [1, 2, 4, 5, 6, 7]), (7, [1, 2, 4, 5, 6, 7]), (8, [1, 2, 4, 5, 6, 8]), (9, [1, 2, 4, 5, 6, 8, 37]), (10, [1, 2, 4, 5, 6, 8]), (11, [1, 2, 4, 5, 6, 8, 9]), (12, [1, 2, 4, 5, 6, 8, 9, 10]), (13, [1, 2, 4, 5, 6, 8, 9, 10, 47]), (14, [1, 2, 4, 5, 6, 8, 9, 10]), (15, [1, 2, 4, 5, 6, 8, 9, 10]), (16, [1, 2, 4, 5, 6, 8, 9, 10]), (17, [1, 2, 4, 5, 6, 8]), (18, [4])]
theorem lk43 : lookK kp43 0 = some [1, 2, 4] ∧ lookK kp43 1 = some [1, 2, 4, 5] ∧ lookK kp43 2 = some [1, 2, 4, 5, 6] ∧ lookK kp43 3 = some [1, 2, 4, 5, 6, 7] ∧ lookK kp43 4 = some [1, 2, 4, 5, 6, 7, 15] ∧ lookK kp43 5 = some [1, 2, 4, 5, 6, 7] ∧ lookK kp43 6 = some [1, 2, 4, 5, 6, 7] ∧ lookK kp43 7 = some [1, 2, 4, 5, 6, 7] ∧ lookK kp43 8 = some [1, 2, 4, 5, 6, 8] ∧ lookK kp43 9 = some [1, 2, 4, 5, 6, 8, 37] ∧ lookK kp43 10 = some [1, 2, 4, 5, 6, 8] ∧ lookK kp43 11 = some [1, 2, 4, 5, 6, 8, 9] ∧ lookK kp43 12 = some [1, 2, 4, 5, 6, 8, 9, 10] ∧ lookK kp43 13 = some [1, 2, 4, 5, 6, 8, 9, 10, 47] ∧ lookK kp43 14 = some [1, 2, 4, 5, 6, 8, 9, 10] ∧ lookK kp43 15 = some [1, 2, 4, 5, 6, 8, 9, 10] ∧ lookK kp43 16 = some [1, 2, 4, 5, 6, 8, 9, 10] ∧ lookK kp43 17 = some [1, 2, 4, 5, 6, 8] ∧ lookK kp43 18 = some [4] := ⟨rfl, rfl, rfl, rfl, rfl, rfl, rfl, rfl, rfl, rfl, rfl, rfl, rfl, rfl, rfl, rfl, rfl, rfl, rfl⟩
def kp44 : List (Nat × List Nat) := [(0, [2, 3]), (1, [4])]
theorem lk44 : lookK kp44 0 = some [2, 3] ∧ lookK kp44 1 = some [4] := ⟨rfl, rfl⟩
def kp45 : List (Nat × List Nat) := [(0, [0, 1]), (1, [0, 1, 6]), (2, [0, 1, 6, 7]), (3, [0, 1, 6, 7, 8]), (4, [0, 1, 6, 7, 8, 23]), (5, [0, 1, 6, 7, 8]), (6, [0, 1, 6, 7, 8]), (7, [0, 1, 6, 7, 8]), (8, [4, 5])]
theorem lk45 : lookK kp45 0 = some [0, 1] ∧ lookK kp45 1 = some [0, 1, 6] ∧ lookK kp45 2 = some [0, 1, 6, 7] ∧ lookK kp45 3 = some [0, 1, 6, 7, 8] ∧ lookK kp45 4 = some [0, 1, 6, 7, 8, 23] ∧ lookK kp45 5 = some [0, 1, 6, 7, 8] ∧ lookK kp45 6 = some [0, 1, 6, 7, 8] ∧ lookK kp45 7 = some [0, 1, 6, 7, 8] ∧ lookK kp45 8 = some [4, 5] := ⟨rfl, rfl, rfl, rfl, rfl, rfl, rfl, rfl, rfl⟩
def kp47 : List (Nat × List Nat) := [(0, [1, 2, 3]), (1, [1, 2, 3, 9]), (2, [6]), (3, [6])]
theorem lk47 : lookK kp47 0 = some [1, 2, 3] ∧ lookK kp47 1 = some [1, 2, 3, 9] ∧ lookK kp47 2 = some [6] ∧ lookK kp47 3 = some [6] := ⟨rfl, rfl, rfl, rfl⟩

def hD (n : Int) : List D := [.int .u16 n]
def u16s (l : List Int) : V := .c (.d (.sl (l.map hD)))
/-- Numbers of 16 bits. -/
def B16 (l : List Int) : Prop := ∀ n ∈ l, 0 ≤ n ∧ n < 65536
/-- A number of a range, by numbers. -/
def pickV (r : Rg) (by' : List Int) (at' : Nat) : Int := if by'.length = 0 then r.lo else r.lo + gI by' (at' % by'.length) % (r.hi - r.lo + 1)
theorem pickV_in {r : Rg} (h : r.lo ≤ r.hi) (by' : List Int) (at' : Nat) : r.lo ≤ pickV r by' at' ∧ pickV r by' at' ≤ r.hi := by
  unfold pickV
  split
  · omega
  · have h1 := Int.emod_nonneg (gI by' (at' % by'.length)) (show r.hi - r.lo + 1 ≠ 0 by omega)
    have h2 := Int.emod_lt_of_pos (gI by' (at' % by'.length)) (show 0 < r.hi - r.lo + 1 by omega)
    omega
set_option maxHeartbeats 2000000 in
theorem pick47 (r : Rg) (by' : List Int) (at' : Nat) (hr : r.lo ≤ r.hi) (h0 : -1000000 ≤ r.lo) (h1 : r.hi ≤ 1000000) (hb : B16 by') (ha : at' ≤ 1000000) : Pure Try.prog 47 [rgV r, u16s by', I at'] (I (pickV r by' at')) := by
  refine pure_wkE (bad := []) (kp := kp47) (X := tx) (nt := 30) (rs := [.tmp 6]) Try.func47 rfl rfl rfl rfl mo (by kernel_rfl) rfl rfl (fun hf => ?_)
  have hfit := fit_sl (hf (u16s by') (by simp))
  rw [List.length_map] at hfit
  by_cases hl : by'.length = 0
  · have hl' : (by'.length : Int) = 0 := by omega
    have e : pickV r by' at' = r.lo := by simp only [pickV, if_pos hl]
    simp (maxSteps := 2000000) only [go_sem, reduceIte, Nat.reduceEqDiff, Nat.reduceAdd, Nat.reduceLeDiff, Nat.reduceBEq, lk42, lk43, lk44, lk45, lk47, rgV, rgC, u16s, hl', e]
  have hl' : ¬ (by'.length : Int) = 0 := by omega
  have e : pickV r by' at' = r.lo + gI by' (at' % by'.length) % (r.hi - r.lo + 1) := by simp only [pickV, if_neg hl]
  have hm : at' % by'.length < by'.length := Nat.mod_lt _ (by omega)
  have g1 := gI_lt hm
  have hv := hb _ (List.mem_of_getElem? g1)
  have t1 : ((at' : Int)).tmod (by'.length : Int) = ((at' % by'.length : Nat) : Int) := by rw [Int.tmod_eq_emod_of_nonneg (Int.natCast_nonneg _)]; rfl
  have c1 : ((at' % by'.length : Nat) : Int) < by'.length := by omega
  have w0 : wr .i64 (gI by' (at' % by'.length)) = gI by' (at' % by'.length) := wr_in (by omega)
  have w1 : wr .i64 (r.hi - r.lo) = r.hi - r.lo := wr_in (by omega)
  have w2 : wr .i64 (r.hi - r.lo + 1) = r.hi - r.lo + 1 := wr_in (by omega)
  have t2 : (gI by' (at' % by'.length)).tmod (r.hi - r.lo + 1) = gI by' (at' % by'.length) % (r.hi - r.lo + 1) := Int.tmod_eq_emod_of_nonneg hv.1
  have p1 := pickV_in hr by' at'
  rw [e] at p1
  have w3 : wr .i64 (gI by' (at' % by'.length) % (r.hi - r.lo + 1)) = gI by' (at' % by'.length) % (r.hi - r.lo + 1) := wr_in (by omega)
  have w4 : wr .i64 (r.lo + gI by' (at' % by'.length) % (r.hi - r.lo + 1)) = r.lo + gI by' (at' % by'.length) % (r.hi - r.lo + 1) := wr_in (by omega)
  have q1 : ¬ (r.hi - r.lo + 1 = 0) := by omega
  have w5 : wr .i64 ((at' % by'.length : Nat) : Int) = ((at' % by'.length : Nat) : Int) := by rw [wr_i64] <;> omega
  clear p1
  simp (maxSteps := 2000000) only [go_sem, reduceIte, Nat.reduceEqDiff, Nat.reduceAdd, Nat.reduceLeDiff, Nat.reduceBEq, lk42, lk43, lk44, lk45, lk47, rgV, rgC, u16s, hl', hD, t1, g1, c1, nn, w0, w1, w2, t2, w3, w4, q1, w5, e]
def insideB (a b : Rg) : Bool := decide (b.lo ≤ a.lo ∧ a.hi ≤ b.hi ∧ a.lo ≤ a.hi)
theorem inside44 (a b : Rg) : Pure Try.prog 44 [rgV a, rgV b] (B (insideB a b)) := by
  refine pure_wkE (bad := []) (kp := kp44) (X := tx) (nt := 24) (rs := [.tmp 4]) Try.func44 rfl rfl rfl rfl mo (by kernel_rfl) rfl rfl (fun hf => ?_)
  by_cases h1 : b.lo ≤ a.lo
  · by_cases h2 : a.hi ≤ b.hi
    · have e : insideB a b = decide (a.lo ≤ a.hi) := by simp [insideB, h1, h2]
      simp (maxSteps := 2000000) only [go_sem, reduceIte, Nat.reduceEqDiff, Nat.reduceAdd, Nat.reduceLeDiff, Nat.reduceBEq, lk42, lk43, lk44, lk45, lk47, rgV, rgC, h1, h2, e]
    · have e : insideB a b = false := by simp [insideB, h2]
      simp (maxSteps := 2000000) only [go_sem, reduceIte, Nat.reduceEqDiff, Nat.reduceAdd, Nat.reduceLeDiff, Nat.reduceBEq, lk42, lk43, lk44, lk45, lk47, rgV, rgC, h1, h2, e]
  · have e : insideB a b = false := by simp [insideB, h1]
    simp (maxSteps := 2000000) only [go_sem, reduceIte, Nat.reduceEqDiff, Nat.reduceAdd, Nat.reduceLeDiff, Nat.reduceBEq, lk42, lk43, lk44, lk45, lk47, rgV, rgC, h1, e]
def fineB (c : Cs) (a b : List Int) : Bool := !greatB c && (decide (a.length ≤ 20) && (decide (b.length ≤ 20) && decide (okChips c a b = 0)))
theorem fine42 (c : Cs) (a b : List Int) : Pure Try.prog 42 [csV c, ints a, ints b] (B (fineB c a b)) := by
  refine pure_wkE (bad := []) (kp := kp42) (X := tx) (nt := 27) (rs := [.tmp 6]) Try.func42 rfl rfl rfl rfl mo (by kernel_rfl) rfl rfl (fun hf => ?_)
  simp (maxSteps := 2000000) only [go_sem, reduceIte, Nat.reduceEqDiff, Nat.reduceAdd, lk42, lk43, lk44, lk45, lk47, csV, csC, ints]
  refine aops_pure' (great13 c) rfl rfl (by first | exact wk_refls _ | (repeat constructor)) ?_
  cases hg : greatB c with
  | true =>
    have e : fineB c a b = false := by simp [fineB, hg]
    simp (maxSteps := 2000000) only [go_sem, reduceIte, Nat.reduceEqDiff, lk42, lk43, lk44, lk45, lk47, e]
  | false =>
  by_cases h1 : a.length ≤ 20
  case neg =>
    have h1' : ¬ (a.length : Int) ≤ 20 := by omega
    have e : fineB c a b = false := by simp [fineB, hg, h1]
    simp (maxSteps := 2000000) only [go_sem, reduceIte, Nat.reduceEqDiff, lk42, lk43, lk44, lk45, lk47, h1', e]
  have h1' : (a.length : Int) ≤ 20 := by omega
  by_cases h2 : b.length ≤ 20
  case neg =>
    have h2' : ¬ (b.length : Int) ≤ 20 := by omega
    have e : fineB c a b = false := by simp [fineB, hg, h1, h2]
    simp (maxSteps := 2000000) only [go_sem, reduceIte, Nat.reduceEqDiff, lk42, lk43, lk44, lk45, lk47, h1', h2', e]
  have h2' : (b.length : Int) ≤ 20 := by omega
  have e : fineB c a b = decide (okChips c a b = 0) := by simp [fineB, hg, h1, h2]
  simp (maxSteps := 2000000) only [go_sem, reduceIte, Nat.reduceEqDiff, Nat.reduceAdd, lk42, lk43, lk44, lk45, lk47, h1', h2', csC]
  refine aops_pure' (chips58 c a b) rfl rfl (by first | exact wk_refls _ | (repeat constructor)) ?_
  simp (maxSteps := 2000000) only [go_sem, reduceIte, Nat.reduceEqDiff, lk42, lk43, lk44, lk45, lk47, e]

/-- The sum of two chips. -/
def sumsL (a b : List Int) (n : Nat) : List Int := (List.range n).map (fun k => gI a k + gI b k)
def bothL (a b : List Int) : List Int := sumsL a b (min a.length b.length)
def bothOk (a b : List Int) : Bool := decide (a.length = b.length) && (bothL a b).all (fun x => decide (x ≤ 1000))
theorem sumsL_succ (a b : List Int) (n : Nat) : sumsL a b (n + 1) = sumsL a b n ++ [gI a n + gI b n] := range_succ_map _ _
theorem sumsL_len (a b : List Int) (n : Nat) : (sumsL a b n).length = n := by simp [sumsL]
def Mild (l : List Int) : Prop := l.length ≤ 4096 ∧ ∀ x ∈ l, -90000000 ≤ x ∧ x ≤ 90000000
set_option maxHeartbeats 4000000 in
theorem both45 (a b : List Int) (ha : Mild a) (hb : Mild b) : Pure Try.prog 45 [ints a, ints b] (.tup [ints (bothL a b), B (bothOk a b)]) := by
  refine pure_wkE (bad := []) (kp := kp45) (X := tx) (nt := 53) (rs := [.tmp 4, .tmp 5]) Try.func45 rfl rfl rfl rfl mo (by kernel_rfl) rfl rfl (fun hf => ?_)
  have la := ha.1
  have lb := hb.1
  have edc : decide ((a.length : Int) = b.length) = decide (a.length = b.length) := by rw [decide_eq_decide]; omega
  simp (maxSteps := 2000000) only [go_sem, reduceIte, Nat.reduceEqDiff, Nat.reduceAdd, lk42, lk43, lk44, lk45, lk47, ints, edc]
  refine goE_loop (bad := []) (kp := kp45) (fun i : Nat => { slots := [(0, ints a), (1, ints b), (6, .c (.own 0 ((sumsL a b i).map iD))), (7, B (decide (a.length = b.length) && (sumsL a b i).all (fun x => decide (x ≤ 1000)))), (8, I i)], heap := [.grow i 1], marks := [] }) (fun i => i ≤ min a.length b.length) (fun i => min a.length b.length - i) 0 mo (by kernel_rfl) ?_ (Nat.zero_le _) ?_
  · refine Ent.trans (ent_own 6 1 rfl) ?_
    refine ent_weaken [] rfl rfl (Nat.zero_le _) rfl rfl ?_
    simp (maxSteps := 2000000) only [go_sem, reduceIte, Nat.reduceEqDiff, Nat.reduceLT, lk42, lk43, lk44, lk45, lk47, ints, sumsL, List.range_zero, List.map_nil, List.all_nil, Bool.and_true]
    all_goals first | exact .refl _ | exact ⟨.refl _, .refl _⟩ | exact ⟨.refl _, .refl _, .refl _⟩ | exact ⟨.refl _, _, rfl⟩ | exact ⟨_, rfl⟩ | exact ⟨.refl _, [], by simp⟩ | exact ⟨[], by simp⟩
  rintro i hi
  simp (maxSteps := 2000000) only [go_sem, reduceIte, Nat.reduceEqDiff, Nat.reduceAdd, lk42, lk43, lk44, lk45, lk47, ints]
  by_cases hlt : i < min a.length b.length
  · have ia : i < a.length := by omega
    have ib : i < b.length := by omega
    have ia' : (i : Int) < a.length := by omega
    have ib' : (i : Int) < b.length := by omega
    have g1 := gI_lt ia
    have g2 := gI_lt ib
    have b1 := ha.2 _ (List.mem_of_getElem? g1)
    have b2 := hb.2 _ (List.mem_of_getElem? g2)
    have m1 : min a.length b.length - (i + 1) < min a.length b.length - i := by omega
    have hq := own_ok (m := i) (by omega)
    have w3 : wr .i64 ((i : Int) + 1) = ((i + 1 : Nat) : Int) := wr_succ ia (by omega)
    have w1 : wr .i64 (gI a i + gI b i) = gI a i + gI b i := wr_in (by omega)
    have e1 := sumsL_succ a b i
    have hall : ((sumsL a b i).map iD).all (fun r => r.length == 1) = true := by simp [iD]
    clear b1 b2
    cases hg : (decide (a.length = b.length) && (sumsL a b i).all (fun x => decide (x ≤ 1000))) with
    | true =>
      simp (maxSteps := 2000000) only [go_sem, reduceIte, Nat.reduceEqDiff, Nat.reduceAdd, Nat.reduceLT, Nat.reduceLeDiff, Nat.reduceBEq, Nat.reduceMul, lk42, lk43, lk44, lk45, lk47, ia', ib', g1, g2, iD, nn, w1, w3, sumsL_len]
      refine ⟨by simpa [iD] using hq, i + 1, by omega, m1, ?_⟩
      refine ent_weaken [] rfl rfl (Nat.zero_le _) rfl rfl ?_
      rw [e1, List.all_append, ← Bool.and_assoc, hg]
      simp (maxSteps := 2000000) only [go_sem, reduceIte, Nat.reduceEqDiff, Nat.reduceLT, lk42, lk43, lk44, lk45, lk47, ints, List.map_append, List.map_cons, List.map_nil, iD, List.all_cons, List.all_nil, Bool.and_true, Bool.true_and]
      all_goals first | exact .refl _ | exact ⟨.refl _, .refl _⟩ | exact ⟨.refl _, .refl _, .refl _⟩ | exact ⟨.refl _, _, rfl⟩ | exact ⟨_, rfl⟩ | exact ⟨.refl _, [], by simp⟩ | exact ⟨[], by simp⟩
    | false =>
      simp (maxSteps := 2000000) only [go_sem, reduceIte, Nat.reduceEqDiff, Nat.reduceAdd, Nat.reduceLT, Nat.reduceLeDiff, Nat.reduceBEq, Nat.reduceMul, lk42, lk43, lk44, lk45, lk47, ia', ib', g1, g2, iD, nn, w1, w3, sumsL_len]
      refine ⟨by simpa [iD] using hq, i + 1, by omega, m1, ?_⟩
      refine ent_weaken [] rfl rfl (Nat.zero_le _) rfl rfl ?_
      rw [e1, List.all_append, ← Bool.and_assoc, hg]
      simp (maxSteps := 2000000) only [go_sem, reduceIte, Nat.reduceEqDiff, Nat.reduceLT, lk42, lk43, lk44, lk45, lk47, ints, List.map_append, List.map_cons, List.map_nil, iD, Bool.false_and]
      all_goals first | exact .refl _ | exact ⟨.refl _, .refl _⟩ | exact ⟨.refl _, .refl _, .refl _⟩ | exact ⟨.refl _, _, rfl⟩ | exact ⟨_, rfl⟩ | exact ⟨.refl _, [], by simp⟩ | exact ⟨[], by simp⟩
  · have e : i = min a.length b.length := by omega
    subst e
    have e1 : (decide (a.length = b.length) && (sumsL a b (min a.length b.length)).all (fun x => decide (x ≤ 1000))) = bothOk a b := rfl
    have e2 : sumsL a b (min a.length b.length) = bothL a b := rfl
    rw [e1, e2]
    by_cases ia : min a.length b.length < a.length
    · have ia' : ((min a.length b.length : Nat) : Int) < a.length := by omega
      have ib' : ¬ ((min a.length b.length : Nat) : Int) < b.length := by omega
      simp (maxSteps := 2000000) only [go_sem, reduceIte, Nat.reduceEqDiff, Nat.reduceAdd, lk42, lk43, lk44, lk45, lk47, ia', ib', ints]
      all_goals first | exact .refl _ | exact ⟨.refl _, .refl _⟩ | exact ⟨.refl _, .refl _, .refl _⟩ | exact ⟨.refl _, _, rfl⟩ | exact ⟨_, rfl⟩ | exact ⟨.refl _, [], by simp⟩ | exact ⟨[], by simp⟩
    · have ia' : ¬ ((min a.length b.length : Nat) : Int) < a.length := by omega
      simp (maxSteps := 2000000) only [go_sem, reduceIte, Nat.reduceEqDiff, Nat.reduceAdd, lk42, lk43, lk44, lk45, lk47, ia', ints]
      all_goals first | exact .refl _ | exact ⟨.refl _, .refl _⟩ | exact ⟨.refl _, .refl _, .refl _⟩ | exact ⟨.refl _, _, rfl⟩ | exact ⟨_, rfl⟩ | exact ⟨.refl _, [], by simp⟩ | exact ⟨[], by simp⟩

/-- A truth of a case, by numbers. -/
def trueR (c : Cs) (by' : List Int) (i b : Nat) : Int := pickV (c.e i b) by' (c.lamp.length + i * c.lamp.length + b)
def trueN (c : Cs) (by' : List Int) (i n : Nat) : List Int := (List.range n).map (trueR c by' i)
def trueL (c : Cs) (by' : List Int) (n : Nat) : List Int := (List.range n).map (fun b => pickV (c.l b) by' b)
def trueT (c : Cs) (by' : List Int) : Tr := ⟨(List.range 3).map (fun i => trueN c by' i c.lamp.length), trueL c by' c.lamp.length⟩
theorem trueL_succ (c : Cs) (by' : List Int) (n : Nat) : trueL c by' (n + 1) = trueL c by' n ++ [pickV (c.l n) by' n] := range_succ_map _ _
theorem trueN_succ (c : Cs) (by' : List Int) (i n : Nat) : trueN c by' i (n + 1) = trueN c by' i n ++ [trueR c by' i n] := range_succ_map _ _
theorem trueL_len (c : Cs) (by' : List Int) (n : Nat) : (trueL c by' n).length = n := by simp [trueL]
theorem trueN_len (c : Cs) (by' : List Int) (i n : Nat) : (trueN c by' i n).length = n := by simp [trueN]
def trueE (c : Cs) (by' : List Int) (n : Nat) : List (List D) := (List.range n).map (fun i => rowI (trueN c by' i c.lamp.length))
theorem trueE_succ (c : Cs) (by' : List Int) (n : Nat) : trueE c by' (n + 1) = trueE c by' n ++ [rowI (trueN c by' n c.lamp.length)] := range_succ_map _ _
theorem trueE_len (c : Cs) (by' : List Int) (n : Nat) : (trueE c by' n).length = n := by simp [trueE]
theorem at_le {n i b : Nat} (hn : n ≤ 8) (hi : i < 3) (hb : b < n) : n + i * n + b ≤ 1000000 := by
  have h1 : i * n ≤ 3 * 8 := Nat.mul_le_mul (by omega) hn
  omega
theorem at_succ {n i b : Nat} (hn : n ≤ 8) (hi : i < 3) (hb : b < n) : wr .i64 (((n + i * n + b : Nat) : Int) + 1) = ((n + i * n + (b + 1) : Nat) : Int) := by
  have h1 := at_le hn hi hb
  generalize i * n = m at h1
  rw [wr_i64] <;> omega
theorem own_ok3 {m : Nat} (h : m ≤ 4096) : (decide ((m + 1 + (m + 1) / 4 + 256) * 24 ≤ 281474976710656) && decide (m ≤ 140737488355327)) = true := by
  simp; omega
theorem trueE_one (c : Cs) (by' : List Int) (i : Nat) : (trueE c by' i).all (fun r => r.length == 1) = true := by simp [trueE, rowI]
def slT (by' : List Int) (at' : Nat) : List (Nat × V) := [(1, u16s by'), (2, .c (.ptr 0 0)), (4, .c (.ptr 1 0)), (5, .c (.ptr 2 0)), (6, I at')]
set_option maxHeartbeats 8000000 in
theorem true43 (c : Cs) (by' : List Int) (hc : OkC c) (hb : B16 by') : Pure Try.prog 43 [csV c, u16s by'] (trV (trueT c by')) := by
  refine pure_wkE (bad := []) (kp := kp43) (X := tx) (nt := 73) (rs := [.cell 4 29]) Try.func43 rfl rfl rfl rfl mo (by kernel_rfl) rfl rfl (fun hf => ?_)
  have h8 := hc.n8
  have he3 := hc.e3
  have he3' : (c.eye.length : Int) = 3 := by omega
  simp (maxSteps := 2000000) only [go_sem, reduceIte, Nat.reduceEqDiff, Nat.reduceAdd, lk42, lk43, lk44, lk45, lk47, csV, csC, u16s]
  refine goE_loop (bad := []) (kp := kp43) (fun b : Nat => { slots := [(1, u16s by'), (2, .c (.ptr 0 0)), (4, .c (.ptr 1 0)), (5, .c (.ptr 2 0)), (6, I b), (7, I b)], heap := [.cells (csC c), .cells [.full [], .full []], .cells [.own 4 [], .own 3 ((trueL c by' b).map iD)], .grow b 1, .grow 0 1], marks := [] }) (fun b => b ≤ c.lamp.length) (fun b => c.lamp.length - b) 0 mo (by kernel_rfl) ?_ (Nat.zero_le _) ?_
  · refine Ent.trans (ent_own_cell 2 1 1 rfl rfl) ?_
    refine Ent.trans (ent_own_cell 2 0 1 rfl rfl) ?_
    refine ent_weaken [] rfl rfl (Nat.zero_le _) rfl rfl ?_
    simp (maxSteps := 2000000) only [go_sem, reduceIte, Nat.reduceEqDiff, Nat.reduceAdd, Nat.reduceLT, lk42, lk43, lk44, lk45, lk47, u16s, csC]
    all_goals first | exact .refl _ | exact ⟨.refl _, .refl _⟩ | exact ⟨.refl _, .refl _, .refl _⟩ | exact ⟨.refl _, _, rfl⟩ | exact ⟨_, rfl⟩ | exact ⟨.refl _, [], by simp⟩ | exact ⟨[], by simp⟩
  rintro b hb1
  simp (maxSteps := 2000000) only [go_sem, reduceIte, Nat.reduceEqDiff, Nat.reduceAdd, Nat.reduceBEq, lk42, lk43, lk44, lk45, lk47, u16s, csC]
  by_cases hlt : b < c.lamp.length
  · have hlt' : (b : Int) < c.lamp.length := by omega
    have m1 : c.lamp.length - (b + 1) < c.lamp.length - b := by omega
    have g1 := Cs.l_lt hlt
    have q1 := hc.bl b
    have hq := own_ok (m := b) (by omega)
    have w3 : wr .i64 ((b : Int) + 1) = ((b + 1 : Nat) : Int) := wr_succ hlt (by omega)
    have hp := pick47 (c.l b) by' b (by omega) (by omega) (by omega) hb (by omega)
    have hall : ((trueL c by' b).map iD).all (fun r => r.length == 1) = true := by simp [iD]
    simp (maxSteps := 2000000) only [go_sem, reduceIte, Nat.reduceEqDiff, Nat.reduceAdd, Nat.reduceBEq, lk42, lk43, lk44, lk45, lk47, hlt', g1, rgD, nn]
    refine dops_pure' (hp) rfl rfl (by first | exact wk_refls _ | (repeat constructor)) (by kernel_rfl) ?_
    simp (maxSteps := 2000000) only [go_sem, reduceIte, Nat.reduceEqDiff, Nat.reduceAdd, Nat.reduceLT, Nat.reduceLeDiff, Nat.reduceBEq, Nat.reduceMul, lk42, lk43, lk44, lk45, lk47, trueL_len, w3]
    refine ⟨by simpa [iD] using hq, b + 1, hlt, m1, ?_⟩
    refine ent_weaken [] (by rw [trueL_succ, List.map_append]; rfl) rfl (Nat.zero_le _) rfl rfl ?_
    simp (maxSteps := 2000000) only [go_sem, reduceIte, Nat.reduceEqDiff, Nat.reduceAdd, Nat.reduceLT, lk42, lk43, lk44, lk45, lk47, u16s, csC]
    all_goals first | exact .refl _ | exact ⟨.refl _, .refl _⟩ | exact ⟨.refl _, .refl _, .refl _⟩ | exact ⟨.refl _, _, rfl⟩ | exact ⟨_, rfl⟩ | exact ⟨.refl _, [], by simp⟩ | exact ⟨[], by simp⟩
  have hlt' : ¬ (b : Int) < c.lamp.length := by omega
  have e : b = c.lamp.length := by omega
  subst e
  simp (maxSteps := 2000000) only [go_sem, reduceIte, Nat.reduceEqDiff, Nat.reduceAdd, lk42, lk43, lk44, lk45, lk47, hlt']
  refine goE_loop (bad := []) (kp := kp43) (fun i : Nat => { slots := [(1, u16s by'), (2, .c (.ptr 0 0)), (4, .c (.ptr 1 0)), (5, .c (.ptr 2 0)), (6, I ((c.lamp.length + i * c.lamp.length : Nat) : Int)), (8, I i)], heap := [.cells (csC c), .cells [.full [], .full []], .cells [.own 4 (trueE c by' i), .own 3 ((trueL c by' c.lamp.length).map iD)], .grow c.lamp.length 1, .grow i 1], marks := [] }) (fun i => i ≤ 3) (fun i => 3 - i) 0 mo (by kernel_rfl) ?_ (Nat.zero_le _) ?_
  · refine ent_weaken [] rfl rfl (Nat.zero_le _) rfl rfl ?_
    simp (maxSteps := 2000000) only [go_sem, reduceIte, Nat.reduceEqDiff, Nat.reduceAdd, Nat.reduceLT, lk42, lk43, lk44, lk45, lk47, u16s, csC, Nat.zero_mul, Nat.add_zero]
    all_goals first | exact .refl _ | exact ⟨.refl _, .refl _⟩ | exact ⟨.refl _, .refl _, .refl _⟩ | exact ⟨.refl _, _, rfl⟩ | exact ⟨_, rfl⟩ | exact ⟨.refl _, [], by simp⟩ | exact ⟨[], by simp⟩
  rintro i hi
  simp (maxSteps := 2000000) only [go_sem, reduceIte, Nat.reduceEqDiff, Nat.reduceAdd, Nat.reduceLeDiff, Nat.reduceBEq, lk42, lk43, lk44, lk45, lk47, u16s, csC]
  by_cases hlt2 : i < 3
  case neg =>
    have hlt2' : ¬ (i : Int) < 3 := by omega
    have e : i = 3 := by omega
    subst e
    have he : trueE c by' 3 = (trueT c by').eye.map rowI := by simp [trueE, trueT]
    simp (maxSteps := 2000000) only [go_sem, reduceIte, Nat.reduceEqDiff, Nat.reduceAdd, Nat.reduceSub, lk42, lk43, lk44, lk45, lk47, hlt2', he3', trV, trC, he]
    exact .own _ _
  have hlt2' : (i : Int) < 3 := by omega
  obtain ⟨row, hr, hrl⟩ := hc.row hlt2
  have hrl' : (row.length : Int) = c.lamp.length := by omega
  have k1 : (i : Int) < c.eye.length := by omega
  have m2 : 3 - (i + 1) < 3 - i := by omega
  have w4 : wr .i64 ((i : Int) + 1) = ((i + 1 : Nat) : Int) := by rw [wr_i64] <;> omega
  simp (maxSteps := 2000000) only [go_sem, reduceIte, Nat.reduceEqDiff, Nat.reduceAdd, lk42, lk43, lk44, lk45, lk47, hlt2', he3']
  refine goE_loop (bad := []) (kp := kp43) (fun b : Nat => { slots := [(1, u16s by'), (2, .c (.ptr 0 0)), (4, .c (.ptr 1 0)), (5, .c (.ptr 2 0)), (6, I ((c.lamp.length + i * c.lamp.length + b : Nat) : Int)), (8, I i), (9, .c (.own 5 ((trueN c by' i b).map iD))), (10, I b)], heap := [.cells (csC c), .cells [.full [], .full []], .cells [.own 4 (trueE c by' i), .own 3 ((trueL c by' c.lamp.length).map iD)], .grow c.lamp.length 1, .grow i 1, .grow b 1], marks := [] }) (fun b => b ≤ c.lamp.length) (fun b => c.lamp.length - b) 0 mo (by kernel_rfl) ?_ (Nat.zero_le _) ?_
  · refine Ent.trans (ent_own 9 1 rfl) ?_
    refine ent_weaken [] rfl rfl (Nat.zero_le _) rfl rfl ?_
    simp (maxSteps := 2000000) only [go_sem, reduceIte, Nat.reduceEqDiff, Nat.reduceAdd, Nat.reduceLT, lk42, lk43, lk44, lk45, lk47, u16s, csC, Nat.add_zero]
    all_goals first | exact .refl _ | exact ⟨.refl _, .refl _⟩ | exact ⟨.refl _, .refl _, .refl _⟩ | exact ⟨.refl _, _, rfl⟩ | exact ⟨_, rfl⟩ | exact ⟨.refl _, [], by simp⟩ | exact ⟨[], by simp⟩
  rintro b hb2
  simp (maxSteps := 2000000) only [go_sem, reduceIte, Nat.reduceEqDiff, Nat.reduceAdd, Nat.reduceLeDiff, Nat.reduceBEq, lk42, lk43, lk44, lk45, lk47, u16s, csC]
  by_cases hltb : b < c.lamp.length
  · have hltb' : (b : Int) < c.lamp.length := by omega
    have m3 : c.lamp.length - (b + 1) < c.lamp.length - b := by omega
    have g2 := Cs.e_at hr (b := b) (by omega)
    have q1 := hc.be i b
    have hq := own_ok (m := b) (by omega)
    have w5 : wr .i64 ((b : Int) + 1) = ((b + 1 : Nat) : Int) := wr_succ hltb (by omega)
    have w6 := at_succ h8 hlt2 hltb
    have hp := pick47 (c.e i b) by' (c.lamp.length + i * c.lamp.length + b) q1.2.1 (by omega) (by omega) hb (at_le h8 hlt2 hltb)
    have hall : ((trueN c by' i b).map iD).all (fun r => r.length == 1) = true := by simp [iD]
    simp (maxSteps := 2000000) only [go_sem, reduceIte, Nat.reduceEqDiff, Nat.reduceAdd, Nat.reduceLeDiff, Nat.reduceBEq, lk42, lk43, lk44, lk45, lk47, hr, rowR, rgD, nn, k1, hrl', hltb', g2]
    refine aops_pure' (hp) rfl rfl (by first | exact wk_refls _ | (repeat constructor)) ?_
    simp (maxSteps := 2000000) only [go_sem, reduceIte, Nat.reduceEqDiff, Nat.reduceLT, Nat.reduceLeDiff, Nat.reduceBEq, Nat.reduceMul, lk42, lk43, lk44, lk45, lk47, trueN_len, w5, w6]
    refine ⟨by simpa [iD] using hq, b + 1, hltb, m3, ?_⟩
    refine ent_weaken [] rfl rfl (Nat.zero_le _) rfl rfl ?_
    simp (maxSteps := 2000000) only [go_sem, reduceIte, Nat.reduceEqDiff, Nat.reduceAdd, Nat.reduceLT, lk42, lk43, lk44, lk45, lk47, u16s, csC, trueN_succ, List.map_append, List.map_cons, List.map_nil, iD]
    all_goals first | exact .refl _ | exact ⟨.refl _, .refl _⟩ | exact ⟨.refl _, .refl _, .refl _⟩ | exact ⟨.refl _, _, rfl⟩ | exact ⟨_, rfl⟩ | exact ⟨.refl _, [], by simp⟩ | exact ⟨[], by simp⟩
  · have hltb' : ¬ (b : Int) < c.lamp.length := by omega
    have e : b = c.lamp.length := by omega
    subst e
    have hq3 := own_ok3 (m := i) (by omega)
    simp (maxSteps := 2000000) only [go_sem, reduceIte, Nat.reduceEqDiff, Nat.reduceAdd, Nat.reduceLT, Nat.reduceLeDiff, Nat.reduceBEq, Nat.reduceMul, lk42, lk43, lk44, lk45, lk47, hr, rowR, nn, k1, hrl', hltb', w4, trueE_len, trueE_one]
    refine ⟨by simpa using hq3, i + 1, hlt2, m2, ?_⟩
    refine ent_weaken [.grow c.lamp.length 1] (by rw [trueE_succ]; rfl) rfl (Nat.zero_le _) rfl rfl ?_
    simp (maxSteps := 2000000) only [go_sem, reduceIte, Nat.reduceEqDiff, Nat.reduceAdd, Nat.reduceLT, lk42, lk43, lk44, lk45, lk47, u16s, csC, Nat.succ_mul]
    rw [Nat.add_assoc]
    exact .refl _
end Go.Proofs.Ytjkpfojkkfopmaa
