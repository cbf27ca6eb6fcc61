/- Metamers: where two chips part. -/
import Derived.Test.YtjkpfojkkfopmaaM8
set_option linter.unusedSimpArgs false
set_option linter.unusedVariables false
set_option maxRecDepth 100000
namespace Go.Proofs.Ytjkpfojkkfopmaa
open Go Go.Abs Go.Proofs
def kp90 : List (Nat × List Nat) := [(0, [0, 2, 7, 8, 9]), (1, [0, 2, 7, 8, 9, 10]), (2, [0, 2, 4, 5, 7, 8, 9]), (3, [0, 2, 4, 5, 7, 8, 9, 14]), (4, [0, 2, 4, 5, 7, 8, 9, 14, 15]), (5, [0, 2, 4, 5, 6, 7, 8, 9, 14]), (6, [0, 2, 4, 5, 7, 8, 9, 14, 36]), (7, [0, 2, 4, 5, 7, 8, 9, 14]), (8, [0, 2, 7, 8, 9])]
theorem lk90 : lookK kp90 0 = some [0, 2, 7, 8, 9] ∧ lookK kp90 1 = some [0, 2, 7, 8, 9, 10] ∧ lookK kp90 2 = some [0, 2, 4, 5, 7, 8, 9] ∧ lookK kp90 3 = some [0, 2, 4, 5, 7, 8, 9, 14] ∧ lookK kp90 4 = some [0, 2, 4, 5, 7, 8, 9, 14, 15] ∧ lookK kp90 5 = some [0, 2, 4, 5, 6, 7, 8, 9, 14] ∧ lookK kp90 6 = some [0, 2, 4, 5, 7, 8, 9, 14, 36] ∧ lookK kp90 7 = some [0, 2, 4, 5, 7, 8, 9, 14] ∧ lookK kp90 8 = some [0, 2, 7, 8, 9] := ⟨rfl, rfl, rfl, rfl, rfl, rfl, rfl, rfl, rfl⟩
def kp85 : List (Nat × List Nat) := [(0, [2, 3]), (1, [4])]
theorem lk85 : lookK kp85 0 = some [2, 3] ∧ lookK kp85 1 = some [4] := ⟨rfl, rfl⟩
def kp66 : List (Nat × List Nat) := [(0, [1, 2, 4, 8, 9, 23, 24, 25, 26, 27]), (1, [1, 2, 4, 6, 8, 9, 23, 24, 25, 26, 27]), (2, [1, 2, 4, 6, 8, 9, 17, 23, 24, 25, 26, 27]), (3, [4, 5]), (4, [1, 2, 4, 6, 7, 8, 9, 23, 24, 25, 26, 27]), (5, [4, 6, 7, 8, 9, 22, 23, 24, 25, 26, 27]), (6, [4, 6, 7, 8, 24]), (7, [4, 6, 7, 8, 9]), (8, [4, 6, 7]), (9, [4, 5])]
theorem lk66 : lookK kp66 0 = some [1, 2, 4, 8, 9, 23, 24, 25, 26, 27] ∧ lookK kp66 1 = some [1, 2, 4, 6, 8, 9, 23, 24, 25, 26, 27] ∧ lookK kp66 2 = some [1, 2, 4, 6, 8, 9, 17, 23, 24, 25, 26, 27] ∧ lookK kp66 3 = some [4, 5] ∧ lookK kp66 4 = some [1, 2, 4, 6, 7, 8, 9, 23, 24, 25, 26, 27] ∧ lookK kp66 5 = some [4, 6, 7, 8, 9, 22, 23, 24, 25, 26, 27] ∧ lookK kp66 6 = some [4, 6, 7, 8, 24] ∧ lookK kp66 7 = some [4, 6, 7, 8, 9] ∧ lookK kp66 8 = some [4, 6, 7] ∧ lookK kp66 9 = some [4, 5] := ⟨rfl, rfl, rfl, rfl, rfl, rfl, rfl, rfl, rfl, rfl⟩
def kp27 : List (Nat × List Nat) := [(0, [1, 2, 3]), (1, [1, 2, 7, 8]), (2, [1, 2, 7, 8, 20]), (3, [6]), (4, [10]), (5, [30]), (6, [6]), (7, [6])]
theorem lk27 : lookK kp27 0 = some [1, 2, 3] ∧ lookK kp27 1 = some [1, 2, 7, 8] ∧ lookK kp27 2 = some [1, 2, 7, 8, 20] ∧ lookK kp27 3 = some [6] ∧ lookK kp27 4 = some [10] ∧ lookK kp27 5 = some [30] ∧ lookK kp27 6 = some [6] ∧ lookK kp27 7 = some [6] := ⟨rfl, rfl, rfl, rfl, rfl, rfl, rfl, rfl⟩

/-- The first number for which something holds. -/
def firstB (f : Nat → Bool) : Nat → Option Nat
  | 0 => none
  | n + 1 => match firstB f n with
    | some k => some k
    | none => if f n then some n else none
theorem firstB_none {f : Nat → Bool} : ∀ {n : Nat}, (∀ j, j < n → f j = false) → firstB f n = none
  | 0, _ => rfl
  | n + 1, h => by rw [firstB, firstB_none (fun j hj => h j (by omega)), h n (by omega)]; rfl
theorem firstB_some {f : Nat → Bool} {k : Nat} (h : ∀ j, j < k → f j = false) (hk : f k = true) : ∀ {n : Nat}, k < n → firstB f n = some k
  | 0, hn => by omega
  | n + 1, hn => by
    by_cases e : k = n
    · subst e; rw [firstB, firstB_none h, hk]; rfl
    · rw [firstB, firstB_some h hk (by omega)]
theorem firstB_spec {f : Nat → Bool} : ∀ {n k : Nat}, firstB f n = some k → k < n ∧ f k = true
  | n + 1, k, h => by
    rw [firstB] at h
    cases hf : firstB f n with
    | some k' =>
      rw [hf] at h; cases h
      have := firstB_spec hf; exact ⟨by omega, this.2⟩
    | none =>
      rw [hf] at h
      by_cases hn : f n = true
      · rw [if_pos hn] at h; cases h; exact ⟨by omega, hn⟩
      · rw [if_neg hn] at h; cases h
theorem firstB_all {f : Nat → Bool} : ∀ {n : Nat}, firstB f n = none → ∀ j, j < n → f j = false
  | n + 1, h, j, hj => by
    rw [firstB] at h
    cases hf : firstB f n with
    | some k' => rw [hf] at h; cases h
    | none =>
      rw [hf] at h
      by_cases hn : f n = true
      · rw [if_pos hn] at h; cases h
      · by_cases e : j = n
        · subst e; simpa using hn
        · exact firstB_all hf j (by omega)

/-- A place at which a spectrum is seen, and the product is not known. -/
def opn (c : Cs) (l : List Int) (t : Nat) : Bool := decide (¬ gI l (t / 3) = 0) && decide (¬ pL c (t % 3) (t / 3) = pH c (t % 3) (t / 3))
def fo (c : Cs) (l : List Int) : Option Nat := firstB (opn c l) (3 * l.length)
theorem opn_at (c : Cs) (l : List Int) {i b : Nat} (hi : i < 3) : opn c l (3 * b + i) = (decide (¬ gI l b = 0) && decide (¬ pL c i b = pH c i b)) := by
  have h1 : (3 * b + i) / 3 = b := by omega
  have h2 : (3 * b + i) % 3 = i := by omega
  rw [opn, h1, h2]
def plC (i b : Int) : List C := [.d (.int .i64 i), .d (.int .i64 b)]
def slP : List (Nat × V) := [(4, .c (.ptr 1 0)), (6, .c (.ptr 2 0)), (7, .c (.ptr 3 0)), (22, .c (.fn (.func 90) [.ptr 5 0, .ptr 4 0]))]
structure RP where
  A : Code
  Bd : Code
def HP (r : RP) (c : Cs) (l : List Int) (i b : Int) (sta : LoopState) (pe : Option Code) : List AB :=
  [.cells (csC c), .cells (plC 0 0), .cells (plC (-1) (-1)), .cells (plC i b), .cells (csC c), .cells [.d (.sl (l.map iD))], .df,
   .lp { state := sta, pend := pe, slots := slP, nt := 32, ps := #[23, 24], assign := r.A, body := r.Bd, D := 6 }]
theorem HP_low (r : RP) (c : Cs) (l : List Int) (i b : Int) (sta : LoopState) (pe : Option Code) : (HP r c l i b sta pe).all (AB.low 8) = true := rfl
def HE (r : RP) (c : Cs) (l : List Int) : List AB := match fo c l with
  | none => HP r c l (-1) (-1) .ready none
  | some t => HP r c l ((t % 3 : Nat) : Int) ((t / 3 : Nat) : Int) .done (some (.exit 0))

set_option maxHeartbeats 4000000 in
theorem open90 (r : RP) (c : Cs) (l : List Int) (hc : OkC c) (hl : Spec l) (hn : l.length = c.lamp.length)
    (hY : ∀ i b : Nat, i < 3 → b < l.length → YCs Try.prog 7 (HP r c l (-1) (-1) .ready none) [I i, I b] (one (B false) (HP r c l i b .done (some (.exit 0))))) :
    ACall Try.prog 90 [.c (.yd 7), .c (.ptr 5 0), .c (.ptr 4 0)] (HP r c l (-1) (-1) .ready none) (fun _ H2 => H2 = HE r c l) := by
  refine acall_fitE (bad := [20006]) (kp := kp90) (X := tx) (nt := 39) (rs := []) Try.func90 rfl rfl rfl rfl mo (by kernel_rfl) (fun hf => ?_)
  have hn8 := hl.n8
  simp (maxSteps := 2000000) only [go_sem, reduceIte, Nat.reduceEqDiff, Nat.reduceAdd, Nat.reduceBEq, Int.reduceNeg, lk90, lk85, lk66, lk27, HP, csC]
  refine goE_loop (bad := [20006]) (kp := kp90) (fun b : Nat => { slots := [(0, .c (.yd 7)), (2, .c (.ptr 4 0)), (7, ints l), (8, I l.length), (9, I b)], heap := HP r c l (-1) (-1) .ready none, marks := [] }) (fun b => b ≤ l.length ∧ ∀ j, j < 3 * b → opn c l j = false) (fun b => l.length - b) 0 mo (by kernel_rfl) ?_ ⟨Nat.zero_le _, by intro j h; omega⟩ ?_
  · refine ent_weaken [] rfl rfl (show 8 ≤ 8 by decide) rfl rfl ?_
    simp (maxSteps := 2000000) only [go_sem, reduceIte, Nat.reduceEqDiff, Nat.reduceAdd, Nat.reduceLT, Int.reduceNeg, lk90, lk85, lk66, lk27, ints, HP]
    all_goals first | exact .refl _ | exact ⟨.refl _, .refl _⟩ | exact ⟨.refl _, .refl _, .refl _⟩ | exact ⟨.refl _, _, rfl⟩ | exact ⟨_, rfl⟩ | exact ⟨.refl _, [], by simp⟩ | exact ⟨[], by simp⟩
  rintro b ⟨hb, hall⟩
  simp (maxSteps := 2000000) only [go_sem, reduceIte, Nat.reduceEqDiff, Nat.reduceAdd, Nat.reduceBEq, Int.reduceNeg, lk90, lk85, lk66, lk27, HP, ints, csC]
  by_cases hlt : b < l.length
  · have hlt' : (b : Int) < l.length := by omega
    have g0 := gI_lt hlt
    have m0 : l.length - (b + 1) < l.length - b := by omega
    simp (maxSteps := 2000000) only [go_sem, reduceIte, Nat.reduceEqDiff, Nat.reduceAdd, Nat.reduceBEq, Int.reduceNeg, lk90, lk85, lk66, lk27, hlt', g0, nn, iD]
    refine goE_loop (bad := [20006]) (kp := kp90) (fun i : Nat => { slots := [(0, .c (.yd 7)), (2, .c (.ptr 4 0)), (4, I b), (5, I (gI l b)), (7, ints l), (8, I l.length), (9, I b), (14, I i)], heap := HP r c l (-1) (-1) .ready none, marks := [] }) (fun i => i ≤ 3 ∧ ∀ j, j < 3 * b + i → opn c l j = false) (fun i => 3 - i) 0 mo (by kernel_rfl) ?_ ⟨Nat.zero_le _, fun j hj => hall j (by omega)⟩ ?_
    · refine ent_weaken [] rfl rfl (show 8 ≤ 8 by decide) rfl rfl ?_
      simp (maxSteps := 2000000) only [go_sem, reduceIte, Nat.reduceEqDiff, Nat.reduceAdd, Nat.reduceLT, Int.reduceNeg, lk90, lk85, lk66, lk27, ints, HP, csC]
      all_goals first | exact .refl _ | exact ⟨.refl _, .refl _⟩ | exact ⟨.refl _, .refl _, .refl _⟩ | exact ⟨.refl _, _, rfl⟩ | exact ⟨_, rfl⟩ | exact ⟨.refl _, [], by simp⟩ | exact ⟨[], by simp⟩
    rintro i ⟨hi, hall2⟩
    simp (maxSteps := 2000000) only [go_sem, reduceIte, Nat.reduceEqDiff, Nat.reduceAdd, Nat.reduceBEq, Int.reduceNeg, lk90, lk85, lk66, lk27, HP, csC]
    by_cases hlt2 : i < 3
    · have hlt2' : (i : Int) < 3 := by omega
      have m1 : 3 - (i + 1) < 3 - i := by omega
      have w3 : wr .i64 ((i : Int) + 1) = ((i + 1 : Nat) : Int) := by rw [wr_i64] <;> omega
      have next : opn c l (3 * b + i) = false → ∀ j, j < 3 * b + (i + 1) → opn c l j = false := fun h j hj => by
        by_cases e : j = 3 * b + i
        · rw [e]; exact h
        · exact hall2 j (by omega)
      by_cases q1 : gI l b = 0
      · have n1 := next (by rw [opn_at c l hlt2]; simp [q1])
        simp (maxSteps := 2000000) only [go_sem, reduceIte, Nat.reduceEqDiff, Nat.reduceAdd, Nat.reduceBEq, Int.reduceNeg, lk90, lk85, lk66, lk27, hlt2', q1, w3]
        refine ⟨i + 1, ⟨hlt2, n1⟩, m1, ?_⟩
        refine ent_weaken [] rfl rfl (show 8 ≤ 8 by decide) rfl rfl ?_
        simp (maxSteps := 2000000) only [go_sem, reduceIte, Nat.reduceEqDiff, Nat.reduceAdd, Nat.reduceLT, Int.reduceNeg, lk90, lk85, lk66, lk27, ints, HP, csC, q1]
        all_goals first | exact .refl _ | exact ⟨.refl _, .refl _⟩ | exact ⟨.refl _, .refl _, .refl _⟩ | exact ⟨.refl _, _, rfl⟩ | exact ⟨_, rfl⟩ | exact ⟨.refl _, [], by simp⟩ | exact ⟨[], by simp⟩
      by_cases q2 : pL c i b = pH c i b
      · have n1 := next (by rw [opn_at c l hlt2]; simp [q2])
        simp (maxSteps := 2000000) only [go_sem, reduceIte, Nat.reduceEqDiff, Nat.reduceAdd, Nat.reduceBEq, Int.reduceNeg, lk90, lk85, lk66, lk27, hlt2', q1, w3]
        refine dops_pure' (low80 c hc i b hlt2 (by omega)) rfl rfl (by first | exact wk_refls _ | (repeat constructor)) (by kernel_rfl) ?_
        simp (maxSteps := 2000000) only [go_sem, reduceIte, Nat.reduceEqDiff, Nat.reduceAdd, Int.reduceNeg, lk90, lk85, lk66, lk27, csC]
        refine dops_pure' (high81 c hc i b hlt2 (by omega)) rfl rfl (by first | exact wk_refls _ | (repeat constructor)) (by kernel_rfl) ?_
        simp (maxSteps := 2000000) only [go_sem, reduceIte, Nat.reduceEqDiff, Nat.reduceAdd, Nat.reduceBEq, Int.reduceNeg, lk90, lk85, lk66, lk27, q2, w3]
        refine ⟨i + 1, ⟨hlt2, n1⟩, m1, ?_⟩
        refine ent_weaken [] rfl rfl (show 8 ≤ 8 by decide) rfl rfl ?_
        simp (maxSteps := 2000000) only [go_sem, reduceIte, Nat.reduceEqDiff, Nat.reduceAdd, Nat.reduceLT, Int.reduceNeg, lk90, lk85, lk66, lk27, ints, HP, csC]
        all_goals first | exact .refl _ | exact ⟨.refl _, .refl _⟩ | exact ⟨.refl _, .refl _, .refl _⟩ | exact ⟨.refl _, _, rfl⟩ | exact ⟨_, rfl⟩ | exact ⟨.refl _, [], by simp⟩ | exact ⟨[], by simp⟩
      · have e : fo c l = some (3 * b + i) := firstB_some hall2 (by rw [opn_at c l hlt2]; simp [q1, q2]) (by omega)
        have hy := hY i b hlt2 hlt
        simp (maxSteps := 2000000) only [go_sem, Int.reduceNeg, lk90, lk85, lk66, lk27, HP, csC] at hy
        have e1 : (3 * b + i) / 3 = b := by omega
        have e2 : (3 * b + i) % 3 = i := by omega
        simp (maxSteps := 2000000) only [go_sem, reduceIte, Nat.reduceEqDiff, Nat.reduceAdd, Nat.reduceBEq, Int.reduceNeg, lk90, lk85, lk66, lk27, hlt2', q1, w3]
        refine dops_pure' (low80 c hc i b hlt2 (by omega)) rfl rfl (by first | exact wk_refls _ | (repeat constructor)) (by kernel_rfl) ?_
        simp (maxSteps := 2000000) only [go_sem, reduceIte, Nat.reduceEqDiff, Nat.reduceAdd, Int.reduceNeg, lk90, lk85, lk66, lk27, csC]
        refine dops_pure' (high81 c hc i b hlt2 (by omega)) rfl rfl (by first | exact wk_refls _ | (repeat constructor)) (by kernel_rfl) ?_
        simp (maxSteps := 2000000) only [go_sem, reduceIte, Nat.reduceEqDiff, Nat.reduceAdd, Int.reduceNeg, lk90, lk85, lk66, lk27, q2, w3]
        refine dops_ycs hy rfl rfl (by kernel_rfl) (by kernel_rfl) ?_
        simp (maxSteps := 2000000) only [go_sem, reduceIte, Nat.reduceEqDiff, Nat.reduceAdd, Int.reduceNeg, lk90, lk85, lk66, lk27, HE, e, e1, e2, HP, csC]
    · have hlt2' : ¬ (i : Int) < 3 := by omega
      have e : i = 3 := by omega
      subst e
      simp (maxSteps := 2000000) only [go_sem, reduceIte, Nat.reduceEqDiff, Nat.reduceAdd, Nat.reduceBEq, Nat.reduceSub, Int.reduceNeg, lk90, lk85, lk66, lk27, hlt2', wr_succ hlt (show l.length ≤ 140737488355328 by omega)]
      refine ⟨b + 1, ⟨hlt, fun j hj => hall2 j (by omega)⟩, m0, ?_⟩
      refine ent_weaken [] rfl rfl (show 8 ≤ 8 by decide) rfl rfl ?_
      simp (maxSteps := 2000000) only [go_sem, reduceIte, Nat.reduceEqDiff, Nat.reduceAdd, Nat.reduceLT, Int.reduceNeg, lk90, lk85, lk66, lk27, ints, HP, csC]
      all_goals first | exact .refl _ | exact ⟨.refl _, .refl _⟩ | exact ⟨.refl _, .refl _, .refl _⟩ | exact ⟨.refl _, _, rfl⟩ | exact ⟨_, rfl⟩ | exact ⟨.refl _, [], by simp⟩ | exact ⟨[], by simp⟩
  · have hlt' : ¬ (b : Int) < l.length := by omega
    have e : fo c l = none := firstB_none (fun j hj => hall j (by omega))
    simp (maxSteps := 2000000) only [go_sem, reduceIte, Int.reduceNeg, lk90, lk85, lk66, lk27, hlt', HE, e, HP, csC]

def HP4 (c : Cs) : List AB := [.cells (csC c), .cells (plC 0 0), .cells (plC (-1) (-1)), .cells (plC (-1) (-1))]
set_option maxHeartbeats 1000000 in
theorem open85 (c : Cs) (l : List Int) : ACall Try.prog 85 [csV c, ints l] (HP4 c) (one (.c (.fn (.func 90) [.ptr 5 0, .ptr 4 0])) (HP4 c ++ [.cells (csC c), .cells [.d (.sl (l.map iD))]])) := by
  refine acall_fitE (bad := []) (kp := kp85) (X := tx) (nt := 6) (rs := [.tmp 4]) Try.func85 rfl rfl rfl rfl mo (by kernel_rfl) (fun hf => ?_)
  simp (maxSteps := 2000000) only [go_sem, reduceIte, Nat.reduceEqDiff, Nat.reduceAdd, Int.reduceNeg, lk90, lk85, lk66, lk27, HP4, csV, csC, ints, one]
  all_goals first | exact .refl _ | exact ⟨.refl _, .refl _⟩ | exact ⟨.refl _, .refl _, .refl _⟩ | exact ⟨.refl _, _, rfl⟩ | exact ⟨_, rfl⟩ | exact ⟨.refl _, [], by simp⟩ | exact ⟨[], by simp⟩

/-- The place at which chips part. -/
def zSee (c : Cs) (l : List Int) : Bool := decide (seeF (pL c) l 0 = 0) && (decide (seeF (pL c) l 1 = 0) && decide (seeF (pL c) l 2 = 0))
def partB (c : Cs) (l : List Int) : Bool := !zSee c l || (fo c l).isSome
def partP (c : Cs) (l : List Int) : Int × Int := if zSee c l then (match fo c l with | none => (-1, -1) | some t => (((t % 3 : Nat) : Int), ((t / 3 : Nat) : Int))) else (-1, -1)
def partV (c : Cs) (l : List Int) : V := .tup [.agg (plC (partP c l).1 (partP c l).2), B (partB c l)]

set_option maxHeartbeats 4000000 in
theorem part66 (c : Cs) (l : List Int) (hc : OkC c) (hl : Spec l) (hn : l.length = c.lamp.length) : Pure Try.prog 66 [csV c, ints l] (partV c l) := by
  refine pure_wkE (bad := [9]) (kp := kp66) (X := tx) (nt := 32) (rs := [.cell 4 99, .tmp 5]) Try.func66 rfl rfl rfl rfl mo (by kernel_rfl) rfl rfl (fun hf => ?_)
  have hs := see53 c l 80 (pL c) hl (hc.okL _) (fun i b hi hb => low80 c hc i b hi (by omega))
  simp (maxSteps := 2000000) only [go_sem, reduceIte, Nat.reduceEqDiff, Nat.reduceAdd, Nat.reduceLeDiff, Nat.reduceBEq, Int.reduceNeg, lk90, lk85, lk66, lk27, csV, csC, ints, List.isEmpty_cons]
  refine aops_pure' (hs) rfl rfl (by first | exact wk_refls _ | (repeat constructor)) ?_
  simp (maxSteps := 2000000) only [go_sem, reduceIte, Nat.reduceEqDiff, Nat.reduceAdd, Int.reduceNeg, lk90, lk85, lk66, lk27, th, numsC3]
  have ez : (decide (seeF (pL c) l 0 = 0) && (decide (seeF (pL c) l 1 = 0) && decide (seeF (pL c) l 2 = 0))) = zSee c l := rfl
  rw [ez]
  cases hz : zSee c l with
  | false =>
    have e1 : partV c l = .tup [.agg (plC (-1) (-1)), B true] := by simp only [partV, partB, partP, hz, Bool.not_false, Bool.true_or, Bool.false_eq_true, if_false]
    rw [e1]
    simp (maxSteps := 2000000) only [go_sem, reduceIte, Nat.reduceEqDiff, Nat.reduceAdd, Nat.reduceBEq, Int.reduceNeg, lk90, lk85, lk66, lk27, plC]
  | true =>
  have e1 : partV c l = .tup [.agg (plC (match fo c l with | none => ((-1 : Int), (-1 : Int)) | some t => (((t % 3 : Nat) : Int), ((t / 3 : Nat) : Int))).1 (match fo c l with | none => ((-1 : Int), (-1 : Int)) | some t => (((t % 3 : Nat) : Int), ((t / 3 : Nat) : Int))).2), B (fo c l).isSome] := by simp only [partV, partB, partP, hz, Bool.not_true, Bool.false_or, if_true]
  simp (maxSteps := 2000000) only [go_sem, reduceIte, Nat.reduceEqDiff, Nat.reduceAdd, Nat.reduceBEq, Int.reduceNeg, lk90, lk85, lk66, lk27]
  have h85 := open85 c l
  simp (maxSteps := 2000000) only [go_sem, Int.reduceNeg, lk90, lk85, lk66, lk27, HP4, csV, csC, ints, plC] at h85
  refine aops_at (h85) rfl rfl (by first | exact wk_refls _ | (repeat constructor)) ?_
  simp (maxSteps := 2000000) only [go_sem, reduceIte, Nat.reduceEqDiff, Int.reduceNeg, lk90, lk85, lk66, lk27, List.cons_append, List.nil_append]
  refine AWP.ent (s' := { slots := slP, heap := HP4 c ++ [.cells (csC c), .cells [.d (.sl (l.map iD))]], marks := [] }) ?_ ?_
  · refine ent_weaken [] rfl rfl (Nat.zero_le _) rfl rfl ?_
    simp (maxSteps := 2000000) only [go_sem, reduceIte, Nat.reduceEqDiff, Nat.reduceAdd, Nat.reduceLT, Int.reduceNeg, lk90, lk85, lk66, lk27, slP, HP4, List.cons_append, List.nil_append]
    all_goals first | exact .refl _ | exact ⟨.refl _, .refl _⟩ | exact ⟨.refl _, .refl _, .refl _⟩ | exact ⟨.refl _, _, rfl⟩ | exact ⟨_, rfl⟩ | exact ⟨.refl _, [], by simp⟩ | exact ⟨[], by simp⟩
  refine code_gen (fun A Bd hA hB => ?_)
  refine awp_rangeFunc (gf := 90) (caps := [.ptr 5 0, .ptr 4 0]) rfl rfl ?_
  refine ACall.mono (open90 ⟨A, Bd⟩ c l hc hl hn (fun i b hi hb => ?_)) ?_
  · refine ycs_ofC (bad := [9]) (kp := kp66) (X := tx) mo rfl hA hB rfl rfl (by kernel_rfl) (by kernel_rfl) (fun lp => ?_)
    simp (maxSteps := 2000000) only [go_sem, reduceIte, Nat.reduceEqDiff, Nat.reduceAdd, Nat.reduceLeDiff, Nat.reduceBEq, Int.reduceNeg, lk90, lk85, lk66, lk27, putPs, HP, slP, csC, plC]
    refine ⟨_, rfl, ?_⟩
    simp (maxSteps := 2000000) only [go_sem, reduceIte, Nat.reduceEqDiff, Nat.reduceAdd, Nat.reduceBEq, Int.reduceNeg, lk90, lk85, lk66, lk27, putPs, HP, slP, csC, plC]
    exact ⟨_, Ent.refl, _, rfl, rfl, rfl⟩
  · rintro _ H2 rfl
    cases hfo : fo c l with
    | none =>
      rw [hfo] at e1
      rw [e1]
      have hH : HE ⟨A, Bd⟩ c l = HP ⟨A, Bd⟩ c l (-1) (-1) .ready none := by simp only [HE, hfo]
      rw [hH]
      refine ⟨fun h => (by cases h), ?_⟩
      simp (maxSteps := 2000000) only [go_sem, reduceIte, Nat.reduceEqDiff, Nat.reduceAdd, Nat.reduceLeDiff, Nat.reduceBEq, Int.reduceNeg, lk90, lk85, lk66, lk27, HP, slP, HP4, csC, plC, List.cons_append, List.nil_append]
      first | exact ⟨pairsOk_ord (by kernel_rfl), .refl _⟩ | exact pairsOk_ord (by kernel_rfl)
    | some t =>
      rw [hfo] at e1
      rw [e1]
      have hH : HE ⟨A, Bd⟩ c l = HP ⟨A, Bd⟩ c l ((t % 3 : Nat) : Int) ((t / 3 : Nat) : Int) .done (some (.exit 0)) := by simp only [HE, hfo]
      rw [hH]
      refine ⟨fun h => (by cases h), ?_⟩
      refine awp_exit ?_
      have n1 : ¬ (((t % 3 : Nat) : Int) = -1) := by omega
      simp (maxSteps := 2000000) only [go_sem, reduceIte, Nat.reduceEqDiff, Nat.reduceAdd, Nat.reduceLeDiff, Nat.reduceBEq, Int.reduceNeg, lk90, lk85, lk66, lk27, HP, slP, HP4, csC, plC, List.cons_append, List.nil_append, n1]
      first | exact ⟨pairsOk_ord (by kernel_rfl), .refl _⟩ | exact pairsOk_ord (by kernel_rfl)

/-- Surely, as the program has it. -/
def sureP (c : Cs) (a b : List Int) : Int := if okChips c a b = 0 then (if partB c (lessL a b) then 19 else 0) else okChips c a b
set_option maxHeartbeats 2000000 in
theorem surely27 (c : Cs) (a b : List Int) : Pure Try.prog 27 [csV c, ints a, ints b] (I (sureP c a b)) := by
  refine pure_wkE (bad := [4]) (kp := kp27) (X := tx) (nt := 31) (rs := [.tmp 6]) Try.func27 rfl rfl rfl rfl mo (by kernel_rfl) rfl rfl (fun hf => ?_)
  simp (maxSteps := 2000000) only [go_sem, reduceIte, Nat.reduceEqDiff, Nat.reduceAdd, Nat.reduceLT, Nat.reduceLeDiff, Nat.reduceBEq, Nat.reduceMul, lk90, lk85, lk66, lk27, csV, csC, ints]
  refine aops_pure' (new51 c [a, b]) rfl rfl (by first | exact wk_refls _ | (repeat constructor)) ?_
  simp (maxSteps := 2000000) only [go_sem, reduceIte, Nat.reduceEqDiff, Nat.reduceAdd, lk90, lk85, lk66, lk27, csV, csC, newE2]
  by_cases h : okChips c a b = 0
  case neg =>
    have e : sureP c a b = okChips c a b := by simp only [sureP, if_neg h]
    simp (maxSteps := 2000000) only [go_sem, reduceIte, Nat.reduceEqDiff, Nat.reduceAdd, Nat.reduceBEq, lk90, lk85, lk66, lk27, h, e]
  obtain ⟨hc, ha, hb⟩ := (okChips_iff c a b).1 h
  obtain ⟨hsa, hna⟩ := chip_spec hc ha
  obtain ⟨hsb, hnb⟩ := chip_spec hc hb
  obtain ⟨hs, hn⟩ := less_spec hc ha hb
  simp (maxSteps := 2000000) only [go_sem, reduceIte, Nat.reduceEqDiff, Nat.reduceAdd, Nat.reduceBEq, lk90, lk85, lk66, lk27, h, csC]
  refine de_pure (less64 a b (by omega) hsa hsb) rfl rfl (by first | exact wk_refls _ | (repeat constructor)) ?_
  simp (maxSteps := 2000000) only [go_sem, reduceIte, Nat.reduceEqDiff, Nat.reduceAdd, lk90, lk85, lk66, lk27, h, csC]
  refine de_pure (part66 c (lessL a b) hc hs hn) rfl rfl (by first | exact wk_refls _ | (repeat constructor)) ?_
  simp (maxSteps := 2000000) only [go_sem, reduceIte, Nat.reduceEqDiff, Nat.reduceAdd, lk90, lk85, lk66, lk27, h, partV, plC]
  refine ⟨pairsOk_ord (by kernel_rfl), ?_⟩
  cases hp : partB c (lessL a b) with
  | true =>
    have e : sureP c a b = 19 := by simp only [sureP, if_pos h, hp, if_true]
    simp (maxSteps := 2000000) only [go_sem, reduceIte, Nat.reduceEqDiff, Nat.reduceAdd, Nat.reduceBEq, lk90, lk85, lk66, lk27, e]
  | false =>
    have e : sureP c a b = 0 := by simp only [sureP, if_pos h, hp, Bool.false_eq_true, if_false]
    simp (maxSteps := 2000000) only [go_sem, reduceIte, Nat.reduceEqDiff, Nat.reduceAdd, Nat.reduceBEq, lk90, lk85, lk66, lk27, e]
end Go.Proofs.Ytjkpfojkkfopmaa
