/- Metamers: what an eye sees. -/
import Derived.Test.YtjkpfojkkfopmaaM4
set_option linter.unusedSimpArgs false
set_option linter.unusedVariables false
set_option maxRecDepth 100000
namespace Go.Proofs.Ytjkpfojkkfopmaa
open Go Go.Abs Go.Proofs
def kp53 : List (Nat × List Nat) := [(0, [1, 2, 6]), (1, [1, 2, 6, 7]), (2, [2, 6, 7, 11, 12, 13]), (3, [2, 6, 7, 11, 12, 13, 14]), (4, [2, 6, 7, 8, 9, 11, 12, 13]), (5, [2, 6, 7, 8, 9, 11, 12, 13, 18]), (6, [2, 6, 7, 8, 9, 11, 12, 13, 18, 19]), (7, [2, 6, 7, 8, 9, 10, 11, 12, 13, 18]), (8, [2, 6, 7, 8, 9, 11, 12, 13, 18]), (9, [2, 6, 7, 8, 9, 11, 12, 13, 18]), (10, [2, 6, 7, 11, 12, 13]), (11, [6])]
theorem lk53 : lookK kp53 0 = some [1, 2, 6] ∧ lookK kp53 1 = some [1, 2, 6, 7] ∧ lookK kp53 2 = some [2, 6, 7, 11, 12, 13] ∧ lookK kp53 3 = some [2, 6, 7, 11, 12, 13, 14] ∧ lookK kp53 4 = some [2, 6, 7, 8, 9, 11, 12, 13] ∧ lookK kp53 5 = some [2, 6, 7, 8, 9, 11, 12, 13, 18] ∧ lookK kp53 6 = some [2, 6, 7, 8, 9, 11, 12, 13, 18, 19] ∧ lookK kp53 7 = some [2, 6, 7, 8, 9, 10, 11, 12, 13, 18] ∧ lookK kp53 8 = some [2, 6, 7, 8, 9, 11, 12, 13, 18] ∧ lookK kp53 9 = some [2, 6, 7, 8, 9, 11, 12, 13, 18] ∧ lookK kp53 10 = some [2, 6, 7, 11, 12, 13] ∧ lookK kp53 11 = some [6] := ⟨rfl, rfl, rfl, rfl, rfl, rfl, rfl, rfl, rfl, rfl, rfl, rfl⟩
def kp54 : List (Nat × List Nat) := [(0, [0, 1, 2]), (1, [5])]
theorem lk54 : lookK kp54 0 = some [0, 1, 2] ∧ lookK kp54 1 = some [5] := ⟨rfl, rfl⟩
def kp80 : List (Nat × List Nat) := [(0, [1, 2, 3]), (1, [6])]
theorem lk80 : lookK kp80 0 = some [1, 2, 3] ∧ lookK kp80 1 = some [6] := ⟨rfl, rfl⟩
def kp81 : List (Nat × List Nat) := [(0, [1, 2, 3]), (1, [6])]
theorem lk81 : lookK kp81 0 = some [1, 2, 3] ∧ lookK kp81 1 = some [6] := ⟨rfl, rfl⟩

/-- Sums. -/
def sumF (f : Nat → Int) : Nat → Int
  | 0 => 0
  | n + 1 => sumF f n + f n
theorem sumF_bound {f : Nat → Int} : ∀ {n : Nat}, (∀ b, b < n → -10000000 ≤ f b ∧ f b ≤ 10000000) → -(10000000 * (n : Int)) ≤ sumF f n ∧ sumF f n ≤ 10000000 * n
  | 0, _ => by simp [sumF]
  | n + 1, h => by
    have ih := sumF_bound (f := f) (n := n) (fun b hb => h b (by omega))
    have h1 := h n (by omega)
    simp only [sumF]; omega
theorem sumF_congr {f g : Nat → Int} : ∀ {n : Nat}, (∀ b, b < n → f b = g b) → sumF f n = sumF g n
  | 0, _ => rfl
  | n + 1, h => by rw [sumF, sumF, sumF_congr (fun b hb => h b (by omega)), h n (by omega)]
theorem sumF_add (f g : Nat → Int) : ∀ n : Nat, sumF f n + sumF g n = sumF (fun b => f b + g b) n
  | 0 => rfl
  | n + 1 => by have := sumF_add f g n; simp only [sumF] at this ⊢; omega
theorem mul_bound {x p : Int} (hx : -1000 ≤ x ∧ x ≤ 1000) (hp : 0 ≤ p ∧ p ≤ 10000) : -10000000 ≤ x * p ∧ x * p ≤ 10000000 := by
  obtain ⟨x0, x1⟩ := hx
  obtain ⟨p0, p1⟩ := hp
  constructor
  · have h1 := Int.mul_le_mul_of_nonneg_right x0 p0
    omega
  · have h1 := Int.mul_le_mul_of_nonneg_right x1 p0
    omega
/-- A spectrum that is not too large. -/
structure Spec (l : List Int) : Prop where
  n8 : l.length ≤ 8
  b : ∀ x ∈ l, -1000 ≤ x ∧ x ≤ 1000
theorem Spec.g {l : List Int} (h : Spec l) {b : Nat} (hb : b < l.length) : -1000 ≤ gI l b ∧ gI l b ≤ 1000 := h.b _ (List.mem_of_getElem? (gI_lt hb))
/-- A product of the eye and the lamp that is not too large. -/
def PrOk (n : Nat) (p : Nat → Nat → Int) : Prop := ∀ i b, i < 3 → b < n → 0 ≤ p i b ∧ p i b ≤ 10000
def seeS (p : Nat → Nat → Int) (l : List Int) (k b : Nat) : Int := sumF (fun b => gI l b * p k b) b
def seeM (p : Nat → Nat → Int) (l : List Int) (b i : Nat) : Nat → Int := fun k => if k < i then seeS p l k (b + 1) else seeS p l k b
theorem seeM_zero (p : Nat → Nat → Int) (l : List Int) (b : Nat) : seeM p l b 0 = fun k : Nat => seeS p l k b := by funext k; simp [seeM]
theorem seeM_all (p : Nat → Nat → Int) (l : List Int) (b : Nat) : numsD 3 (seeM p l b 3) = numsD 3 (fun k : Nat => seeS p l k (b + 1)) := by
  refine List.map_congr_left fun k hk => ?_
  simp at hk
  simp [seeM, hk]
theorem seeM_at (p : Nat → Nat → Int) (l : List Int) (b i : Nat) : seeM p l b i i = seeS p l i b := by simp [seeM]
theorem seeM_upd {p : Nat → Nat → Int} {l : List Int} {b i : Nat} {v : Int} (h : v = seeS p l i (b + 1)) : upd (seeM p l b i) i v = seeM p l b (i + 1) := by
  funext k
  by_cases e : k = i
  · subst e; rw [upd_same, h]; simp [seeM]
  · rw [upd_ne _ _ e]
    simp only [seeM]
    have : k < i + 1 ↔ k < i := by omega
    simp only [this]
theorem seeS_bound {p : Nat → Nat → Int} {l : List Int} (hl : Spec l) (hp : PrOk l.length p) {k b : Nat} (hk : k < 3) (hb : b ≤ l.length) : -80000000 ≤ seeS p l k b ∧ seeS p l k b ≤ 80000000 := by
  have h := sumF_bound (f := fun b => gI l b * p k b) (n := b) (fun j hj => mul_bound (hl.g (by omega)) (hp k j hk (by omega)))
  have := hl.n8
  unfold seeS
  omega
/-- The three numbers. -/
def seeF (p : Nat → Nat → Int) (l : List Int) : Nat → Int := fun k => seeS p l k l.length
theorem low5 (c c2 : Cs) (x : Tr) (f g : Nat → Int) : List.all [AB.cells (csC c2), AB.cells (trC x), AB.cells (csC c), AB.cells (numsC 3 f), AB.cells (numsC 3 g)] (AB.low 5) = true := by simp [AB.low, numsC_low, csC, trC, C.lowL, C.low]
def th (f : Nat → Int) : V := .agg (numsC 3 f)
theorem numsC3 (f : Nat → Int) : numsC 3 f = [.d (.int .i64 (f 0)), .d (.int .i64 (f 1)), .d (.int .i64 (f 2))] := rfl

set_option maxHeartbeats 4000000 in
theorem see53 (c : Cs) (l : List Int) (g : Nat) (p : Nat → Nat → Int) (hl : Spec l) (hp : PrOk l.length p) (hg : ∀ i b : Nat, i < 3 → b < l.length → Pure Try.prog g [csV c, I i, I b] (I (p i b))) :
    Pure Try.prog 53 [csV c, ints l, .c (.ma (.func g) (csC c))] (th (seeF p l)) := by
  refine pure_wkE (bad := []) (kp := kp53) (X := tx) (nt := 35) (rs := [.cell 6 86]) Try.func53 rfl rfl rfl rfl mo (by kernel_rfl) rfl rfl (fun hf => ?_)
  have hn8 := hl.n8
  have hlen : l.length ≤ 140737488355328 := by omega
  simp (maxSteps := 2000000) only [go_sem, reduceIte, Nat.reduceEqDiff, Nat.reduceAdd, lk53, lk54, lk80, lk81, csV, csC, ints, trC]
  refine goE_loop (bad := []) (kp := kp53) (fun b : Nat => { slots := [(2, .c (.ma (.func g) (csC c))), (6, .c (.ptr 1 0)), (7, .c (.ptr 2 0)), (11, ints l), (12, I l.length), (13, I b)], heap := [.cells (csC c), .cells (numsC 3 (fun _ => 0)), .cells (numsC 3 (fun k : Nat => seeS p l k b))], marks := [] }) (fun b => b ≤ l.length) (fun b => l.length - b) 0 mo (by kernel_rfl) ?_ (Nat.zero_le _) ?_
  · refine ent_weaken [] rfl rfl (show 0 ≤ 3 by decide) (by simp [AB.low, numsC_low, csC, trC, C.lowL, C.low]) rfl ?_
    simp (maxSteps := 2000000) only [go_sem, reduceIte, Nat.reduceEqDiff, Nat.reduceAdd, Nat.reduceLT, lk53, lk54, lk80, lk81, csC, ints, trC]
    all_goals first | exact .refl _ | exact ⟨.refl _, .refl _⟩ | exact ⟨.refl _, .refl _, .refl _⟩ | exact ⟨.refl _, _, rfl⟩ | exact ⟨_, rfl⟩ | exact ⟨.refl _, [], by simp⟩ | exact ⟨[], by simp⟩
  rintro b hb
  simp (maxSteps := 2000000) only [go_sem, reduceIte, Nat.reduceEqDiff, Nat.reduceAdd, lk53, lk54, lk80, lk81, csC, ints, trC]
  by_cases hlt : b < l.length
  · have hlt' : (b : Int) < l.length := by omega
    have g0 := gI_lt hlt
    have m0 : l.length - (b + 1) < l.length - b := by omega
    simp (maxSteps := 2000000) only [go_sem, reduceIte, Nat.reduceEqDiff, Nat.reduceAdd, lk53, lk54, lk80, lk81, hlt', g0, nn, iD]
    refine goE_loop (bad := []) (kp := kp53) (fun i : Nat => { slots := [(2, .c (.ma (.func g) (csC c))), (6, .c (.ptr 1 0)), (7, .c (.ptr 2 0)), (8, I b), (9, I (gI l b)), (11, ints l), (12, I l.length), (13, I b), (18, I i)], heap := [.cells (csC c), .cells (numsC 3 (fun _ => 0)), .cells (numsC 3 (seeM p l b i))], marks := [] }) (fun i => i ≤ 3) (fun i => 3 - i) 0 mo (by kernel_rfl) ?_ (Nat.zero_le _) ?_
    · refine ent_weaken [] (by simp [seeM_zero, csC, trC]) rfl (show 0 ≤ 3 by decide) (by simp [AB.low, numsC_low, csC, trC, C.lowL, C.low]) rfl ?_
      simp (maxSteps := 2000000) only [go_sem, reduceIte, Nat.reduceEqDiff, Nat.reduceAdd, Nat.reduceLT, lk53, lk54, lk80, lk81, ints, csC, trC]
      all_goals first | exact .refl _ | exact ⟨.refl _, .refl _⟩ | exact ⟨.refl _, .refl _, .refl _⟩ | exact ⟨.refl _, _, rfl⟩ | exact ⟨_, rfl⟩ | exact ⟨.refl _, [], by simp⟩ | exact ⟨[], by simp⟩
    rintro i hi
    simp (maxSteps := 2000000) only [go_sem, reduceIte, Nat.reduceEqDiff, Nat.reduceAdd, lk53, lk54, lk80, lk81, csC, trC]
    by_cases hlt2 : i < 3
    · have hlt2' : (i : Int) < 3 := by omega
      have m1 : 3 - (i + 1) < 3 - i := by omega
      have g1 := numsC_get (seeM p l b i) hlt2
      rw [seeM_at] at g1
      have b1 := seeS_bound hl hp hlt2 hb
      have b2 := seeS_bound hl hp hlt2 (show b + 1 ≤ l.length from hlt)
      have b3 := mul_bound (hl.g hlt) (hp i b hlt2 hlt)
      have e1 : seeS p l i b + gI l b * p i b = seeS p l i (b + 1) := rfl
      have r1 : decide ((i : Int) < ((3 : Nat) : Int)) = true := by simp; omega
      have r2 : decide (i ≤ 2) = true := by simp; omega
      have r3 : decide (i + 1 ≤ 3) = true := by simp; omega
      have w3 : wr .i64 ((i : Int) + 1) = ((i + 1 : Nat) : Int) := by rw [wr_i64] <;> omega
      have w1 : wr .i64 (gI l b * p i b) = gI l b * p i b := by rw [wr_i64] <;> omega
      have w2 : wr .i64 (seeS p l i b + gI l b * p i b) = seeS p l i (b + 1) := by rw [wr_i64, e1] <;> omega
      clear b1 b2 b3 e1
      simp (maxSteps := 2000000) only [go_sem, reduceIte, Nat.reduceEqDiff, Nat.reduceAdd, Nat.reduceLeDiff, lk53, lk54, lk80, lk81, hlt2', nn, g1, r1, r2, r3, numsC_len, Nat.mul_one, Nat.zero_add]
      refine dops_pure' (hg i b hlt2 hlt) rfl rfl (by first | exact wk_refls _ | (repeat constructor)) (by kernel_rfl) ?_
      simp (maxSteps := 2000000) only [go_sem, reduceIte, Nat.reduceEqDiff, Nat.reduceAdd, Nat.reduceLeDiff, lk53, lk54, lk80, lk81, w1, w2, w3, hlt2', nn, g1, r1, r2, r3, numsC_len, Nat.mul_one, Nat.zero_add]
      refine ⟨i + 1, hlt2, m1, ?_⟩
      refine ent_weaken [] (by simp only [numsC_set, seeM_upd rfl, List.append_nil, csC, trC]) rfl (show 0 ≤ 3 by decide) (by simp [AB.low, numsC_low, csC, trC, C.lowL, C.low]) rfl ?_
      simp (maxSteps := 2000000) only [go_sem, reduceIte, Nat.reduceEqDiff, Nat.reduceAdd, Nat.reduceLT, lk53, lk54, lk80, lk81, csC, trC, ints]
      all_goals first | exact .refl _ | exact ⟨.refl _, .refl _⟩ | exact ⟨.refl _, .refl _, .refl _⟩ | exact ⟨.refl _, _, rfl⟩ | exact ⟨_, rfl⟩ | exact ⟨.refl _, [], by simp⟩ | exact ⟨[], by simp⟩
    · have hlt2' : ¬ (i : Int) < 3 := by omega
      have e : i = 3 := by omega
      subst e
      have w3 : wr .i64 ((b : Int) + 1) = ((b + 1 : Nat) : Int) := wr_succ hlt hlen
      simp (maxSteps := 2000000) only [go_sem, reduceIte, Nat.reduceEqDiff, Nat.reduceAdd, Nat.reduceSub, lk53, lk54, lk80, lk81, hlt2', w3]
      refine ⟨b + 1, hlt, m0, ?_⟩
      refine ent_weaken [] (by simp only [numsC, seeM_all, List.append_nil, csC, trC]) rfl (show 0 ≤ 3 by decide) (by simp [AB.low, numsC_low, csC, trC, C.lowL, C.low]) rfl ?_
      simp (maxSteps := 2000000) only [go_sem, reduceIte, Nat.reduceEqDiff, Nat.reduceAdd, Nat.reduceLT, lk53, lk54, lk80, lk81, csC, trC, ints]
      all_goals first | exact .refl _ | exact ⟨.refl _, .refl _⟩ | exact ⟨.refl _, .refl _, .refl _⟩ | exact ⟨.refl _, _, rfl⟩ | exact ⟨_, rfl⟩ | exact ⟨.refl _, [], by simp⟩ | exact ⟨[], by simp⟩
  · have hlt' : ¬ (b : Int) < l.length := by omega
    have e : b = l.length := by omega
    subst e
    simp (maxSteps := 2000000) only [go_sem, reduceIte, Nat.reduceEqDiff, Nat.reduceAdd, lk53, lk54, lk80, lk81, hlt', numsC3, th, seeF, csC, trC]
    all_goals first | exact .refl _ | exact ⟨.refl _, .refl _⟩ | exact ⟨.refl _, .refl _, .refl _⟩ | exact ⟨.refl _, _, rfl⟩ | exact ⟨_, rfl⟩ | exact ⟨.refl _, [], by simp⟩ | exact ⟨[], by simp⟩

set_option maxHeartbeats 4000000 in
theorem see53x (c c2 : Cs) (x : Tr) (l : List Int) (p : Nat → Nat → Int) (hl : Spec l) (hp : PrOk l.length p) (hg : ∀ i b : Nat, i < 3 → b < l.length → ∀ H, H[1]? = some (.cells (trC x)) → H.all (AB.low H.length) = true → ACall Try.prog 54 [I i, I b, .c (.ptr 1 0)] H (one (I (p i b)) H)) :
    ACall Try.prog 53 [csV c, ints l, .c (.fn (.func 54) [.ptr 1 0])] [.cells (csC c2), .cells (trC x)] (one (th (seeF p l)) [.cells (csC c2), .cells (trC x)]) := by
  refine acall_atE (bad := []) (kp := kp53) (X := tx) (nt := 35) (rs := [.cell 6 86]) Try.func53 rfl rfl rfl rfl mo (by kernel_rfl) rfl rfl (fun hf => ?_)
  have hn8 := hl.n8
  have hlen : l.length ≤ 140737488355328 := by omega
  simp (maxSteps := 2000000) only [go_sem, reduceIte, Nat.reduceEqDiff, Nat.reduceAdd, lk53, lk54, lk80, lk81, csV, csC, ints, trC]
  refine goE_loop (bad := []) (kp := kp53) (fun b : Nat => { slots := [(2, .c (.fn (.func 54) [.ptr 1 0])), (6, .c (.ptr 3 0)), (7, .c (.ptr 4 0)), (11, ints l), (12, I l.length), (13, I b)], heap := [.cells (csC c2), .cells (trC x), .cells (csC c), .cells (numsC 3 (fun _ => 0)), .cells (numsC 3 (fun k : Nat => seeS p l k b))], marks := [] }) (fun b => b ≤ l.length) (fun b => l.length - b) 0 mo (by kernel_rfl) ?_ (Nat.zero_le _) ?_
  · refine ent_weaken [] rfl rfl (show 2 ≤ 5 by decide) (by simp [AB.low, numsC_low, csC, trC, C.lowL, C.low]) rfl ?_
    simp (maxSteps := 2000000) only [go_sem, reduceIte, Nat.reduceEqDiff, Nat.reduceAdd, Nat.reduceLT, lk53, lk54, lk80, lk81, csC, ints, trC]
    all_goals first | exact .refl _ | exact ⟨.refl _, .refl _⟩ | exact ⟨.refl _, .refl _, .refl _⟩ | exact ⟨.refl _, _, rfl⟩ | exact ⟨_, rfl⟩ | exact ⟨.refl _, [], by simp⟩ | exact ⟨[], by simp⟩
  rintro b hb
  simp (maxSteps := 2000000) only [go_sem, reduceIte, Nat.reduceEqDiff, Nat.reduceAdd, lk53, lk54, lk80, lk81, csC, ints, trC]
  by_cases hlt : b < l.length
  · have hlt' : (b : Int) < l.length := by omega
    have g0 := gI_lt hlt
    have m0 : l.length - (b + 1) < l.length - b := by omega
    simp (maxSteps := 2000000) only [go_sem, reduceIte, Nat.reduceEqDiff, Nat.reduceAdd, lk53, lk54, lk80, lk81, hlt', g0, nn, iD]
    refine goE_loop (bad := []) (kp := kp53) (fun i : Nat => { slots := [(2, .c (.fn (.func 54) [.ptr 1 0])), (6, .c (.ptr 3 0)), (7, .c (.ptr 4 0)), (8, I b), (9, I (gI l b)), (11, ints l), (12, I l.length), (13, I b), (18, I i)], heap := [.cells (csC c2), .cells (trC x), .cells (csC c), .cells (numsC 3 (fun _ => 0)), .cells (numsC 3 (seeM p l b i))], marks := [] }) (fun i => i ≤ 3) (fun i => 3 - i) 0 mo (by kernel_rfl) ?_ (Nat.zero_le _) ?_
    · refine ent_weaken [] (by simp [seeM_zero, csC, trC]) rfl (show 2 ≤ 5 by decide) (by simp [AB.low, numsC_low, csC, trC, C.lowL, C.low]) rfl ?_
      simp (maxSteps := 2000000) only [go_sem, reduceIte, Nat.reduceEqDiff, Nat.reduceAdd, Nat.reduceLT, lk53, lk54, lk80, lk81, ints, csC, trC]
      all_goals first | exact .refl _ | exact ⟨.refl _, .refl _⟩ | exact ⟨.refl _, .refl _, .refl _⟩ | exact ⟨.refl _, _, rfl⟩ | exact ⟨_, rfl⟩ | exact ⟨.refl _, [], by simp⟩ | exact ⟨[], by simp⟩
    rintro i hi
    simp (maxSteps := 2000000) only [go_sem, reduceIte, Nat.reduceEqDiff, Nat.reduceAdd, lk53, lk54, lk80, lk81, csC, trC]
    by_cases hlt2 : i < 3
    · have hlt2' : (i : Int) < 3 := by omega
      have m1 : 3 - (i + 1) < 3 - i := by omega
      have g1 := numsC_get (seeM p l b i) hlt2
      rw [seeM_at] at g1
      have b1 := seeS_bound hl hp hlt2 hb
      have b2 := seeS_bound hl hp hlt2 (show b + 1 ≤ l.length from hlt)
      have b3 := mul_bound (hl.g hlt) (hp i b hlt2 hlt)
      have e1 : seeS p l i b + gI l b * p i b = seeS p l i (b + 1) := rfl
      have r1 : decide ((i : Int) < ((3 : Nat) : Int)) = true := by simp; omega
      have r2 : decide (i ≤ 2) = true := by simp; omega
      have r3 : decide (i + 1 ≤ 3) = true := by simp; omega
      have w3 : wr .i64 ((i : Int) + 1) = ((i + 1 : Nat) : Int) := by rw [wr_i64] <;> omega
      have w1 : wr .i64 (gI l b * p i b) = gI l b * p i b := by rw [wr_i64] <;> omega
      have w2 : wr .i64 (seeS p l i b + gI l b * p i b) = seeS p l i (b + 1) := by rw [wr_i64, e1] <;> omega
      clear b1 b2 b3 e1
      simp (maxSteps := 2000000) only [go_sem, reduceIte, Nat.reduceEqDiff, Nat.reduceAdd, Nat.reduceLeDiff, lk53, lk54, lk80, lk81, hlt2', nn, g1, r1, r2, r3, numsC_len, Nat.mul_one, Nat.zero_add]
      have hLow := low5 c c2 x (fun _ => 0) (seeM p l b i)
      refine dops_at (hg i b hlt2 hlt _ rfl hLow) rfl rfl (by first | exact wk_refls _ | (repeat constructor)) (by kernel_rfl) ?_
      simp (maxSteps := 2000000) only [go_sem, reduceIte, Nat.reduceEqDiff, Nat.reduceAdd, Nat.reduceLeDiff, lk53, lk54, lk80, lk81, w1, w2, w3, hlt2', nn, g1, r1, r2, r3, numsC_len, Nat.mul_one, Nat.zero_add]
      refine ⟨i + 1, hlt2, m1, ?_⟩
      refine ent_weaken [] (by simp only [numsC_set, seeM_upd rfl, List.append_nil, csC, trC]) rfl (show 2 ≤ 5 by decide) (by simp [AB.low, numsC_low, csC, trC, C.lowL, C.low]) rfl ?_
      simp (maxSteps := 2000000) only [go_sem, reduceIte, Nat.reduceEqDiff, Nat.reduceAdd, Nat.reduceLT, lk53, lk54, lk80, lk81, csC, trC, ints]
      all_goals first | exact .refl _ | exact ⟨.refl _, .refl _⟩ | exact ⟨.refl _, .refl _, .refl _⟩ | exact ⟨.refl _, _, rfl⟩ | exact ⟨_, rfl⟩ | exact ⟨.refl _, [], by simp⟩ | exact ⟨[], by simp⟩
    · have hlt2' : ¬ (i : Int) < 3 := by omega
      have e : i = 3 := by omega
      subst e
      have w3 : wr .i64 ((b : Int) + 1) = ((b + 1 : Nat) : Int) := wr_succ hlt hlen
      simp (maxSteps := 2000000) only [go_sem, reduceIte, Nat.reduceEqDiff, Nat.reduceAdd, Nat.reduceSub, lk53, lk54, lk80, lk81, hlt2', w3]
      refine ⟨b + 1, hlt, m0, ?_⟩
      refine ent_weaken [] (by simp only [numsC, seeM_all, List.append_nil, csC, trC]) rfl (show 2 ≤ 5 by decide) (by simp [AB.low, numsC_low, csC, trC, C.lowL, C.low]) rfl ?_
      simp (maxSteps := 2000000) only [go_sem, reduceIte, Nat.reduceEqDiff, Nat.reduceAdd, Nat.reduceLT, lk53, lk54, lk80, lk81, csC, trC, ints]
      all_goals first | exact .refl _ | exact ⟨.refl _, .refl _⟩ | exact ⟨.refl _, .refl _, .refl _⟩ | exact ⟨.refl _, _, rfl⟩ | exact ⟨_, rfl⟩ | exact ⟨.refl _, [], by simp⟩ | exact ⟨[], by simp⟩
  · have hlt' : ¬ (b : Int) < l.length := by omega
    have e : b = l.length := by omega
    subst e
    simp (maxSteps := 2000000) only [go_sem, reduceIte, Nat.reduceEqDiff, Nat.reduceAdd, lk53, lk54, lk80, lk81, hlt', numsC3, th, seeF, csC, trC]
    all_goals first | exact .refl _ | exact ⟨.refl _, .refl _⟩ | exact ⟨.refl _, .refl _, .refl _⟩ | exact ⟨.refl _, _, rfl⟩ | exact ⟨_, rfl⟩ | exact ⟨.refl _, [], by simp⟩ | exact ⟨[], by simp⟩

/-- The products. -/
def pX (x : Tr) (i b : Nat) : Int := x.e i b * x.l b
def pL (c : Cs) (i b : Nat) : Int := (c.e i b).lo * (c.l b).lo
def pH (c : Cs) (i b : Nat) : Int := (c.e i b).hi * (c.l b).hi
theorem prod_bound {x y : Int} (hx : 0 ≤ x ∧ x ≤ 100) (hy : 0 ≤ y ∧ y ≤ 100) : 0 ≤ x * y ∧ x * y ≤ 10000 := by
  refine ⟨Int.mul_nonneg hx.1 hy.1, ?_⟩
  have h1 := Int.mul_le_mul_of_nonneg_right hx.2 hy.1
  omega
theorem OkC.okL {c : Cs} (h : OkC c) (n : Nat) : PrOk n (pL c) := fun i b _ _ => prod_bound (by have := h.be i b; omega) (by have := h.bl b; omega)
theorem OkC.okH {c : Cs} (h : OkC c) (n : Nat) : PrOk n (pH c) := fun i b _ _ => prod_bound (by have := h.be i b; omega) (by have := h.bl b; omega)
theorem OkC.okLH {c : Cs} (h : OkC c) (i b : Nat) : pL c i b ≤ pH c i b := by
  have h1 := h.be i b; have h2 := h.bl b
  exact Int.mul_le_mul (by omega) (by omega) (by omega) (by omega)
theorem OkT.okX {c : Cs} {x : Tr} (hc : OkC c) (h : OkT c x) {n : Nat} (hn : n ≤ c.lamp.length) : PrOk n (pX x) := fun i b hi hb =>
  prod_bound (by have := h.be i b hi (by omega); have := hc.be i b; omega) (by have := h.bl b (by omega); have := hc.bl b; omega)

set_option maxHeartbeats 1000000 in
theorem num54 {c : Cs} (x : Tr) (hc : OkC c) (hT : OkT c x) (i b : Nat) (hi : i < 3) (hb : b < c.lamp.length) (H : List AB) (h1 : H[1]? = some (.cells (trC x))) (hH : H.all (AB.low H.length) = true) : ACall Try.prog 54 [I i, I b, .c (.ptr 1 0)] H (one (I (pX x i b)) H) := by
  have hlt := (List.getElem?_eq_some_iff.1 h1).1
  refine acall_atE (bad := []) (kp := kp54) (X := tx) (nt := 20) (rs := [.tmp 5]) Try.func54 rfl rfl rfl rfl mo (by kernel_rfl) ?_ hH (fun hf => ?_)
  · rfl
  obtain ⟨row, hr⟩ := get_of_lt (show i < x.eye.length by rw [hT.e3]; exact hi)
  have hrl := hT.er row (List.mem_of_getElem? hr)
  have g1 := Tr.e_at hr (b := b) (by omega)
  have g2 := Tr.l_lt (c := x) (b := b) (by rw [hT.ln]; exact hb)
  have b1 := (OkT.okX hc hT (Nat.le_refl _)) i b hi hb
  have w : wr .i64 (x.e i b * x.l b) = pX x i b := by rw [wr_i64] <;> unfold pX at b1 <;> first | rfl | omega
  have k1 : (i : Int) < x.eye.length := by rw [hT.e3]; omega
  have k2 : (b : Int) < row.length := by omega
  have k3 : (b : Int) < x.lamp.length := by rw [hT.ln]; omega
  simp (maxSteps := 2000000) only [go_sem, reduceIte, Nat.reduceEqDiff, Nat.reduceAdd, Nat.reduceLeDiff, Nat.reduceBEq, lk53, lk54, lk80, lk81, h1, hr, rowI, trC, iD, g1, g2, w, k1, k2, k3, nn]
  all_goals first | exact .refl _ | exact ⟨.refl _, .refl _⟩ | exact ⟨.refl _, .refl _, .refl _⟩ | exact ⟨.refl _, _, rfl⟩ | exact ⟨_, rfl⟩ | exact ⟨.refl _, [], by simp⟩ | exact ⟨[], by simp⟩

set_option maxHeartbeats 1000000 in
theorem low80 (c : Cs) (hc : OkC c) (i b : Nat) (hi : i < 3) (hb : b < c.lamp.length) : Pure Try.prog 80 [csV c, I i, I b] (I (pL c i b)) := by
  refine pure_wkE (bad := []) (kp := kp80) (X := tx) (nt := 25) (rs := [.tmp 6]) Try.func80 rfl rfl rfl rfl mo (by kernel_rfl) rfl rfl (fun hf => ?_)
  obtain ⟨row, hr, hrl⟩ := hc.row hi
  have g1 := Cs.e_at hr (b := b) (by omega)
  have g2 := Cs.l_lt hb
  have b1 := hc.okL (b + 1) i b hi (by omega)
  have w : wr .i64 ((c.e i b).lo * (c.l b).lo) = pL c i b := by rw [wr_i64] <;> unfold pL at b1 <;> first | rfl | omega
  have k1 : (i : Int) < c.eye.length := by rw [hc.e3]; omega
  have k2 : (b : Int) < row.length := by omega
  have k3 : (b : Int) < c.lamp.length := by omega
  simp (maxSteps := 2000000) only [go_sem, reduceIte, Nat.reduceEqDiff, Nat.reduceAdd, Nat.reduceLeDiff, Nat.reduceBEq, lk53, lk54, lk80, lk81, csV, csC, hr, rowR, rgD, g1, g2, w, k1, k2, k3, nn]

set_option maxHeartbeats 1000000 in
theorem high81 (c : Cs) (hc : OkC c) (i b : Nat) (hi : i < 3) (hb : b < c.lamp.length) : Pure Try.prog 81 [csV c, I i, I b] (I (pH c i b)) := by
  refine pure_wkE (bad := []) (kp := kp81) (X := tx) (nt := 25) (rs := [.tmp 6]) Try.func81 rfl rfl rfl rfl mo (by kernel_rfl) rfl rfl (fun hf => ?_)
  obtain ⟨row, hr, hrl⟩ := hc.row hi
  have g1 := Cs.e_at hr (b := b) (by omega)
  have g2 := Cs.l_lt hb
  have b1 := hc.okH (b + 1) i b hi (by omega)
  have w : wr .i64 ((c.e i b).hi * (c.l b).hi) = pH c i b := by rw [wr_i64] <;> unfold pH at b1 <;> first | rfl | omega
  have k1 : (i : Int) < c.eye.length := by rw [hc.e3]; omega
  have k2 : (b : Int) < row.length := by omega
  have k3 : (b : Int) < c.lamp.length := by omega
  simp (maxSteps := 2000000) only [go_sem, reduceIte, Nat.reduceEqDiff, Nat.reduceAdd, Nat.reduceLeDiff, Nat.reduceBEq, lk53, lk54, lk80, lk81, csV, csC, hr, rowR, rgD, g1, g2, w, k1, k2, k3, nn]
end Go.Proofs.Ytjkpfojkkfopmaa
