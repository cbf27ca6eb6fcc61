/- Dyes: bands and costs of recipes. -/
import Derived.Test.YtkbnmanfoejoiaaNA
set_option linter.unusedSimpArgs false
set_option linter.unusedVariables false
set_option maxRecDepth 100000
namespace Go.Proofs.Ytkbnmanfoejoiaa
open Go Go.Abs Go.Proofs
def kp40 : List (Nat × List Nat) := [(0, [0, 1, 4]), (1, [0, 1, 4, 6]), (2, [0, 1, 4, 6, 7]), (3, [1, 4, 6, 7, 10, 11, 12]), (4, [1, 4, 6, 7, 10, 11, 12, 13]), (5, [1, 4, 6, 7, 8, 9, 10, 11, 12]), (6, [1, 4, 6, 7, 8, 9, 10, 11, 12]), (7, [1, 4, 6, 7, 10, 11, 12]), (8, [1, 4, 6, 7, 10, 11, 12]), (9, [4, 5])]
theorem lk40 : lookK kp40 0 = some [0, 1, 4] ∧ lookK kp40 1 = some [0, 1, 4, 6] ∧ lookK kp40 2 = some [0, 1, 4, 6, 7] ∧ lookK kp40 3 = some [1, 4, 6, 7, 10, 11, 12] ∧ lookK kp40 4 = some [1, 4, 6, 7, 10, 11, 12, 13] ∧ lookK kp40 5 = some [1, 4, 6, 7, 8, 9, 10, 11, 12] ∧ lookK kp40 6 = some [1, 4, 6, 7, 8, 9, 10, 11, 12] ∧ lookK kp40 7 = some [1, 4, 6, 7, 10, 11, 12] ∧ lookK kp40 8 = some [1, 4, 6, 7, 10, 11, 12] ∧ lookK kp40 9 = some [4, 5] := ⟨rfl, rfl, rfl, rfl, rfl, rfl, rfl, rfl, rfl, rfl⟩
def kp42 : List (Nat × List Nat) := [(0, [0, 1]), (1, [0, 1, 7, 8, 9]), (2, [0, 1, 7, 8, 9, 10]), (3, [0, 1, 7, 8, 9, 10, 14]), (4, [0, 1, 7, 8, 9, 10]), (5, [0, 1, 7, 8, 9, 10]), (6, [0, 1, 7, 8, 9, 10]), (7, [0, 1, 7, 8, 9, 10]), (8, [4, 5, 6])]
theorem lk42 : lookK kp42 0 = some [0, 1] ∧ lookK kp42 1 = some [0, 1, 7, 8, 9] ∧ lookK kp42 2 = some [0, 1, 7, 8, 9, 10] ∧ lookK kp42 3 = some [0, 1, 7, 8, 9, 10, 14] ∧ lookK kp42 4 = some [0, 1, 7, 8, 9, 10] ∧ lookK kp42 5 = some [0, 1, 7, 8, 9, 10] ∧ lookK kp42 6 = some [0, 1, 7, 8, 9, 10] ∧ lookK kp42 7 = some [0, 1, 7, 8, 9, 10] ∧ lookK kp42 8 = some [4, 5, 6] := ⟨rfl, rfl, rfl, rfl, rfl, rfl, rfl, rfl, rfl⟩
def kp44 : List (Nat × List Nat) := [(0, [2, 3]), (1, [2, 5, 6]), (2, [4])]
theorem lk44 : lookK kp44 0 = some [2, 3] ∧ lookK kp44 1 = some [2, 5, 6] ∧ lookK kp44 2 = some [4] := ⟨rfl, rfl, rfl⟩
def kp45 : List (Nat × List Nat) := [(0, [0, 3]), (1, [4])]
theorem lk45 : lookK kp45 0 = some [0, 3] ∧ lookK kp45 1 = some [4] := ⟨rfl, rfl⟩
def kp63 : List (Nat × List Nat) := [(0, [2, 3, 4, 6]), (1, [6])]
theorem lk63 : lookK kp63 0 = some [2, 3, 4, 6] ∧ lookK kp63 1 = some [6] := ⟨rfl, rfl⟩

def gI (l : List Int) (b : Nat) : Int := l.getD b 0
theorem gI_get {l : List Int} {b : Nat} {x : Int} (h : l[b]? = some x) : gI l b = x := by simp [gI, List.getD, h]
theorem gI_lt {l : List Int} {b : Nat} (h : b < l.length) : l[b]? = some (gI l b) := by obtain ⟨x, hx⟩ := get_of_lt h; rw [gI_get hx, hx]
def dy0 : Dy := ⟨0, 0, 0, 0⟩
def gD (l : List Dy) (b : Nat) : Dy := l.getD b dy0
theorem gD_get {l : List Dy} {b : Nat} {x : Dy} (h : l[b]? = some x) : gD l b = x := by simp [gD, List.getD, h]
theorem gD_lt {l : List Dy} {b : Nat} (h : b < l.length) : l[b]? = some (gD l b) := by obtain ⟨x, hx⟩ := get_of_lt h; rw [gD_get hx, hx]
def sumF (f : Nat → Int) : Nat → Int
  | 0 => 0
  | n + 1 => sumF f n + f n
theorem sumF_bound {f : Nat → Int} {m : Int} : ∀ {n : Nat}, (∀ b, b < n → 0 ≤ f b ∧ f b ≤ m) → 0 ≤ sumF f n ∧ sumF f n ≤ m * n
  | 0, _ => by simp [sumF]
  | n + 1, h => by
    have ih := sumF_bound (f := f) (m := m) (n := n) (fun b hb => h b (by omega))
    have h1 := h n (by omega)
    have e : m * ((n + 1 : Nat) : Int) = m * n + m := by rw [Int.natCast_succ, Int.mul_add, Int.mul_one]
    simp only [sumF]; omega
def sA (l : List Dy) (r : List Int) (n : Nat) : Int := sumF (fun i => gI r i * (gD l i).a) n
def sB (l : List Dy) (r : List Int) (n : Nat) : Int := sumF (fun i => gI r i * (gD l i).b) n
def sP (l : List Dy) (r : List Int) (n : Nat) : Int := sumF (fun i => gI r i * (gD l i).p) n
theorem mulb {g a m k : Int} (h0 : 0 ≤ g) (h1 : g ≤ k) (a0 : 0 ≤ a) (a1 : a ≤ m) : 0 ≤ g * a ∧ g * a ≤ k * m := by
  refine ⟨Int.mul_nonneg h0 a0, ?_⟩
  exact Int.mul_le_mul h1 a1 a0 (by omega)
/-- A recipe for a shelf. -/
structure OkR (l : List Dy) (r : List Int) : Prop where
  ln : r.length = l.length
  b : ∀ x ∈ r, 0 ≤ x ∧ x ≤ 20
theorem okRec_iff (l : List Dy) (r : List Int) : okRec l r = 0 ↔ OkR l r := by
  unfold okRec
  constructor
  · intro h
    by_cases h1 : r.length = l.length
    · rw [if_pos h1] at h
      by_cases h2 : recB r = true
      · exact ⟨h1, fun x hx => by have := List.all_eq_true.1 h2 x hx; simpa using this⟩
      · rw [if_neg h2] at h; cases h
    · rw [if_neg h1] at h; cases h
  · intro h
    have h2 : recB r = true := List.all_eq_true.2 fun x hx => by have := h.b x hx; simpa using this
    rw [if_pos h.ln, if_pos h2]
theorem OkR.g {l : List Dy} {r : List Int} (h : OkR l r) {i : Nat} (hi : i < l.length) : 0 ≤ gI r i ∧ gI r i ≤ 20 := h.b _ (List.mem_of_getElem? (gI_lt (by rw [h.ln]; exact hi)))
theorem OkL.g {l : List Dy} (h : OkL l) {i : Nat} (hi : i < l.length) : OkD (gD l i) := h.ok _ (List.mem_of_getElem? (gD_lt hi))
theorem s_bounds {l : List Dy} {r : List Int} (hl : OkL l) (hr : OkR l r) {n : Nat} (hn : n ≤ l.length) : (0 ≤ sA l r n ∧ sA l r n ≤ 960) ∧ (0 ≤ sB l r n ∧ sB l r n ≤ 960) ∧ (0 ≤ sP l r n ∧ sP l r n ≤ 160000000) := by
  have h8 := hl.n8
  have k1 : ∀ i, i < n → 0 ≤ gI r i * (gD l i).a ∧ gI r i * (gD l i).a ≤ 120 := fun i hi => by
    have h1 := hr.g (show i < l.length by omega)
    have h2 := hl.g (show i < l.length by omega)
    exact mulb h1.1 h1.2 h2.a0 h2.a6
  have k2 : ∀ i, i < n → 0 ≤ gI r i * (gD l i).b ∧ gI r i * (gD l i).b ≤ 120 := fun i hi => by
    have h1 := hr.g (show i < l.length by omega)
    have h2 := hl.g (show i < l.length by omega)
    exact mulb h1.1 h1.2 h2.b0 h2.b6
  have k3 : ∀ i, i < n → 0 ≤ gI r i * (gD l i).p ∧ gI r i * (gD l i).p ≤ 20000000 := fun i hi => by
    have h1 := hr.g (show i < l.length by omega)
    have h2 := hl.g (show i < l.length by omega)
    exact mulb h1.1 h1.2 h2.p0 h2.p6
  have b1 := sumF_bound k1
  have b2 := sumF_bound k2
  have b3 := sumF_bound k3
  unfold sA sB sP
  omega
theorem wr_in {x : Int} (h : -1000000000000000 ≤ x ∧ x ≤ 1000000000000000) : wr .i64 x = x := by rw [wr_i64] <;> omega
set_option maxHeartbeats 1000000 in
theorem plus63 (x y g : Int) (d : Dy) (w1 : wr .i64 (g * d.a) = g * d.a) (w2 : wr .i64 (g * d.b) = g * d.b) (w3 : wr .i64 (x + g * d.a) = x + g * d.a) (w4 : wr .i64 (y + g * d.b) = y + g * d.b) :
    Pure Try.prog 63 [spV x y, dyV d, I g] (spV (x + g * d.a) (y + g * d.b)) := by
  refine pure_wkE (bad := []) (kp := kp63) (X := tx) (nt := 24) (rs := [.cell 6 69]) Try.func63 rfl rfl rfl rfl mo (by kernel_rfl) rfl rfl (fun hf => ?_)
  simp (maxSteps := 2000000) only [go_sem, reduceIte, Nat.reduceEqDiff, Nat.reduceAdd, Nat.reduceLeDiff, Nat.reduceBEq, Nat.reduceMul, Int.reduceLT, Int.reduceLE, Int.reduceToNat, lk40, lk42, lk44, lk45, lk63, spV, spC, dyV, dyC, w1, w2, w3, w4]
set_option maxHeartbeats 4000000 in
theorem sums42 (l : List Dy) (r : List Int) (hl : OkL l) (hr : OkR l r) : Pure Try.prog 42 [dys l, ints r] (.tup [I (sA l r l.length), I (sB l r l.length), I (sP l r l.length)]) := by
  refine pure_wkE (bad := []) (kp := kp42) (X := tx) (nt := 58) (rs := [.tmp 4, .tmp 5, .tmp 6]) Try.func42 rfl rfl rfl rfl mo (by kernel_rfl) rfl rfl (fun hf => ?_)
  have h8 := hl.n8
  have hln := hr.ln
  simp (maxSteps := 2000000) only [go_sem, reduceIte, Nat.reduceEqDiff, Nat.reduceAdd, lk40, lk42, lk44, lk45, lk63, dys, ints]
  refine goE_loop (bad := []) (kp := kp42) (fun i : Nat => { slots := [(0, dys l), (1, ints r), (7, I (sA l r i)), (8, I (sB l r i)), (9, I (sP l r i)), (10, I i)], heap := [], marks := [] }) (fun i => i ≤ l.length) (fun i => l.length - i) 0 mo (by kernel_rfl) ?_ (Nat.zero_le _) ?_
  · refine ent_weaken [] rfl rfl (Nat.zero_le _) rfl rfl ?_
    simp (maxSteps := 2000000) only [go_sem, reduceIte, Nat.reduceEqDiff, lk40, lk42, lk44, lk45, lk63, dys, ints, sA, sB, sP, sumF]
    all_goals first | exact .refl _ | exact ⟨.refl _, .refl _⟩ | exact ⟨.refl _, .refl _, .refl _⟩ | exact ⟨.refl _, _, rfl⟩ | exact ⟨_, rfl⟩ | exact ⟨.refl _, [], by simp⟩ | exact ⟨[], by simp⟩
  rintro i hi
  simp (maxSteps := 2000000) only [go_sem, reduceIte, Nat.reduceEqDiff, Nat.reduceAdd, lk40, lk42, lk44, lk45, lk63, dys, ints]
  by_cases hlt : i < l.length
  · have hlt' : (i : Int) < l.length := by omega
    have hltr : (i : Int) < r.length := by omega
    have g1 := gD_lt hlt
    have g2 := gI_lt (l := r) (b := i) (by omega)
    have o1 := hl.g hlt
    have o2 := hr.g hlt
    have q1 := mulb o2.1 o2.2 o1.a0 o1.a6
    have q2 := mulb o2.1 o2.2 o1.b0 o1.b6
    have q3 := mulb o2.1 o2.2 o1.p0 o1.p6
    have s1 := s_bounds hl hr (n := i) hi
    have s2 := s_bounds hl hr (n := i + 1) hlt
    have m1 : l.length - (i + 1) < l.length - i := by omega
    have w1 : wr .i64 (gI r i * (gD l i).a) = gI r i * (gD l i).a := wr_in (by omega)
    have w2 : wr .i64 (gI r i * (gD l i).b) = gI r i * (gD l i).b := wr_in (by omega)
    have w3 : wr .i64 (gI r i * (gD l i).p) = gI r i * (gD l i).p := wr_in (by omega)
    have w4 : wr .i64 (sA l r i + gI r i * (gD l i).a) = sA l r (i + 1) := wr_in (x := sA l r (i + 1)) (by omega)
    have w5 : wr .i64 (sB l r i + gI r i * (gD l i).b) = sB l r (i + 1) := wr_in (x := sB l r (i + 1)) (by omega)
    have w6 : wr .i64 (sP l r i + gI r i * (gD l i).p) = sP l r (i + 1) := wr_in (x := sP l r (i + 1)) (by omega)
    have w7 : wr .i64 ((i : Int) + 1) = ((i + 1 : Nat) : Int) := wr_succ hlt (Nat.le_trans h8 (by decide))
    simp (maxSteps := 2000000) only [go_sem, reduceIte, Nat.reduceEqDiff, Nat.reduceAdd, Nat.reduceLeDiff, Nat.reduceBEq, Nat.reduceMul, Int.reduceLT, Int.reduceLE, Int.reduceToNat, lk40, lk42, lk44, lk45, lk63, hlt', hltr, g1, g2, iD, dyD, nn, w1, w2, w3, w4, w5, w6, w7]
    refine ⟨i + 1, hlt, m1, ?_⟩
    refine ent_weaken [] rfl rfl (Nat.zero_le _) rfl rfl ?_
    simp (maxSteps := 2000000) only [go_sem, reduceIte, Nat.reduceEqDiff, lk40, lk42, lk44, lk45, lk63, dys, ints]
    all_goals first | exact .refl _ | exact ⟨.refl _, .refl _⟩ | exact ⟨.refl _, .refl _, .refl _⟩ | exact ⟨.refl _, _, rfl⟩ | exact ⟨_, rfl⟩ | exact ⟨.refl _, [], by simp⟩ | exact ⟨[], by simp⟩
  · have hlt' : ¬ (i : Int) < l.length := by omega
    have e : i = l.length := by omega
    subst e
    simp (maxSteps := 2000000) only [go_sem, reduceIte, Nat.reduceEqDiff, Nat.reduceAdd, lk40, lk42, lk44, lk45, lk63, hlt']
set_option maxHeartbeats 4000000 in
theorem mix40 (l : List Dy) (r : List Int) (hl : OkL l) (hr : OkR l r) : Pure Try.prog 40 [dys l, ints r] (.tup [spV (sA l r l.length) (sB l r l.length), I (sP l r l.length)]) := by
  refine pure_wkE (bad := []) (kp := kp40) (X := tx) (nt := 36) (rs := [.cell 4 69, .tmp 5]) Try.func40 rfl rfl rfl rfl mo (by kernel_rfl) rfl rfl (fun hf => ?_)
  have h8 := hl.n8
  have hln := hr.ln
  simp (maxSteps := 2000000) only [go_sem, reduceIte, Nat.reduceEqDiff, Nat.reduceAdd, lk40, lk42, lk44, lk45, lk63, dys, ints]
  refine goE_loop (bad := []) (kp := kp40) (fun i : Nat => { slots := [(1, ints r), (4, .c (.ptr 0 0)), (6, .c (.ptr 1 0)), (7, I (sP l r i)), (10, dys l), (11, I l.length), (12, I i)], heap := [.cells (spC 0 0), .cells (spC (sA l r i) (sB l r i))], marks := [] }) (fun i => i ≤ l.length) (fun i => l.length - i) 0 mo (by kernel_rfl) ?_ (Nat.zero_le _) ?_
  · refine ent_weaken [] rfl rfl (Nat.zero_le _) rfl rfl ?_
    simp (maxSteps := 2000000) only [go_sem, reduceIte, Nat.reduceEqDiff, Nat.reduceAdd, Nat.reduceLT, lk40, lk42, lk44, lk45, lk63, dys, ints, sA, sB, sP, sumF, spC]
    all_goals first | exact .refl _ | exact ⟨.refl _, .refl _⟩ | exact ⟨.refl _, .refl _, .refl _⟩ | exact ⟨.refl _, _, rfl⟩ | exact ⟨_, rfl⟩ | exact ⟨.refl _, [], by simp⟩ | exact ⟨[], by simp⟩
  rintro i hi
  simp (maxSteps := 2000000) only [go_sem, reduceIte, Nat.reduceEqDiff, Nat.reduceAdd, lk40, lk42, lk44, lk45, lk63, dys, ints, spC]
  by_cases hlt : i < l.length
  · have hlt' : (i : Int) < l.length := by omega
    have hltr : (i : Int) < r.length := by omega
    have g1 := gD_lt hlt
    have g2 := gI_lt (l := r) (b := i) (by omega)
    have o1 := hl.g hlt
    have o2 := hr.g hlt
    have q1 := mulb o2.1 o2.2 o1.a0 o1.a6
    have q2 := mulb o2.1 o2.2 o1.b0 o1.b6
    have q3 := mulb o2.1 o2.2 o1.p0 o1.p6
    have s1 := s_bounds hl hr (n := i) hi
    have s2 := s_bounds hl hr (n := i + 1) hlt
    have m1 : l.length - (i + 1) < l.length - i := by omega
    have w1 : wr .i64 (gI r i * (gD l i).a) = gI r i * (gD l i).a := wr_in (by omega)
    have w2 : wr .i64 (gI r i * (gD l i).b) = gI r i * (gD l i).b := wr_in (by omega)
    have w3 : wr .i64 (gI r i * (gD l i).p) = gI r i * (gD l i).p := wr_in (by omega)
    have w4 : wr .i64 (sA l r i + gI r i * (gD l i).a) = sA l r i + gI r i * (gD l i).a := wr_in (by omega)
    have w5 : wr .i64 (sB l r i + gI r i * (gD l i).b) = sB l r i + gI r i * (gD l i).b := wr_in (by omega)
    have w6 : wr .i64 (sP l r i + gI r i * (gD l i).p) = sP l r (i + 1) := wr_in (x := sP l r (i + 1)) (by omega)
    have w7 : wr .i64 ((i : Int) + 1) = ((i + 1 : Nat) : Int) := wr_succ hlt (Nat.le_trans h8 (by decide))
    have hp := plus63 (sA l r i) (sB l r i) (gI r i) (gD l i) w1 w2 w4 w5
    simp (maxSteps := 2000000) only [go_sem, reduceIte, Nat.reduceEqDiff, Nat.reduceAdd, lk40, lk42, lk44, lk45, lk63, hlt', hltr, g1, g2, iD, dyD, nn]
    unfold spV spC dyV dyC at hp
    refine dops_pure' (hp) rfl rfl (by first | exact wk_refls _ | (repeat constructor)) (by kernel_rfl) ?_
    simp (maxSteps := 2000000) only [go_sem, reduceIte, Nat.reduceEqDiff, Nat.reduceAdd, Nat.reduceLeDiff, Nat.reduceBEq, lk40, lk42, lk44, lk45, lk63, hlt', hltr, g1, g2, iD, dyD, nn, spV, spC, w3, w6, w7]
    refine ⟨i + 1, hlt, m1, ?_⟩
    refine ent_weaken [.cells (dyC (gD l i))] rfl rfl (Nat.zero_le _) rfl rfl ?_
    simp (maxSteps := 2000000) only [go_sem, reduceIte, Nat.reduceEqDiff, Nat.reduceAdd, Nat.reduceLT, lk40, lk42, lk44, lk45, lk63, dys, ints, spC]
    all_goals first | exact .refl _ | exact ⟨.refl _, .refl _⟩ | exact ⟨.refl _, .refl _, .refl _⟩ | exact ⟨.refl _, _, rfl⟩ | exact ⟨_, rfl⟩ | exact ⟨.refl _, [], by simp⟩ | exact ⟨[], by simp⟩
  · have hlt' : ¬ (i : Int) < l.length := by omega
    have e : i = l.length := by omega
    subst e
    simp (maxSteps := 2000000) only [go_sem, reduceIte, Nat.reduceEqDiff, Nat.reduceAdd, lk40, lk42, lk44, lk45, lk63, hlt', spV, spC]
    all_goals first | exact .refl _ | exact ⟨.refl _, .refl _⟩ | exact ⟨.refl _, .refl _, .refl _⟩ | exact ⟨.refl _, _, rfl⟩ | exact ⟨_, rfl⟩ | exact ⟨.refl _, [], by simp⟩ | exact ⟨[], by simp⟩
end Go.Proofs.Ytkbnmanfoejoiaa
/- Dyes: wants. -/
set_option linter.unusedSimpArgs false
set_option linter.unusedVariables false
set_option maxRecDepth 100000
namespace Go.Proofs.Ytkbnmanfoejoiaa
open Go Go.Abs Go.Proofs
def kp26 : List (Nat × List Nat) := [(0, [0, 3]), (1, [0, 3, 9]), (2, [4]), (3, [3, 5]), (4, [3, 5, 13]), (5, [3, 5]), (6, [3, 5, 6]), (7, [3, 5, 34]), (8, [4]), (9, [42]), (10, [4]), (11, [4])]
theorem lk26 : lookK kp26 0 = some [0, 3] ∧ lookK kp26 1 = some [0, 3, 9] ∧ lookK kp26 2 = some [4] ∧ lookK kp26 3 = some [3, 5] ∧ lookK kp26 4 = some [3, 5, 13] ∧ lookK kp26 5 = some [3, 5] ∧ lookK kp26 6 = some [3, 5, 6] ∧ lookK kp26 7 = some [3, 5, 34] ∧ lookK kp26 8 = some [4] ∧ lookK kp26 9 = some [42] ∧ lookK kp26 10 = some [4] ∧ lookK kp26 11 = some [4] := ⟨rfl, rfl, rfl, rfl, rfl, rfl, rfl, rfl, rfl, rfl, rfl, rfl⟩
def kp43 : List (Nat × List Nat) := [(0, [0, 3]), (1, [3, 5]), (2, [3, 5, 9]), (3, [4]), (4, [20]), (5, [4]), (6, [4])]
theorem lk43 : lookK kp43 0 = some [0, 3] ∧ lookK kp43 1 = some [3, 5] ∧ lookK kp43 2 = some [3, 5, 9] ∧ lookK kp43 3 = some [4] ∧ lookK kp43 4 = some [20] ∧ lookK kp43 5 = some [4] ∧ lookK kp43 6 = some [4] := ⟨rfl, rfl, rfl, rfl, rfl, rfl, rfl⟩

theorem bad65w (top : Int) (w : Wn) (r : Rg) : ACall Try.prog 65 [rgV r, .c (.ptr 1 0)] [.cells (wnC w), .cells [.d (.int .i64 top)]] (Go.Abs.one (B (!rgB top r)) [.cells (wnC w), .cells [.d (.int .i64 top)]]) := by
  refine acall_atE (bad := []) (kp := kp65) (X := tx) (nt := 20) (rs := [.tmp 3]) Try.func65 rfl rfl rfl rfl mo (by kernel_rfl) rfl rfl (fun hf => ?_)
  by_cases h1 : r.lo < 0
  · have e : rgB top r = false := by simp [rgB, h1]
    simp (maxSteps := 2000000) only [go_sem, reduceIte, Nat.reduceEqDiff, Nat.reduceAdd, Nat.reduceLeDiff, Nat.reduceBEq, lk26, lk43, lk65, rgV, rgC, wnC, h1, e]
    all_goals first | exact .refl _ | exact ⟨.refl _, .refl _⟩ | exact ⟨.refl _, .refl _, .refl _⟩ | exact ⟨.refl _, _, rfl⟩ | exact ⟨_, rfl⟩ | exact ⟨.refl _, [], by simp⟩ | exact ⟨[], by simp⟩
  · by_cases h2 : r.hi < r.lo
    · have e : rgB top r = false := by simp [rgB, h2]
      simp (maxSteps := 2000000) only [go_sem, reduceIte, Nat.reduceEqDiff, Nat.reduceAdd, Nat.reduceLeDiff, Nat.reduceBEq, lk26, lk43, lk65, rgV, rgC, wnC, h1, h2, e]
      all_goals first | exact .refl _ | exact ⟨.refl _, .refl _⟩ | exact ⟨.refl _, .refl _, .refl _⟩ | exact ⟨.refl _, _, rfl⟩ | exact ⟨_, rfl⟩ | exact ⟨.refl _, [], by simp⟩ | exact ⟨[], by simp⟩
    · have e : rgB top r = !decide (top < r.hi) := by simp [rgB, h1, h2]
      simp (maxSteps := 2000000) only [go_sem, reduceIte, Nat.reduceEqDiff, Nat.reduceAdd, Nat.reduceLeDiff, Nat.reduceBEq, lk26, lk43, lk65, rgV, rgC, wnC, h1, h2, e, Bool.not_not]
      all_goals first | exact .refl _ | exact ⟨.refl _, .refl _⟩ | exact ⟨.refl _, .refl _, .refl _⟩ | exact ⟨.refl _, _, rfl⟩ | exact ⟨_, rfl⟩ | exact ⟨.refl _, [], by simp⟩ | exact ⟨[], by simp⟩
set_option maxHeartbeats 1000000 in
theorem idx76w (top : Int) (w : Wn) : ACall Try.prog 76 [.c (.ms 0 0 2 2), .c (.fn (.func 65) [.ptr 1 0])] [.cells (wnC w), .cells [.d (.int .i64 top)]] (Go.Abs.one (I (idxOf (fun r => !rgB top r) [w.x, w.y])) [.cells (wnC w), .cells [.d (.int .i64 top)]]) := by
  refine acall_at (X := tx) (nt := 19) (rs := [.tmp 4]) Try.func76 rfl rfl rfl rfl mo (by kernel_rfl) rfl rfl (fun hf => ?_)
  have hx := bad65w top w w.x
  have hy := bad65w top w w.y
  unfold rgV rgC wnC at hx hy
  simp (maxSteps := 2000000) only [go_sem, reduceIte, Nat.reduceEqDiff, Nat.reduceAdd, Int.reduceNeg, lk26, lk43, wnC]
  refine go_loop (fun i : Nat => { slots := [(0, .c (.ms 0 0 2 2)), (1, .c (.fn (.func 65) [.ptr 1 0])), (7, I 2), (8, I i)], heap := [.cells (wnC w), .cells [.d (.int .i64 top)]], marks := [] }) (fun i => i ≤ 2 ∧ (0 < i → rgB top w.x = true) ∧ (1 < i → rgB top w.y = true)) (fun i => 2 - i) 0 mo (by kernel_rfl) ?_ ⟨Nat.zero_le _, by omega, by omega⟩ ?_
  · refine ent_weaken [] rfl rfl (Nat.le_refl _) rfl rfl ?_
    simp (maxSteps := 2000000) only [go_sem, reduceIte, Nat.reduceEqDiff, Nat.reduceAdd, Nat.reduceLT, lk26, lk43, wnC]
    all_goals first | exact .refl _ | exact ⟨.refl _, .refl _⟩ | exact ⟨.refl _, .refl _, .refl _⟩ | exact ⟨.refl _, _, rfl⟩ | exact ⟨_, rfl⟩ | exact ⟨.refl _, [], by simp⟩ | exact ⟨[], by simp⟩
  rintro i ⟨hi, h1, h2⟩
  have hk3 : i = 0 ∨ i = 1 ∨ i = 2 := by omega
  rcases hk3 with rfl | rfl | rfl
  · simp (maxSteps := 2000000) only [go_sem, reduceIte, Nat.reduceEqDiff, Nat.reduceAdd, Nat.reduceLeDiff, Nat.reduceMul, Nat.reduceSub, Int.reduceNeg, Int.reduceLT, Int.reduceLE, Int.reduceToNat, lk26, lk43, wnC]
    refine aops_at (hx) rfl rfl (by first | exact wk_refls _ | (repeat constructor)) ?_
    cases hb : rgB top w.x with
    | false =>
      have e : idxOf (fun r => !rgB top r) [w.x, w.y] = 0 := by simp [idxOf, hb]
      rw [e]
      simp (maxSteps := 2000000) only [go_sem, reduceIte, Nat.reduceEqDiff, Int.reduceNeg, lk26, lk43, wnC]
      all_goals first | exact .refl _ | exact ⟨.refl _, .refl _⟩ | exact ⟨.refl _, .refl _, .refl _⟩ | exact ⟨.refl _, _, rfl⟩ | exact ⟨_, rfl⟩ | exact ⟨.refl _, [], by simp⟩ | exact ⟨[], by simp⟩
    | true =>
      have w0 : wr .i64 ((0 : Int) + 1) = 1 := by decide
      simp (maxSteps := 2000000) only [go_sem, reduceIte, Nat.reduceEqDiff, Int.reduceNeg, lk26, lk43, wnC, w0]
      refine ⟨1, ⟨by decide, fun h => absurd h (by decide)⟩, by decide, ?_⟩
      refine ent_weaken [] rfl rfl (Nat.le_refl _) rfl rfl ?_
      simp (maxSteps := 2000000) only [go_sem, reduceIte, Nat.reduceEqDiff, Nat.reduceAdd, Nat.reduceLT, lk26, lk43, wnC]
      all_goals first | exact .refl _ | exact ⟨.refl _, .refl _⟩ | exact ⟨.refl _, .refl _, .refl _⟩ | exact ⟨.refl _, _, rfl⟩ | exact ⟨_, rfl⟩ | exact ⟨.refl _, [], by simp⟩ | exact ⟨[], by simp⟩
  · simp (maxSteps := 2000000) only [go_sem, reduceIte, Nat.reduceEqDiff, Nat.reduceAdd, Nat.reduceLeDiff, Nat.reduceMul, Nat.reduceSub, Int.reduceNeg, Int.reduceLT, Int.reduceLE, Int.reduceToNat, lk26, lk43, wnC]
    refine aops_at (hy) rfl rfl (by first | exact wk_refls _ | (repeat constructor)) ?_
    cases hb : rgB top w.y with
    | false =>
      have e : idxOf (fun r => !rgB top r) [w.x, w.y] = 1 := by simp [idxOf, hb, h1 (by decide)]
      rw [e]
      simp (maxSteps := 2000000) only [go_sem, reduceIte, Nat.reduceEqDiff, Int.reduceNeg, lk26, lk43, wnC]
      all_goals first | exact .refl _ | exact ⟨.refl _, .refl _⟩ | exact ⟨.refl _, .refl _, .refl _⟩ | exact ⟨.refl _, _, rfl⟩ | exact ⟨_, rfl⟩ | exact ⟨.refl _, [], by simp⟩ | exact ⟨[], by simp⟩
    | true =>
      have w0 : wr .i64 ((1 : Int) + 1) = 2 := by decide
      simp (maxSteps := 2000000) only [go_sem, reduceIte, Nat.reduceEqDiff, Int.reduceNeg, lk26, lk43, wnC, w0]
      refine ⟨2, ⟨by decide, fun _ => h1 (by decide)⟩, by decide, ?_⟩
      refine ent_weaken [] rfl rfl (Nat.le_refl _) rfl rfl ?_
      simp (maxSteps := 2000000) only [go_sem, reduceIte, Nat.reduceEqDiff, Nat.reduceAdd, Nat.reduceLT, lk26, lk43, wnC]
      all_goals first | exact .refl _ | exact ⟨.refl _, .refl _⟩ | exact ⟨.refl _, .refl _, .refl _⟩ | exact ⟨.refl _, _, rfl⟩ | exact ⟨_, rfl⟩ | exact ⟨.refl _, [], by simp⟩ | exact ⟨[], by simp⟩
  · have e : idxOf (fun r => !rgB top r) [w.x, w.y] = -1 := by simp [idxOf, h1 (by decide), h2 (by decide)]
    rw [e]
    simp (maxSteps := 2000000) only [go_sem, reduceIte, Nat.reduceEqDiff, Nat.reduceSub, Int.reduceNeg, Int.reduceLT, lk26, lk43, wnC]
    all_goals first | exact .refl _ | exact ⟨.refl _, .refl _⟩ | exact ⟨.refl _, .refl _, .refl _⟩ | exact ⟨.refl _, _, rfl⟩ | exact ⟨_, rfl⟩ | exact ⟨.refl _, [], by simp⟩ | exact ⟨[], by simp⟩
theorem has64w (top : Int) (w : Wn) : ACall Try.prog 64 [.c (.ms 0 0 2 2), .c (.fn (.func 65) [.ptr 1 0])] [.cells (wnC w), .cells [.d (.int .i64 top)]] (Go.Abs.one (B ([w.x, w.y].any (fun r => !rgB top r))) [.cells (wnC w), .cells [.d (.int .i64 top)]]) := by
  refine acall_at (X := tx) (nt := 9) (rs := [.tmp 4]) Try.func64 rfl rfl rfl rfl mo (by kernel_rfl) rfl rfl (fun hf => ?_)
  have h := idx76w top w
  unfold wnC at h
  simp (maxSteps := 2000000) only [go_sem, reduceIte, Nat.reduceEqDiff, Nat.reduceAdd, lk26, lk43, wnC]
  refine aops_at (h) rfl rfl (by first | exact wk_refls _ | (repeat constructor)) ?_
  simp (maxSteps := 2000000) only [go_sem, reduceIte, Nat.reduceEqDiff, lk26, lk43]
  rw [idxOf_any]
  all_goals first | exact .refl _ | exact ⟨.refl _, .refl _⟩ | exact ⟨.refl _, .refl _, .refl _⟩ | exact ⟨.refl _, _, rfl⟩ | exact ⟨_, rfl⟩ | exact ⟨.refl _, [], by simp⟩ | exact ⟨[], by simp⟩
theorem within47w (top : Int) (w : Wn) : ACall Try.prog 47 [I top, .c (.ms 0 0 2 2)] [.cells (wnC w)] (Go.Abs.one (B (rgB top w.x && rgB top w.y)) [.cells (wnC w)]) := by
  refine acall_atE (bad := []) (kp := kp47) (X := tx) (nt := 9) (rs := [.tmp 4]) Try.func47 rfl rfl rfl rfl mo (by kernel_rfl) rfl rfl (fun hf => ?_)
  have h := has64w top w
  unfold wnC at h
  simp (maxSteps := 2000000) only [go_sem, reduceIte, Nat.reduceEqDiff, Nat.reduceAdd, lk26, lk43, lk47, wnC]
  refine aops_at (h) rfl rfl (by first | exact wk_refls _ | (repeat constructor)) ?_
  simp (maxSteps := 2000000) only [go_sem, reduceIte, Nat.reduceEqDiff, lk26, lk43, lk47]
  have ea : (!([w.x, w.y].any fun r => !rgB top r)) = (rgB top w.x && rgB top w.y) := by simp
  rw [ea]
  all_goals first | exact .refl _ | exact ⟨.refl _, .refl _⟩ | exact ⟨.refl _, .refl _, .refl _⟩ | exact ⟨.refl _, _, rfl⟩ | exact ⟨_, rfl⟩ | exact ⟨.refl _, [], by simp⟩ | exact ⟨[], by simp⟩
def okWn (l : List Dy) (w : Wn) : Int := if okShelf l = 0 then (if rgB 20 w.x && rgB 20 w.y && fastB w.f then 0 else 2) else okShelf l
structure OkW (w : Wn) : Prop where
  x0 : 0 ≤ w.x.lo
  x1 : w.x.lo ≤ w.x.hi
  x2 : w.x.hi ≤ 20
  y0 : 0 ≤ w.y.lo
  y1 : w.y.lo ≤ w.y.hi
  y2 : w.y.hi ≤ 20
  f1 : 1 ≤ w.f
  f8 : w.f ≤ 8
theorem okWn_iff (l : List Dy) (w : Wn) : okWn l w = 0 ↔ OkL l ∧ OkW w := by
  unfold okWn
  have hb : (rgB 20 w.x && rgB 20 w.y && fastB w.f) = true ↔ OkW w := by
    rw [Bool.and_eq_true, Bool.and_eq_true, rgB_iff, rgB_iff]
    simp only [fastB, Bool.and_eq_true, decide_eq_true_eq]
    exact ⟨fun ⟨⟨h1, h2⟩, h3⟩ => ⟨h1.1, h1.2.1, h1.2.2, h2.1, h2.2.1, h2.2.2, h3.1, h3.2⟩, fun h => ⟨⟨⟨h.x0, h.x1, h.x2⟩, h.y0, h.y1, h.y2⟩, h.f1, h.f8⟩⟩
  by_cases h : okShelf l = 0
  · rw [if_pos h]
    by_cases h2 : (rgB 20 w.x && rgB 20 w.y && fastB w.f) = true
    · rw [if_pos h2]; exact ⟨fun _ => ⟨(okShelf_iff l).1 h, hb.1 h2⟩, fun _ => rfl⟩
    · rw [if_neg h2]; exact ⟨fun h3 => (by cases h3), fun h3 => absurd (hb.2 h3.2) h2⟩
  · rw [if_neg h]; exact ⟨fun h3 => absurd h3 h, fun h3 => absurd ((okShelf_iff l).2 h3.1) h⟩
set_option maxHeartbeats 2000000 in
theorem wanted43 (l : List Dy) (w : Wn) : Pure Try.prog 43 [dys l, wnV w] (I (okWn l w)) := by
  refine pure_wkE (bad := []) (kp := kp43) (X := tx) (nt := 21) (rs := [.tmp 4]) Try.func43 rfl rfl rfl rfl mo (by kernel_rfl) rfl rfl (fun hf => ?_)
  have hw := within47w 20 w
  unfold wnC at hw
  simp (maxSteps := 2000000) only [go_sem, reduceIte, Nat.reduceEqDiff, Nat.reduceAdd, lk26, lk43, wnV, wnC]
  refine aops_pure' (shelf18 l) rfl rfl (by first | exact wk_refls _ | (repeat constructor)) ?_
  by_cases h0 : okShelf l = 0
  case neg =>
    have e : okWn l w = okShelf l := by simp [okWn, h0]
    simp (maxSteps := 2000000) only [go_sem, reduceIte, Nat.reduceEqDiff, Nat.reduceAdd, lk26, lk43, h0, e]
  have e : okWn l w = if rgB 20 w.x && rgB 20 w.y && fastB w.f then 0 else 2 := by simp only [okWn]; rw [if_pos h0]
  simp (maxSteps := 2000000) only [go_sem, reduceIte, Nat.reduceEqDiff, Nat.reduceAdd, Nat.reduceBEq, lk26, lk43, h0]
  refine aops_at (hw) rfl rfl (by first | exact wk_refls _ | (repeat constructor)) ?_
  generalize (rgB 20 w.x && rgB 20 w.y) = A at *
  cases A with
  | false => simp (maxSteps := 2000000) only [go_sem, reduceIte, Nat.reduceEqDiff, Nat.reduceAdd, lk26, lk43, e]
  | true =>
    simp (maxSteps := 2000000) only [go_sem, reduceIte, Nat.reduceEqDiff, Nat.reduceAdd, Nat.reduceBEq, lk26, lk43]
    refine aops_pure' (fast49 w.f) rfl rfl (by first | exact wk_refls _ | (repeat constructor)) ?_
    cases hb : fastB w.f with
    | false => simp (maxSteps := 2000000) only [go_sem, reduceIte, Nat.reduceEqDiff, Nat.reduceAdd, lk26, lk43, e, hb]
    | true => simp (maxSteps := 2000000) only [go_sem, reduceIte, Nat.reduceEqDiff, Nat.reduceAdd, lk26, lk43, e, hb]
set_option maxHeartbeats 4000000 in
theorem wanted26 (l : List Dy) (w : Wn) : Pure Try.prog 26 [dys l, wnV w] (I (okWn l w)) := by
  refine pure_wkE (bad := []) (kp := kp26) (X := tx) (nt := 43) (rs := [.tmp 4]) Try.func26 rfl rfl rfl rfl mo (by kernel_rfl) rfl rfl (fun hf => ?_)
  simp (maxSteps := 2000000) only [go_sem, reduceIte, Nat.reduceEqDiff, Nat.reduceAdd, lk26, lk43, wnV, wnC]
  refine aops_pure' (shelf19 l) rfl rfl (by first | exact wk_refls _ | (repeat constructor)) ?_
  by_cases h0 : okShelf l = 0
  case neg =>
    have e : okWn l w = okShelf l := by simp [okWn, h0]
    simp (maxSteps := 2000000) only [go_sem, reduceIte, Nat.reduceEqDiff, Nat.reduceAdd, lk26, lk43, h0]
    refine aops_pure' (shelf19 l) rfl rfl (by first | exact wk_refls _ | (repeat constructor)) ?_
    simp (maxSteps := 2000000) only [go_sem, reduceIte, Nat.reduceEqDiff, lk26, lk43, h0, e]
  have bad : ¬ OkW w → okWn l w = 2 := fun h => by
    have : ¬ okWn l w = 0 := fun h2 => h ((okWn_iff l w).1 h2).2
    revert this
    simp only [okWn]; rw [if_pos h0]; split <;> simp
  simp (maxSteps := 2000000) only [go_sem, reduceIte, Nat.reduceEqDiff, Nat.reduceAdd, lk26, lk43, h0]
  refine goE_loop (bad := []) (kp := kp26) (fun k : Nat => { slots := [(3, .c (.ptr 0 0)), (5, I k)], heap := [.cells (wnC w)], marks := [] }) (fun k => k ≤ 2 ∧ (0 < k → 0 ≤ w.x.lo ∧ w.x.lo ≤ w.x.hi ∧ w.x.hi ≤ 20) ∧ (1 < k → 0 ≤ w.y.lo ∧ w.y.lo ≤ w.y.hi ∧ w.y.hi ≤ 20)) (fun k => 2 - k) 0 mo (by kernel_rfl) ?_ ⟨Nat.zero_le _, by intro h; omega, by intro h; omega⟩ ?_
  · refine ent_weaken [] rfl rfl (Nat.zero_le _) rfl rfl ?_
    simp (maxSteps := 2000000) only [go_sem, reduceIte, Nat.reduceEqDiff, Nat.reduceLT, lk26, lk43, wnC]
    all_goals first | exact .refl _ | exact ⟨.refl _, .refl _⟩ | exact ⟨.refl _, .refl _, .refl _⟩ | exact ⟨.refl _, _, rfl⟩ | exact ⟨_, rfl⟩ | exact ⟨.refl _, [], by simp⟩ | exact ⟨[], by simp⟩
  rintro k ⟨hk, ka, kb⟩
  have hk3 : k = 0 ∨ k = 1 ∨ k = 2 := by omega
  rcases hk3 with rfl | rfl | rfl
  · by_cases c1 : w.x.lo < 0
    · have e2 := bad (fun h => by have := h.x0; omega)
      simp (maxSteps := 2000000) only [go_sem, reduceIte, Nat.reduceEqDiff, Nat.reduceAdd, Nat.reduceLeDiff, Nat.reduceBEq, Nat.reduceMul, Nat.reduceSub, Int.reduceLT, Int.reduceLE, Int.reduceToNat, lk26, lk43, wnC, c1, e2]
    by_cases c2 : w.x.hi < w.x.lo
    · have e2 := bad (fun h => by have := h.x1; omega)
      simp (maxSteps := 2000000) only [go_sem, reduceIte, Nat.reduceEqDiff, Nat.reduceAdd, Nat.reduceLeDiff, Nat.reduceBEq, Nat.reduceMul, Nat.reduceSub, Int.reduceLT, Int.reduceLE, Int.reduceToNat, lk26, lk43, wnC, c1, c2, e2]
    by_cases c3 : 20 < w.x.hi
    · have e2 := bad (fun h => by have := h.x2; omega)
      simp (maxSteps := 2000000) only [go_sem, reduceIte, Nat.reduceEqDiff, Nat.reduceAdd, Nat.reduceLeDiff, Nat.reduceBEq, Nat.reduceMul, Nat.reduceSub, Int.reduceLT, Int.reduceLE, Int.reduceToNat, lk26, lk43, wnC, c1, c2, c3, e2]
    have w0 : wr .i64 ((0 : Int) + 1) = 1 := by decide
    simp (maxSteps := 2000000) only [go_sem, reduceIte, Nat.reduceEqDiff, Nat.reduceAdd, Nat.reduceLeDiff, Nat.reduceBEq, Nat.reduceMul, Nat.reduceSub, Int.reduceLT, Int.reduceLE, Int.reduceToNat, lk26, lk43, wnC, c1, c2, c3, w0]
    refine ⟨1, ⟨by decide, fun _ => ⟨by omega, by omega, by omega⟩, by intro h; omega⟩, by decide, ?_⟩
    refine ent_weaken [.cells (rgC w.x)] rfl rfl (Nat.zero_le _) rfl rfl ?_
    simp (maxSteps := 2000000) only [go_sem, reduceIte, Nat.reduceEqDiff, Nat.reduceLT, lk26, lk43, wnC]
    all_goals first | exact .refl _ | exact ⟨.refl _, .refl _⟩ | exact ⟨.refl _, .refl _, .refl _⟩ | exact ⟨.refl _, _, rfl⟩ | exact ⟨_, rfl⟩ | exact ⟨.refl _, [], by simp⟩ | exact ⟨[], by simp⟩
  · by_cases c1 : w.y.lo < 0
    · have e2 := bad (fun h => by have := h.y0; omega)
      simp (maxSteps := 2000000) only [go_sem, reduceIte, Nat.reduceEqDiff, Nat.reduceAdd, Nat.reduceLeDiff, Nat.reduceBEq, Nat.reduceMul, Nat.reduceSub, Int.reduceLT, Int.reduceLE, Int.reduceToNat, lk26, lk43, wnC, c1, e2]
    by_cases c2 : w.y.hi < w.y.lo
    · have e2 := bad (fun h => by have := h.y1; omega)
      simp (maxSteps := 2000000) only [go_sem, reduceIte, Nat.reduceEqDiff, Nat.reduceAdd, Nat.reduceLeDiff, Nat.reduceBEq, Nat.reduceMul, Nat.reduceSub, Int.reduceLT, Int.reduceLE, Int.reduceToNat, lk26, lk43, wnC, c1, c2, e2]
    by_cases c3 : 20 < w.y.hi
    · have e2 := bad (fun h => by have := h.y2; omega)
      simp (maxSteps := 2000000) only [go_sem, reduceIte, Nat.reduceEqDiff, Nat.reduceAdd, Nat.reduceLeDiff, Nat.reduceBEq, Nat.reduceMul, Nat.reduceSub, Int.reduceLT, Int.reduceLE, Int.reduceToNat, lk26, lk43, wnC, c1, c2, c3, e2]
    have w0 : wr .i64 ((1 : Int) + 1) = 2 := by decide
    simp (maxSteps := 2000000) only [go_sem, reduceIte, Nat.reduceEqDiff, Nat.reduceAdd, Nat.reduceLeDiff, Nat.reduceBEq, Nat.reduceMul, Nat.reduceSub, Int.reduceLT, Int.reduceLE, Int.reduceToNat, lk26, lk43, wnC, c1, c2, c3, w0]
    refine ⟨2, ⟨by decide, fun _ => ka (by decide), fun _ => ⟨by omega, by omega, by omega⟩⟩, by decide, ?_⟩
    refine ent_weaken [.cells (rgC w.y)] rfl rfl (Nat.zero_le _) rfl rfl ?_
    simp (maxSteps := 2000000) only [go_sem, reduceIte, Nat.reduceEqDiff, Nat.reduceLT, lk26, lk43, wnC]
    all_goals first | exact .refl _ | exact ⟨.refl _, .refl _⟩ | exact ⟨.refl _, .refl _, .refl _⟩ | exact ⟨.refl _, _, rfl⟩ | exact ⟨_, rfl⟩ | exact ⟨.refl _, [], by simp⟩ | exact ⟨[], by simp⟩
  · obtain ⟨x0, x1, x2⟩ := ka (by decide)
    obtain ⟨y0, y1, y2⟩ := kb (by decide)
    by_cases f1 : w.f < 1
    · have e2 := bad (fun h => by have := h.f1; omega)
      simp (maxSteps := 2000000) only [go_sem, reduceIte, Nat.reduceEqDiff, Nat.reduceAdd, Nat.reduceBEq, Nat.reduceSub, Int.reduceLT, lk26, lk43, wnC, f1, e2]
    by_cases f2 : 8 < w.f
    · have e2 := bad (fun h => by have := h.f8; omega)
      simp (maxSteps := 2000000) only [go_sem, reduceIte, Nat.reduceEqDiff, Nat.reduceAdd, Nat.reduceBEq, Nat.reduceSub, Int.reduceLT, lk26, lk43, wnC, f1, f2, e2]
    have e2 : okWn l w = 0 := (okWn_iff l w).2 ⟨(okShelf_iff l).1 h0, x0, x1, x2, y0, y1, y2, by omega, by omega⟩
    simp (maxSteps := 2000000) only [go_sem, reduceIte, Nat.reduceEqDiff, Nat.reduceAdd, Nat.reduceBEq, Nat.reduceSub, Int.reduceLT, lk26, lk43, wnC, f1, f2, e2]
def inB (n : Int) (r : Rg) : Bool := decide (r.lo ≤ n) && decide (n ≤ r.hi)
theorem in45 (n : Int) (r : Rg) : Pure Try.prog 45 [I n, rgV r] (B (inB n r)) := by
  refine pure_wkE (bad := []) (kp := kp45) (X := tx) (nt := 15) (rs := [.tmp 4]) Try.func45 rfl rfl rfl rfl mo (by kernel_rfl) rfl rfl (fun hf => ?_)
  by_cases h : r.lo ≤ n
  · simp (maxSteps := 2000000) only [go_sem, reduceIte, Nat.reduceEqDiff, Nat.reduceAdd, Nat.reduceLeDiff, Nat.reduceBEq, lk26, lk43, lk45, rgV, rgC, h, inB]
  · simp (maxSteps := 2000000) only [go_sem, reduceIte, Nat.reduceEqDiff, Nat.reduceAdd, Nat.reduceLeDiff, Nat.reduceBEq, lk26, lk43, lk45, rgV, rgC, h, inB]
set_option maxHeartbeats 2000000 in
theorem in44 (x y : Int) (w : Wn) : Pure Try.prog 44 [spV x y, wnV w] (B (inB x w.x && inB y w.y)) := by
  refine pure_wkE (bad := [1]) (kp := kp44) (X := tx) (nt := 39) (rs := [.tmp 4]) Try.func44 rfl rfl rfl rfl mo (by kernel_rfl) rfl rfl (fun hf => ?_)
  simp (maxSteps := 2000000) only [go_sem, reduceIte, Nat.reduceEqDiff, Nat.reduceAdd, Nat.reduceLT, Nat.reduceLeDiff, Nat.reduceBEq, Nat.reduceMul, Int.reduceLT, Int.reduceLE, Int.reduceToNat, lk26, lk43, lk44, spV, spC, wnV, wnC]
  refine ⟨by kernel_rfl, ?_⟩
  unfold inB
  by_cases h1 : w.x.lo ≤ x
  · by_cases h2 : x ≤ w.x.hi
    · by_cases h3 : w.y.lo ≤ y
      · simp (maxSteps := 2000000) only [go_sem, reduceIte, Nat.reduceEqDiff, Nat.reduceAdd, Nat.reduceLeDiff, Nat.reduceBEq, lk26, lk43, lk44, h1, h2, h3]
      · simp (maxSteps := 2000000) only [go_sem, reduceIte, Nat.reduceEqDiff, Nat.reduceAdd, Nat.reduceLeDiff, Nat.reduceBEq, lk26, lk43, lk44, h1, h2, h3]
    · simp (maxSteps := 2000000) only [go_sem, reduceIte, Nat.reduceEqDiff, Nat.reduceAdd, Nat.reduceLeDiff, Nat.reduceBEq, lk26, lk43, lk44, h1, h2]
  · simp (maxSteps := 2000000) only [go_sem, reduceIte, Nat.reduceEqDiff, lk26, lk43, lk44, h1]
end Go.Proofs.Ytkbnmanfoejoiaa
/- Dyes: Mix and Check. -/
set_option linter.unusedSimpArgs false
set_option linter.unusedVariables false
set_option maxRecDepth 100000
namespace Go.Proofs.Ytkbnmanfoejoiaa
open Go Go.Abs Go.Proofs
def kp14 : List (Nat × List Nat) := [(0, [0, 1]), (1, [0, 1, 7]), (2, [0, 1, 7, 14]), (3, [4, 5, 6]), (4, [0, 1, 8]), (5, [0, 1, 8, 20]), (6, [4, 5, 6]), (7, [9, 10]), (8, [4, 5, 6])]
theorem lk14 : lookK kp14 0 = some [0, 1] ∧ lookK kp14 1 = some [0, 1, 7] ∧ lookK kp14 2 = some [0, 1, 7, 14] ∧ lookK kp14 3 = some [4, 5, 6] ∧ lookK kp14 4 = some [0, 1, 8] ∧ lookK kp14 5 = some [0, 1, 8, 20] ∧ lookK kp14 6 = some [4, 5, 6] ∧ lookK kp14 7 = some [9, 10] ∧ lookK kp14 8 = some [4, 5, 6] := ⟨rfl, rfl, rfl, rfl, rfl, rfl, rfl, rfl, rfl⟩
def kp15 : List (Nat × List Nat) := [(0, [0, 1]), (1, [0, 1, 12]), (2, [4, 5, 6]), (3, [0, 1, 18]), (4, [4, 5, 6]), (5, [7, 8, 9]), (6, [4, 5, 6])]
theorem lk15 : lookK kp15 0 = some [0, 1] ∧ lookK kp15 1 = some [0, 1, 12] ∧ lookK kp15 2 = some [4, 5, 6] ∧ lookK kp15 3 = some [0, 1, 18] ∧ lookK kp15 4 = some [4, 5, 6] ∧ lookK kp15 5 = some [7, 8, 9] ∧ lookK kp15 6 = some [4, 5, 6] := ⟨rfl, rfl, rfl, rfl, rfl, rfl, rfl⟩
def kp16 : List (Nat × List Nat) := [(0, [0, 2, 4]), (1, [0, 2, 4, 8]), (2, [0, 2, 4, 8, 18]), (3, [6, 7]), (4, [0, 2, 4, 9]), (5, [0, 2, 4, 9, 24]), (6, [6, 7]), (7, [0, 2, 4, 10, 11]), (8, [0, 2, 4, 11, 35]), (9, [6, 7]), (10, [0, 4, 11, 36, 37, 38]), (11, [0, 4, 11, 36, 37, 38, 39]), (12, [0, 4, 11, 12, 13, 36, 37, 38]), (13, [0, 4, 11, 36, 37, 38, 54]), (14, [6, 7]), (15, [0, 4, 11, 36, 37, 38]), (16, [6, 7])]
theorem lk16 : lookK kp16 0 = some [0, 2, 4] ∧ lookK kp16 1 = some [0, 2, 4, 8] ∧ lookK kp16 2 = some [0, 2, 4, 8, 18] ∧ lookK kp16 3 = some [6, 7] ∧ lookK kp16 4 = some [0, 2, 4, 9] ∧ lookK kp16 5 = some [0, 2, 4, 9, 24] ∧ lookK kp16 6 = some [6, 7] ∧ lookK kp16 7 = some [0, 2, 4, 10, 11] ∧ lookK kp16 8 = some [0, 2, 4, 11, 35] ∧ lookK kp16 9 = some [6, 7] ∧ lookK kp16 10 = some [0, 4, 11, 36, 37, 38] ∧ lookK kp16 11 = some [0, 4, 11, 36, 37, 38, 39] ∧ lookK kp16 12 = some [0, 4, 11, 12, 13, 36, 37, 38] ∧ lookK kp16 13 = some [0, 4, 11, 36, 37, 38, 54] ∧ lookK kp16 14 = some [6, 7] ∧ lookK kp16 15 = some [0, 4, 11, 36, 37, 38] ∧ lookK kp16 16 = some [6, 7] := ⟨rfl, rfl, rfl, rfl, rfl, rfl, rfl, rfl, rfl, rfl, rfl, rfl, rfl, rfl, rfl, rfl, rfl⟩
def kp17 : List (Nat × List Nat) := [(0, [0, 2, 4]), (1, [0, 2, 4, 15]), (2, [6, 7]), (3, [0, 2, 4, 22]), (4, [6, 7]), (5, [0, 2, 4, 8, 9, 10]), (6, [0, 2, 4, 10, 46]), (7, [6, 7]), (8, [0, 2, 4, 10, 11]), (9, [0, 2, 4, 10, 11, 50]), (10, [0, 2, 4, 10, 11]), (11, [0, 2, 4, 10, 11, 67]), (12, [6, 7]), (13, [6, 7])]
theorem lk17 : lookK kp17 0 = some [0, 2, 4] ∧ lookK kp17 1 = some [0, 2, 4, 15] ∧ lookK kp17 2 = some [6, 7] ∧ lookK kp17 3 = some [0, 2, 4, 22] ∧ lookK kp17 4 = some [6, 7] ∧ lookK kp17 5 = some [0, 2, 4, 8, 9, 10] ∧ lookK kp17 6 = some [0, 2, 4, 10, 46] ∧ lookK kp17 7 = some [6, 7] ∧ lookK kp17 8 = some [0, 2, 4, 10, 11] ∧ lookK kp17 9 = some [0, 2, 4, 10, 11, 50] ∧ lookK kp17 10 = some [0, 2, 4, 10, 11] ∧ lookK kp17 11 = some [0, 2, 4, 10, 11, 67] ∧ lookK kp17 12 = some [6, 7] ∧ lookK kp17 13 = some [6, 7] := ⟨rfl, rfl, rfl, rfl, rfl, rfl, rfl, rfl, rfl, rfl, rfl, rfl, rfl, rfl⟩

def mixL (l : List Dy) (r : List Int) : List Int := if okShelf l = 0 then (if okRec l r = 0 then [sA l r l.length, sB l r l.length] else []) else []
def mixP (l : List Dy) (r : List Int) : Int := if okShelf l = 0 then (if okRec l r = 0 then sP l r l.length else 0) else 0
def mixE (l : List Dy) (r : List Int) : Int := if okShelf l = 0 then okRec l r else okShelf l
set_option maxHeartbeats 2000000 in
theorem mix14 (l : List Dy) (r : List Int) : Pure Try.prog 14 [dys l, ints r] (.tup [ints (mixL l r), I (mixP l r), I (mixE l r)]) := by
  refine pure_wkE (bad := []) (kp := kp14) (X := tx) (nt := 34) (rs := [.tmp 4, .tmp 5, .tmp 6]) Try.func14 rfl rfl rfl rfl mo (by kernel_rfl) rfl rfl (fun hf => ?_)
  simp (maxSteps := 2000000) only [go_sem, reduceIte, Nat.reduceEqDiff, Nat.reduceAdd, lk14, lk15, lk16, lk17]
  refine aops_pure' (shelf18 l) rfl rfl (by first | exact wk_refls _ | (repeat constructor)) ?_
  unfold mixL mixP mixE
  by_cases h0 : okShelf l = 0
  case neg =>
    simp (maxSteps := 2000000) only [go_sem, reduceIte, Nat.reduceEqDiff, Nat.reduceAdd, lk14, lk15, lk16, lk17, h0, ints]
    all_goals first | exact .refl _ | exact ⟨.refl _, .refl _⟩ | exact ⟨.refl _, .refl _, .refl _⟩ | exact ⟨.refl _, _, rfl⟩ | exact ⟨_, rfl⟩ | exact ⟨.refl _, [], by simp⟩ | exact ⟨[], by simp⟩
  simp (maxSteps := 2000000) only [go_sem, reduceIte, Nat.reduceEqDiff, Nat.reduceAdd, lk14, lk15, lk16, lk17, h0]
  refine aops_pure' (isRec39 l r) rfl rfl (by first | exact wk_refls _ | (repeat constructor)) ?_
  by_cases h1 : okRec l r = 0
  case neg =>
    simp (maxSteps := 2000000) only [go_sem, reduceIte, Nat.reduceEqDiff, Nat.reduceAdd, lk14, lk15, lk16, lk17, h1, ints]
    all_goals first | exact .refl _ | exact ⟨.refl _, .refl _⟩ | exact ⟨.refl _, .refl _, .refl _⟩ | exact ⟨.refl _, _, rfl⟩ | exact ⟨_, rfl⟩ | exact ⟨.refl _, [], by simp⟩ | exact ⟨[], by simp⟩
  simp (maxSteps := 2000000) only [go_sem, reduceIte, Nat.reduceEqDiff, Nat.reduceAdd, Nat.reduceLT, Nat.reduceLeDiff, Nat.reduceMul, lk14, lk15, lk16, lk17, h1]
  refine aops_pure' (mix40 l r ((okShelf_iff l).1 h0) ((okRec_iff l r).1 h1)) rfl rfl (by first | exact wk_refls _ | (repeat constructor)) ?_
  simp (maxSteps := 2000000) only [go_sem, reduceIte, Nat.reduceEqDiff, Nat.reduceAdd, Nat.reduceLeDiff, Nat.reduceBEq, lk14, lk15, lk16, lk17, spV, spC, ints, iD]
  all_goals first | exact .refl _ | exact ⟨.refl _, .refl _⟩ | exact ⟨.refl _, .refl _, .refl _⟩ | exact ⟨.refl _, _, rfl⟩ | exact ⟨_, rfl⟩ | exact ⟨.refl _, [], by simp⟩ | exact ⟨[], by simp⟩
set_option maxHeartbeats 2000000 in
theorem mix15 (l : List Dy) (r : List Int) : Pure Try.prog 15 [dys l, ints r] (.tup [ints (mixL l r), I (mixP l r), I (mixE l r)]) := by
  refine pure_wkE (bad := []) (kp := kp15) (X := tx) (nt := 33) (rs := [.tmp 4, .tmp 5, .tmp 6]) Try.func15 rfl rfl rfl rfl mo (by kernel_rfl) rfl rfl (fun hf => ?_)
  simp (maxSteps := 2000000) only [go_sem, reduceIte, Nat.reduceEqDiff, Nat.reduceAdd, lk14, lk15, lk16, lk17]
  refine aops_pure' (shelf19 l) rfl rfl (by first | exact wk_refls _ | (repeat constructor)) ?_
  unfold mixL mixP mixE
  by_cases h0 : okShelf l = 0
  case neg =>
    simp (maxSteps := 2000000) only [go_sem, reduceIte, Nat.reduceEqDiff, Nat.reduceAdd, lk14, lk15, lk16, lk17, h0]
    refine aops_pure' (shelf19 l) rfl rfl (by first | exact wk_refls _ | (repeat constructor)) ?_
    simp (maxSteps := 2000000) only [go_sem, reduceIte, Nat.reduceEqDiff, lk14, lk15, lk16, lk17, h0, ints]
    all_goals first | exact .refl _ | exact ⟨.refl _, .refl _⟩ | exact ⟨.refl _, .refl _, .refl _⟩ | exact ⟨.refl _, _, rfl⟩ | exact ⟨_, rfl⟩ | exact ⟨.refl _, [], by simp⟩ | exact ⟨[], by simp⟩
  simp (maxSteps := 2000000) only [go_sem, reduceIte, Nat.reduceEqDiff, Nat.reduceAdd, lk14, lk15, lk16, lk17, h0]
  refine aops_pure' (isRec41 l r) rfl rfl (by first | exact wk_refls _ | (repeat constructor)) ?_
  by_cases h1 : okRec l r = 0
  case neg =>
    simp (maxSteps := 2000000) only [go_sem, reduceIte, Nat.reduceEqDiff, Nat.reduceAdd, lk14, lk15, lk16, lk17, h1]
    refine aops_pure' (isRec41 l r) rfl rfl (by first | exact wk_refls _ | (repeat constructor)) ?_
    simp (maxSteps := 2000000) only [go_sem, reduceIte, Nat.reduceEqDiff, lk14, lk15, lk16, lk17, h1, ints]
    all_goals first | exact .refl _ | exact ⟨.refl _, .refl _⟩ | exact ⟨.refl _, .refl _, .refl _⟩ | exact ⟨.refl _, _, rfl⟩ | exact ⟨_, rfl⟩ | exact ⟨.refl _, [], by simp⟩ | exact ⟨[], by simp⟩
  simp (maxSteps := 2000000) only [go_sem, reduceIte, Nat.reduceEqDiff, Nat.reduceAdd, Nat.reduceLT, Nat.reduceLeDiff, Nat.reduceMul, lk14, lk15, lk16, lk17, h1]
  refine aops_pure' (sums42 l r ((okShelf_iff l).1 h0) ((okRec_iff l r).1 h1)) rfl rfl (by first | exact wk_refls _ | (repeat constructor)) ?_
  simp (maxSteps := 2000000) only [go_sem, reduceIte, Nat.reduceEqDiff, Nat.reduceAdd, Nat.reduceBEq, lk14, lk15, lk16, lk17, spV, spC, ints, iD]
  all_goals first | exact .refl _ | exact ⟨.refl _, .refl _⟩ | exact ⟨.refl _, .refl _, .refl _⟩ | exact ⟨.refl _, _, rfl⟩ | exact ⟨_, rfl⟩ | exact ⟨.refl _, [], by simp⟩ | exact ⟨[], by simp⟩
/-- No dye of the recipe fades too fast. -/
def fadeB (l : List Dy) (f : Int) (r : List Int) : Bool := (List.range l.length).any fun i => decide (0 < gI r i) && decide ((gD l i).f < f)
def inWB (l : List Dy) (w : Wn) (r : List Int) : Bool := inB (sA l r l.length) w.x && inB (sB l r l.length) w.y
def chkE (l : List Dy) (w : Wn) (r : List Int) : Int := if okWn l w = 0 then (if okRec l r = 0 then (if inWB l w r then (if fadeB l w.f r then 20 else 0) else 19) else okRec l r) else okWn l w
def chkN (l : List Dy) (w : Wn) (r : List Int) : Int := if chkE l w r = 0 then sP l r l.length else 0
theorem fade_at {l : List Dy} {f : Int} {r : List Int} {i : Nat} (hi : i < l.length) (h1 : 0 < gI r i) (h2 : (gD l i).f < f) : fadeB l f r = true := List.any_eq_true.2 ⟨i, List.mem_range.2 hi, by simp [h1, h2]⟩
theorem fade_none {l : List Dy} {f : Int} {r : List Int} (h : ∀ i, i < l.length → ¬ (0 < gI r i ∧ (gD l i).f < f)) : fadeB l f r = false := by
  unfold fadeB
  rw [List.any_eq_false]
  intro i hi
  have := h i (List.mem_range.1 hi)
  simpa using this
set_option maxHeartbeats 4000000 in
theorem check16 (l : List Dy) (w : Wn) (r : List Int) : Pure Try.prog 16 [dys l, wnV w, ints r] (.tup [I (chkN l w r), I (chkE l w r)]) := by
  refine pure_wkE (bad := []) (kp := kp16) (X := tx) (nt := 57) (rs := [.tmp 6, .tmp 7]) Try.func16 rfl rfl rfl rfl mo (by kernel_rfl) rfl rfl (fun hf => ?_)
  have hw := wanted43 l w
  unfold wnV wnC at hw
  simp (maxSteps := 2000000) only [go_sem, reduceIte, Nat.reduceEqDiff, Nat.reduceAdd, lk14, lk15, lk16, lk17, wnV, wnC]
  refine aops_pure' (hw) rfl rfl (by first | exact wk_refls _ | (repeat constructor)) ?_
  by_cases h0 : okWn l w = 0
  case neg =>
    have e : chkE l w r = okWn l w := by simp [chkE, h0]
    have e2 : chkN l w r = 0 := by simp [chkN, e, h0]
    simp (maxSteps := 2000000) only [go_sem, reduceIte, Nat.reduceEqDiff, Nat.reduceAdd, lk14, lk15, lk16, lk17, h0, e, e2]
    all_goals first | exact .refl _ | exact ⟨.refl _, .refl _⟩ | exact ⟨.refl _, .refl _, .refl _⟩ | exact ⟨.refl _, _, rfl⟩ | exact ⟨_, rfl⟩ | exact ⟨.refl _, [], by simp⟩ | exact ⟨[], by simp⟩
  simp (maxSteps := 2000000) only [go_sem, reduceIte, Nat.reduceEqDiff, Nat.reduceAdd, lk14, lk15, lk16, lk17, h0]
  refine aops_pure' (isRec39 l r) rfl rfl (by first | exact wk_refls _ | (repeat constructor)) ?_
  by_cases h1 : okRec l r = 0
  case neg =>
    have e : chkE l w r = okRec l r := by simp [chkE, h0, h1]
    have e2 : chkN l w r = 0 := by simp [chkN, e, h1]
    simp (maxSteps := 2000000) only [go_sem, reduceIte, Nat.reduceEqDiff, Nat.reduceAdd, lk14, lk15, lk16, lk17, h1, e, e2]
    all_goals first | exact .refl _ | exact ⟨.refl _, .refl _⟩ | exact ⟨.refl _, .refl _, .refl _⟩ | exact ⟨.refl _, _, rfl⟩ | exact ⟨_, rfl⟩ | exact ⟨.refl _, [], by simp⟩ | exact ⟨[], by simp⟩
  have hl := ((okWn_iff l w).1 h0).1
  have hr := (okRec_iff l r).1 h1
  simp (maxSteps := 2000000) only [go_sem, reduceIte, Nat.reduceEqDiff, Nat.reduceAdd, lk14, lk15, lk16, lk17, h1]
  refine aops_pure' (mix40 l r hl hr) rfl rfl (by first | exact wk_refls _ | (repeat constructor)) ?_
  have hin := in44 (sA l r l.length) (sB l r l.length) w
  have hI : (inB (sA l r l.length) w.x && inB (sB l r l.length) w.y) = inWB l w r := rfl
  rw [hI] at hin
  unfold wnV wnC spV spC at hin
  simp (maxSteps := 2000000) only [go_sem, reduceIte, Nat.reduceEqDiff, Nat.reduceAdd, lk14, lk15, lk16, lk17, spV, spC]
  refine aops_pure' (hin) rfl rfl (by first | exact wk_refls _ | (repeat constructor)) ?_
  cases hb : inWB l w r with
  | false =>
    have e : chkE l w r = 19 := by simp [chkE, h0, h1, hb]
    have e2 : chkN l w r = 0 := by simp [chkN, e]
    simp (maxSteps := 2000000) only [go_sem, reduceIte, Nat.reduceEqDiff, Nat.reduceAdd, lk14, lk15, lk16, lk17, e, e2]
    all_goals first | exact .refl _ | exact ⟨.refl _, .refl _⟩ | exact ⟨.refl _, .refl _, .refl _⟩ | exact ⟨.refl _, _, rfl⟩ | exact ⟨_, rfl⟩ | exact ⟨.refl _, [], by simp⟩ | exact ⟨[], by simp⟩
  | true =>
    have e : chkE l w r = if fadeB l w.f r then 20 else 0 := by simp [chkE, h0, h1, hb]
    have h8 := hl.n8
    have hln := hr.ln
    simp (maxSteps := 2000000) only [go_sem, reduceIte, Nat.reduceEqDiff, Nat.reduceAdd, lk14, lk15, lk16, lk17, ints]
    refine goE_loop (bad := []) (kp := kp16) (fun i : Nat => { slots := [(0, dys l), (4, .c (.ptr 0 0)), (11, I (sP l r l.length)), (36, ints r), (37, I r.length), (38, I i)], heap := [.cells (wnC w)], marks := [] }) (fun i => i ≤ l.length ∧ ∀ j, j < i → ¬ (0 < gI r j ∧ (gD l j).f < w.f)) (fun i => l.length - i) 0 mo (by kernel_rfl) ?_ ⟨Nat.zero_le _, by intro j hj; omega⟩ ?_
    · refine ent_weaken [.cells (spC (sA l r l.length) (sB l r l.length))] rfl rfl (Nat.zero_le _) rfl rfl ?_
      simp (maxSteps := 2000000) only [go_sem, reduceIte, Nat.reduceEqDiff, Nat.reduceLT, lk14, lk15, lk16, lk17, dys, ints, wnC]
      all_goals first | exact .refl _ | exact ⟨.refl _, .refl _⟩ | exact ⟨.refl _, .refl _, .refl _⟩ | exact ⟨.refl _, _, rfl⟩ | exact ⟨_, rfl⟩ | exact ⟨.refl _, [], by simp⟩ | exact ⟨[], by simp⟩
    rintro i ⟨hi, hall⟩
    simp (maxSteps := 2000000) only [go_sem, reduceIte, Nat.reduceEqDiff, Nat.reduceAdd, lk14, lk15, lk16, lk17, dys, ints, wnC]
    by_cases hlt : i < l.length
    · have hltr : (i : Int) < r.length := by omega
      have hlt' : (i : Int) < l.length := by omega
      have g1 := gD_lt hlt
      have g2 := gI_lt (l := r) (b := i) (by omega)
      have m1 : l.length - (i + 1) < l.length - i := by omega
      have w7 : wr .i64 ((i : Int) + 1) = ((i + 1 : Nat) : Int) := wr_succ hlt (Nat.le_trans h8 (by decide))
      by_cases c1 : 0 < gI r i
      · by_cases c2 : (gD l i).f < w.f
        · have ef : fadeB l w.f r = true := fade_at hlt c1 c2
          have e3 : chkE l w r = 20 := by rw [e, ef]; rfl
          have e2 : chkN l w r = 0 := by simp [chkN, e3]
          simp (maxSteps := 2000000) only [go_sem, reduceIte, Nat.reduceEqDiff, Nat.reduceAdd, Nat.reduceBEq, lk14, lk15, lk16, lk17, hltr, hlt', g1, g2, iD, dyD, nn, c1, c2, e3, e2]
          all_goals first | exact .refl _ | exact ⟨.refl _, .refl _⟩ | exact ⟨.refl _, .refl _, .refl _⟩ | exact ⟨.refl _, _, rfl⟩ | exact ⟨_, rfl⟩ | exact ⟨.refl _, [], by simp⟩ | exact ⟨[], by simp⟩
        · have c3 : ∀ j, j < i + 1 → ¬ (0 < gI r j ∧ (gD l j).f < w.f) := fun j hj => by
            rcases Nat.lt_succ_iff_lt_or_eq.1 hj with h | h
            · exact hall j h
            · subst h; exact fun q => c2 q.2
          simp (maxSteps := 2000000) only [go_sem, reduceIte, Nat.reduceEqDiff, Nat.reduceAdd, Nat.reduceBEq, lk14, lk15, lk16, lk17, hltr, hlt', g1, g2, iD, dyD, nn, c1, c2, w7]
          refine ⟨i + 1, ⟨hlt, c3⟩, m1, ?_⟩
          refine ent_weaken [] rfl rfl (Nat.zero_le _) rfl rfl ?_
          simp (maxSteps := 2000000) only [go_sem, reduceIte, Nat.reduceEqDiff, Nat.reduceLT, lk14, lk15, lk16, lk17, dys, ints, wnC]
          all_goals first | exact .refl _ | exact ⟨.refl _, .refl _⟩ | exact ⟨.refl _, .refl _, .refl _⟩ | exact ⟨.refl _, _, rfl⟩ | exact ⟨_, rfl⟩ | exact ⟨.refl _, [], by simp⟩ | exact ⟨[], by simp⟩
      · have c3 : ∀ j, j < i + 1 → ¬ (0 < gI r j ∧ (gD l j).f < w.f) := fun j hj => by
          rcases Nat.lt_succ_iff_lt_or_eq.1 hj with h | h
          · exact hall j h
          · subst h; exact fun q => c1 q.1
        simp (maxSteps := 2000000) only [go_sem, reduceIte, Nat.reduceEqDiff, Nat.reduceAdd, lk14, lk15, lk16, lk17, hltr, hlt', g1, g2, iD, dyD, nn, c1, w7]
        refine ⟨i + 1, ⟨hlt, c3⟩, m1, ?_⟩
        refine ent_weaken [] rfl rfl (Nat.zero_le _) rfl rfl ?_
        simp (maxSteps := 2000000) only [go_sem, reduceIte, Nat.reduceEqDiff, Nat.reduceLT, lk14, lk15, lk16, lk17, dys, ints, wnC]
        all_goals first | exact .refl _ | exact ⟨.refl _, .refl _⟩ | exact ⟨.refl _, .refl _, .refl _⟩ | exact ⟨.refl _, _, rfl⟩ | exact ⟨_, rfl⟩ | exact ⟨.refl _, [], by simp⟩ | exact ⟨[], by simp⟩
    · have hltr : ¬ (i : Int) < r.length := by omega
      have ef : fadeB l w.f r = false := fade_none (fun j hj => hall j (by omega))
      have e3 : chkE l w r = 0 := by rw [e, ef]; rfl
      have e2 : chkN l w r = sP l r l.length := by simp [chkN, e3]
      simp (maxSteps := 2000000) only [go_sem, reduceIte, Nat.reduceEqDiff, Nat.reduceAdd, lk14, lk15, lk16, lk17, hltr, e3, e2]
      all_goals first | exact .refl _ | exact ⟨.refl _, .refl _⟩ | exact ⟨.refl _, .refl _, .refl _⟩ | exact ⟨.refl _, _, rfl⟩ | exact ⟨_, rfl⟩ | exact ⟨.refl _, [], by simp⟩ | exact ⟨[], by simp⟩
set_option maxHeartbeats 4000000 in
theorem check17 (l : List Dy) (w : Wn) (r : List Int) : Pure Try.prog 17 [dys l, wnV w, ints r] (.tup [I (chkN l w r), I (chkE l w r)]) := by
  refine pure_wkE (bad := []) (kp := kp17) (X := tx) (nt := 69) (rs := [.tmp 6, .tmp 7]) Try.func17 rfl rfl rfl rfl mo (by kernel_rfl) rfl rfl (fun hf => ?_)
  have hw := wanted26 l w
  unfold wnV wnC at hw
  simp (maxSteps := 2000000) only [go_sem, reduceIte, Nat.reduceEqDiff, Nat.reduceAdd, lk14, lk15, lk16, lk17, wnV, wnC]
  refine aops_pure' (hw) rfl rfl (by first | exact wk_refls _ | (repeat constructor)) ?_
  by_cases h0 : okWn l w = 0
  case neg =>
    have e : chkE l w r = okWn l w := by simp [chkE, h0]
    have e2 : chkN l w r = 0 := by simp [chkN, e, h0]
    simp (maxSteps := 2000000) only [go_sem, reduceIte, Nat.reduceEqDiff, Nat.reduceAdd, lk14, lk15, lk16, lk17, h0]
    refine aops_pure' (hw) rfl rfl (by first | exact wk_refls _ | (repeat constructor)) ?_
    simp (maxSteps := 2000000) only [go_sem, reduceIte, Nat.reduceEqDiff, lk14, lk15, lk16, lk17, h0, e, e2]
    all_goals first | exact .refl _ | exact ⟨.refl _, .refl _⟩ | exact ⟨.refl _, .refl _, .refl _⟩ | exact ⟨.refl _, _, rfl⟩ | exact ⟨_, rfl⟩ | exact ⟨.refl _, [], by simp⟩ | exact ⟨[], by simp⟩
  simp (maxSteps := 2000000) only [go_sem, reduceIte, Nat.reduceEqDiff, Nat.reduceAdd, lk14, lk15, lk16, lk17, h0]
  refine aops_pure' (isRec41 l r) rfl rfl (by first | exact wk_refls _ | (repeat constructor)) ?_
  by_cases h1 : okRec l r = 0
  case neg =>
    have e : chkE l w r = okRec l r := by simp [chkE, h0, h1]
    have e2 : chkN l w r = 0 := by simp [chkN, e, h1]
    simp (maxSteps := 2000000) only [go_sem, reduceIte, Nat.reduceEqDiff, Nat.reduceAdd, lk14, lk15, lk16, lk17, h1]
    refine aops_pure' (isRec41 l r) rfl rfl (by first | exact wk_refls _ | (repeat constructor)) ?_
    simp (maxSteps := 2000000) only [go_sem, reduceIte, Nat.reduceEqDiff, lk14, lk15, lk16, lk17, h1, e, e2]
    all_goals first | exact .refl _ | exact ⟨.refl _, .refl _⟩ | exact ⟨.refl _, .refl _, .refl _⟩ | exact ⟨.refl _, _, rfl⟩ | exact ⟨_, rfl⟩ | exact ⟨.refl _, [], by simp⟩ | exact ⟨[], by simp⟩
  have hl := ((okWn_iff l w).1 h0).1
  have hr := (okRec_iff l r).1 h1
  simp (maxSteps := 2000000) only [go_sem, reduceIte, Nat.reduceEqDiff, Nat.reduceAdd, Int.reduceLT, Int.reduceLE, Int.reduceToNat, lk14, lk15, lk16, lk17, h1]
  refine aops_pure' (sums42 l r hl hr) rfl rfl (by first | exact wk_refls _ | (repeat constructor)) ?_
  have hx := in45 (sA l r l.length) w.x
  have hy := in45 (sB l r l.length) w.y
  unfold rgV rgC at hx hy
  simp (maxSteps := 2000000) only [go_sem, reduceIte, Nat.reduceEqDiff, Nat.reduceAdd, Nat.reduceLeDiff, Nat.reduceBEq, Nat.reduceMul, lk14, lk15, lk16, lk17]
  refine aops_pure' (hx) rfl rfl (by first | exact wk_refls _ | (repeat constructor)) ?_
  have key : ∀ hb : inWB l w r = false, chkE l w r = 19 ∧ chkN l w r = 0 := fun hb => by
    have e : chkE l w r = 19 := by simp [chkE, h0, h1, hb]
    exact ⟨e, by simp [chkN, e]⟩
  cases hbx : inB (sA l r l.length) w.x with
  | false =>
    obtain ⟨e, e2⟩ := key (by simp [inWB, hbx])
    simp (maxSteps := 2000000) only [go_sem, reduceIte, Nat.reduceEqDiff, Nat.reduceAdd, lk14, lk15, lk16, lk17, e, e2]
    all_goals first | exact .refl _ | exact ⟨.refl _, .refl _⟩ | exact ⟨.refl _, .refl _, .refl _⟩ | exact ⟨.refl _, _, rfl⟩ | exact ⟨_, rfl⟩ | exact ⟨.refl _, [], by simp⟩ | exact ⟨[], by simp⟩
  | true =>
  simp (maxSteps := 2000000) only [go_sem, reduceIte, Nat.reduceEqDiff, Nat.reduceAdd, Nat.reduceLeDiff, Nat.reduceBEq, Nat.reduceMul, Int.reduceLT, Int.reduceLE, Int.reduceToNat, lk14, lk15, lk16, lk17]
  refine aops_pure' (hy) rfl rfl (by first | exact wk_refls _ | (repeat constructor)) ?_
  cases hby : inB (sB l r l.length) w.y with
  | false =>
    obtain ⟨e, e2⟩ := key (by simp [inWB, hbx, hby])
    simp (maxSteps := 2000000) only [go_sem, reduceIte, Nat.reduceEqDiff, Nat.reduceAdd, lk14, lk15, lk16, lk17, e, e2]
    all_goals first | exact .refl _ | exact ⟨.refl _, .refl _⟩ | exact ⟨.refl _, .refl _, .refl _⟩ | exact ⟨.refl _, _, rfl⟩ | exact ⟨_, rfl⟩ | exact ⟨.refl _, [], by simp⟩ | exact ⟨[], by simp⟩
  | true =>
    have hb : inWB l w r = true := by simp [inWB, hbx, hby]
    have e : chkE l w r = if fadeB l w.f r then 20 else 0 := by simp [chkE, h0, h1, hb]
    have h8 := hl.n8
    have hln := hr.ln
    simp (maxSteps := 2000000) only [go_sem, reduceIte, Nat.reduceEqDiff, Nat.reduceAdd, lk14, lk15, lk16, lk17, ints]
    refine goE_loop (bad := []) (kp := kp17) (fun i : Nat => { slots := [(0, dys l), (2, ints r), (4, .c (.ptr 0 0)), (10, I (sP l r l.length)), (11, I i)], heap := [.cells (wnC w)], marks := [] }) (fun i => i ≤ l.length ∧ ∀ j, j < i → ¬ (0 < gI r j ∧ (gD l j).f < w.f)) (fun i => l.length - i) 0 mo (by kernel_rfl) ?_ ⟨Nat.zero_le _, by intro j hj; omega⟩ ?_
    · refine ent_weaken [] rfl rfl (Nat.zero_le _) rfl rfl ?_
      simp (maxSteps := 2000000) only [go_sem, reduceIte, Nat.reduceEqDiff, Nat.reduceLT, lk14, lk15, lk16, lk17, dys, ints, wnC]
      all_goals first | exact .refl _ | exact ⟨.refl _, .refl _⟩ | exact ⟨.refl _, .refl _, .refl _⟩ | exact ⟨.refl _, _, rfl⟩ | exact ⟨_, rfl⟩ | exact ⟨.refl _, [], by simp⟩ | exact ⟨[], by simp⟩
    rintro i ⟨hi, hall⟩
    simp (maxSteps := 2000000) only [go_sem, reduceIte, Nat.reduceEqDiff, Nat.reduceAdd, lk14, lk15, lk16, lk17, dys, ints, wnC]
    by_cases hlt : i < l.length
    · have hltr : (i : Int) < r.length := by omega
      have hlt' : (i : Int) < l.length := by omega
      have g1 := gD_lt hlt
      have g2 := gI_lt (l := r) (b := i) (by omega)
      have m1 : l.length - (i + 1) < l.length - i := by omega
      have w7 : wr .i64 ((i : Int) + 1) = ((i + 1 : Nat) : Int) := wr_succ hlt (Nat.le_trans h8 (by decide))
      by_cases c1 : 0 < gI r i
      · by_cases c2 : (gD l i).f < w.f
        · have ef : fadeB l w.f r = true := fade_at hlt c1 c2
          have e3 : chkE l w r = 20 := by rw [e, ef]; rfl
          have e2 : chkN l w r = 0 := by simp [chkN, e3]
          simp (maxSteps := 2000000) only [go_sem, reduceIte, Nat.reduceEqDiff, Nat.reduceAdd, Nat.reduceBEq, lk14, lk15, lk16, lk17, hltr, hlt', g1, g2, iD, dyD, nn, c1, c2, e3, e2]
          all_goals first | exact .refl _ | exact ⟨.refl _, .refl _⟩ | exact ⟨.refl _, .refl _, .refl _⟩ | exact ⟨.refl _, _, rfl⟩ | exact ⟨_, rfl⟩ | exact ⟨.refl _, [], by simp⟩ | exact ⟨[], by simp⟩
        · have c3 : ∀ j, j < i + 1 → ¬ (0 < gI r j ∧ (gD l j).f < w.f) := fun j hj => by
            rcases Nat.lt_succ_iff_lt_or_eq.1 hj with h | h
            · exact hall j h
            · subst h; exact fun q => c2 q.2
          simp (maxSteps := 2000000) only [go_sem, reduceIte, Nat.reduceEqDiff, Nat.reduceAdd, Nat.reduceBEq, lk14, lk15, lk16, lk17, hltr, hlt', g1, g2, iD, dyD, nn, c1, c2, w7]
          refine ⟨i + 1, ⟨hlt, c3⟩, m1, ?_⟩
          refine ent_weaken [] rfl rfl (Nat.zero_le _) rfl rfl ?_
          simp (maxSteps := 2000000) only [go_sem, reduceIte, Nat.reduceEqDiff, Nat.reduceLT, lk14, lk15, lk16, lk17, dys, ints, wnC]
          all_goals first | exact .refl _ | exact ⟨.refl _, .refl _⟩ | exact ⟨.refl _, .refl _, .refl _⟩ | exact ⟨.refl _, _, rfl⟩ | exact ⟨_, rfl⟩ | exact ⟨.refl _, [], by simp⟩ | exact ⟨[], by simp⟩
      · have c3 : ∀ j, j < i + 1 → ¬ (0 < gI r j ∧ (gD l j).f < w.f) := fun j hj => by
          rcases Nat.lt_succ_iff_lt_or_eq.1 hj with h | h
          · exact hall j h
          · subst h; exact fun q => c1 q.1
        simp (maxSteps := 2000000) only [go_sem, reduceIte, Nat.reduceEqDiff, Nat.reduceAdd, lk14, lk15, lk16, lk17, hltr, hlt', g1, g2, iD, dyD, nn, c1, w7]
        refine ⟨i + 1, ⟨hlt, c3⟩, m1, ?_⟩
        refine ent_weaken [] rfl rfl (Nat.zero_le _) rfl rfl ?_
        simp (maxSteps := 2000000) only [go_sem, reduceIte, Nat.reduceEqDiff, Nat.reduceLT, lk14, lk15, lk16, lk17, dys, ints, wnC]
        all_goals first | exact .refl _ | exact ⟨.refl _, .refl _⟩ | exact ⟨.refl _, .refl _, .refl _⟩ | exact ⟨.refl _, _, rfl⟩ | exact ⟨_, rfl⟩ | exact ⟨.refl _, [], by simp⟩ | exact ⟨[], by simp⟩
    · have hltr : ¬ (i : Int) < l.length := by omega
      have ef : fadeB l w.f r = false := fade_none (fun j hj => hall j (by omega))
      have e3 : chkE l w r = 0 := by rw [e, ef]; rfl
      have e2 : chkN l w r = sP l r l.length := by simp [chkN, e3]
      simp (maxSteps := 2000000) only [go_sem, reduceIte, Nat.reduceEqDiff, Nat.reduceAdd, lk14, lk15, lk16, lk17, hltr, e3, e2]
      all_goals first | exact .refl _ | exact ⟨.refl _, .refl _⟩ | exact ⟨.refl _, .refl _, .refl _⟩ | exact ⟨.refl _, _, rfl⟩ | exact ⟨_, rfl⟩ | exact ⟨.refl _, [], by simp⟩ | exact ⟨[], by simp⟩
end Go.Proofs.Ytkbnmanfoejoiaa
