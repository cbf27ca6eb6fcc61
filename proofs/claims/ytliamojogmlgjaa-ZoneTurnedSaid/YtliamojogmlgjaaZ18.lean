/- Zones: a search in a row that is in order; the best of a list. -/
import Derived.Test.YtliamojogmlgjaaZ17
set_option linter.unusedSimpArgs false
set_option linter.unusedVariables false
set_option maxRecDepth 100000
namespace Go.Proofs.Ytliamojogmlgjaa
open Go Go.Abs Go.Proofs

/-- The first place of a row in order that is not below a number. -/
def bsN (l : List Int) (t : Int) : Nat := fstN (fun i => decide (t ≤ gI l i)) l.length
theorem bsN_eq {l : List Int} {t : Int} {i : Nat} (hi : i ≤ l.length) (h1 : ∀ q, q < i → gI l q < t) (h2 : ∀ q, i ≤ q → q < l.length → t ≤ gI l q) : bsN l t = i := by
  unfold bsN
  by_cases e : i < l.length
  · exact fstN_eq (by simpa using h2 i (Nat.le_refl _) e) (fun j hj => by have := h1 j hj; simp; omega) e
  · have : i = l.length := by omega
    subst this
    exact fstN_none (fun j hj => by have := h1 j hj; simp; omega)
theorem half (n : Nat) : Int.fdiv (n : Int) (2 ^ min 1 64) = ((n / 2 : Nat) : Int) := by rw [show (2 ^ min 1 64 : Int) = 2 by decide, Int.fdiv_eq_ediv_of_nonneg _ (by decide)]; omega
set_option maxHeartbeats 1000000 in
theorem bs74 (l : List Int) (t : Int) (hs : ∀ i j, i ≤ j → j < l.length → gI l i ≤ gI l j) (hn : l.length ≤ 1000) : Pure Try.prog 74 [ints l, I t] (.tup [I (bsN l t), B (decide (bsN l t < l.length) && decide (gI l (bsN l t) = t))]) := by
  refine pure_wkE (bad := []) (kp := kp74) (X := tx) (nt := 54) (rs := [.tmp 4, .tmp 5]) Try.func74 rfl rfl rfl rfl mo (by kernel_rfl) rfl rfl (fun hf => ?_)
  simp only [go_sem, reduceIte, Nat.reduceEqDiff, Nat.reduceAdd, List.replicate_succ, lk74, ints]
  refine goE_loop (bad := []) (kp := kp74) (fun p : Nat × Nat => { slots := [(0, ints l), (1, I t), (6, I l.length), (7, I p.1), (8, I p.2)], heap := [], marks := [] }) (fun p => p.1 ≤ p.2 ∧ p.2 ≤ l.length ∧ (∀ q, q < p.1 → gI l q < t) ∧ ∀ q, p.2 ≤ q → q < l.length → t ≤ gI l q) (fun p => p.2 - p.1) (0, l.length) mo (by kernel_rfl) ?_ ⟨Nat.zero_le _, Nat.le_refl _, fun q hq => by omega, fun q h1 h2 => by omega⟩ ?_
  · refine ent_weaken [] rfl rfl (Nat.zero_le _) rfl rfl ?_
    simp only [go_sem, reduceIte, Nat.reduceEqDiff, List.replicate_succ, lk74, ints]
    all_goals first | exact .refl _ | exact ⟨.refl _, .refl _⟩ | exact ⟨.refl _, .refl _, .refl _⟩ | exact ⟨.refl _, _, rfl⟩ | exact ⟨_, rfl⟩ | exact ⟨.refl _, [], by simp⟩ | exact ⟨[], by simp⟩
  rintro ⟨i, j⟩ ⟨hij, hj, ha, hb⟩
  dsimp only at hij hj ha hb
  simp only [go_sem, reduceIte, Nat.reduceEqDiff, Nat.reduceAdd, List.replicate_succ, lk74, ints]
  by_cases hlt : i < j
  · have hlt' : (i : Int) < j := by omega
    have g1 := gI_lt (l := l) (i := (i + j) / 2) (by omega)
    have hm : (((i + j) / 2 : Nat) : Int) < l.length := by omega
    have m1 : (i + j) / 2 < j := by omega
    have m2 : i ≤ (i + j) / 2 := by omega
    have m3 : (i + j) / 2 < l.length := by omega
    have hlo : ∀ q, q < (i + j) / 2 + 1 → gI l q ≤ gI l ((i + j) / 2) := fun q hq => hs q _ (by omega) m3
    have hhi : ∀ q, (i + j) / 2 ≤ q → q < l.length → gI l ((i + j) / 2) ≤ gI l q := fun q hq h2 => hs _ q hq h2
    have hl := less79 (gI l ((i + j) / 2)) t
    have hh := half (i + j)
    have w1 : wr .i64 ((i : Int) + j) = ((i + j : Nat) : Int) := by rw [wr_in (by omega)]; omega
    have w2 : wr .u64 ((i + j : Nat) : Int) = ((i + j : Nat) : Int) := wr_u64 _ (by clear w1; omega) (by clear w1; omega)
    generalize (i + j) / 2 = m at *
    have w3 : wr .i64 (m : Int) = m := wr_in (by clear w1 w2; omega)
    have w4 := wr_succ (i := m) (n := 1000) (by clear w1 w2 w3; omega) (by decide)
    simp only [go_sem, reduceIte, Nat.reduceEqDiff, Nat.reduceAdd, Int.reduceLE, Int.reduceToNat, List.replicate_succ, lk74, hlt', w1, w2, hh, w3, nn, hm, g1, iD]
    refine aops_pure' (hl) rfl rfl (by first | exact wk_refls _ | (repeat constructor)) ?_
    by_cases c : gI l m < t
    · have k1 : m + 1 ≤ j := m1
      have k2 : ∀ q, q < m + 1 → gI l q < t := fun q hq => Int.lt_of_le_of_lt (hlo q hq) c
      have k3 : j - (m + 1) < j - i := by clear w1 w2 w3 w4; omega
      simp only [go_sem, reduceIte, Nat.reduceEqDiff, Nat.reduceAdd, List.replicate_succ, lk74, c, w4]
      refine ⟨(m + 1, j), ⟨k1, hj, k2, hb⟩, k3, ?_⟩
      refine ent_weaken [] rfl rfl (Nat.zero_le _) rfl rfl ?_
      simp only [go_sem, reduceIte, Nat.reduceEqDiff, List.replicate_succ, lk74, ints]
      all_goals first | exact .refl _ | exact ⟨.refl _, .refl _⟩ | exact ⟨.refl _, .refl _, .refl _⟩ | exact ⟨.refl _, _, rfl⟩ | exact ⟨_, rfl⟩ | exact ⟨.refl _, [], by simp⟩ | exact ⟨[], by simp⟩
    · have k2 : ∀ q, m ≤ q → q < l.length → t ≤ gI l q := fun q hq h2 => Int.le_trans (Int.not_lt.1 c) (hhi q hq h2)
      have k3 : m - i < j - i := by clear w1 w2 w3 w4; omega
      simp only [go_sem, reduceIte, Nat.reduceEqDiff, Nat.reduceAdd, List.replicate_succ, lk74, c]
      refine ⟨(i, m), ⟨m2, Nat.le_of_lt m3, ha, k2⟩, k3, ?_⟩
      refine ent_weaken [] rfl rfl (Nat.zero_le _) rfl rfl ?_
      simp only [go_sem, reduceIte, Nat.reduceEqDiff, List.replicate_succ, lk74, ints]
      all_goals first | exact .refl _ | exact ⟨.refl _, .refl _⟩ | exact ⟨.refl _, .refl _, .refl _⟩ | exact ⟨.refl _, _, rfl⟩ | exact ⟨_, rfl⟩ | exact ⟨.refl _, [], by simp⟩ | exact ⟨[], by simp⟩
  · have hlt' : ¬ (i : Int) < j := by omega
    have eij : i = j := by omega
    subst eij
    have e := bsN_eq hj ha hb
    rw [e]
    by_cases c : i < l.length
    · have c' : (i : Int) < l.length := by omega
      have g1 := gI_lt c
      by_cases c2 : gI l i = t
      · simp only [go_sem, reduceIte, Nat.reduceEqDiff, Nat.reduceAdd, List.replicate_succ, lk74, hlt', c', c, nn, g1, iD, c2]
        all_goals first | exact .refl _ | exact ⟨.refl _, .refl _⟩ | exact ⟨.refl _, .refl _, .refl _⟩ | exact ⟨.refl _, _, rfl⟩ | exact ⟨_, rfl⟩ | exact ⟨.refl _, [], by simp⟩ | exact ⟨[], by simp⟩
      · simp only [go_sem, reduceIte, Nat.reduceEqDiff, Nat.reduceAdd, List.replicate_succ, lk74, hlt', c', c, nn, g1, iD, c2]
        refine aops_pure' (nan80 (gI l i)) rfl rfl (by first | exact wk_refls _ | (repeat constructor)) ?_
        simp only [go_sem, reduceIte, Nat.reduceEqDiff, List.replicate_succ, lk74]
        all_goals first | exact .refl _ | exact ⟨.refl _, .refl _⟩ | exact ⟨.refl _, .refl _, .refl _⟩ | exact ⟨.refl _, _, rfl⟩ | exact ⟨_, rfl⟩ | exact ⟨.refl _, [], by simp⟩ | exact ⟨[], by simp⟩
    · have c' : ¬ (i : Int) < l.length := by omega
      simp only [go_sem, reduceIte, Nat.reduceEqDiff, Nat.reduceAdd, List.replicate_succ, lk74, hlt', c', c]
      all_goals first | exact .refl _ | exact ⟨.refl _, .refl _⟩ | exact ⟨.refl _, .refl _, .refl _⟩ | exact ⟨.refl _, _, rfl⟩ | exact ⟨_, rfl⟩ | exact ⟨.refl _, [], by simp⟩ | exact ⟨[], by simp⟩
/-- The place of the best of the first numbers of a list. -/
def bstF (p : Int → Int → Bool) (W : Nat → Int) : Nat → Nat
  | 0 => 0
  | i + 1 => if p (W i) (W (bstF p W i)) then i else bstF p W i
theorem bstF_lt (p : Int → Int → Bool) (W : Nat → Int) : ∀ n, 0 < n → bstF p W n < n
  | 0, h => by omega
  | n + 1, _ => by
    rw [bstF]
    split
    · omega
    · by_cases e : n = 0
      · subst e; exact Nat.zero_lt_one
      · have := bstF_lt p W n (by omega); omega
set_option maxHeartbeats 1000000 in
theorem best65 (l : List Int) (g : Nat) (p : Int → Int → Bool) (hg : ∀ x y, Pure Try.prog g [I x, I y] (B (p x y))) (hl : l.length ≤ 1000) : Pure Try.prog 65 [ints l, .c (.fn (.func g) [])] (I (bstF p (gI l) l.length)) := by
  refine pure_wkE (bad := []) (kp := kp65) (X := tx) (nt := 25) (rs := [.tmp 4]) Try.func65 rfl rfl rfl rfl mo (by kernel_rfl) rfl rfl (fun hf => ?_)
  simp only [go_sem, reduceIte, Nat.reduceEqDiff, Nat.reduceAdd, List.replicate_succ, lk65, ints]
  refine goE_loop (bad := []) (kp := kp65) (fun i : Nat => { slots := [(0, ints l), (1, .c (.fn (.func g) [])), (5, I (bstF p (gI l) i)), (8, ints l), (9, I l.length), (10, I i)], heap := [], marks := [] }) (fun i => i ≤ l.length) (fun i => l.length - i) 0 mo (by kernel_rfl) ?_ (Nat.zero_le _) ?_
  · refine ent_weaken [] rfl rfl (Nat.zero_le _) rfl rfl ?_
    simp only [go_sem, reduceIte, Nat.reduceEqDiff, List.replicate_succ, lk65, ints, bstF]
    all_goals first | exact .refl _ | exact ⟨.refl _, .refl _⟩ | exact ⟨.refl _, .refl _, .refl _⟩ | exact ⟨.refl _, _, rfl⟩ | exact ⟨_, rfl⟩ | exact ⟨.refl _, [], by simp⟩ | exact ⟨[], by simp⟩
  rintro i hi
  simp only [go_sem, reduceIte, Nat.reduceEqDiff, Nat.reduceAdd, List.replicate_succ, lk65, ints]
  by_cases hlt : i < l.length
  · have hlt' : (i : Int) < l.length := by omega
    have g1 := gI_lt hlt
    have hb : bstF p (gI l) i < l.length := by
      by_cases e : i = 0
      · subst e; exact hlt
      · have := bstF_lt p (gI l) i (by omega); omega
    have hb' : (bstF p (gI l) i : Int) < l.length := by omega
    have g2 := gI_lt hb
    have hc := hg (gI l i) (gI l (bstF p (gI l) i))
    have e : bstF p (gI l) (i + 1) = if p (gI l i) (gI l (bstF p (gI l) i)) then i else bstF p (gI l) i := rfl
    have m1 : l.length - (i + 1) < l.length - i := by omega
    have w7 := wr_succ hlt (Nat.le_trans hl (by decide))
    simp only [go_sem, reduceIte, Nat.reduceEqDiff, Nat.reduceAdd, List.replicate_succ, lk65, hlt', nn, g1, hb', g2, iD]
    refine aops_pure' (hc) rfl rfl (by first | exact wk_refls _ | (repeat constructor)) ?_
    cases hp : p (gI l i) (gI l (bstF p (gI l) i)) with
    | true =>
      rw [hp, if_pos rfl] at e
      simp only [go_sem, reduceIte, Nat.reduceEqDiff, Nat.reduceAdd, List.replicate_succ, lk65, w7]
      refine ⟨i + 1, hlt, m1, ?_⟩
      refine ent_weaken [] rfl rfl (Nat.zero_le _) rfl rfl ?_
      simp only [go_sem, reduceIte, Nat.reduceEqDiff, List.replicate_succ, lk65, ints, e]
      all_goals first | exact .refl _ | exact ⟨.refl _, .refl _⟩ | exact ⟨.refl _, .refl _, .refl _⟩ | exact ⟨.refl _, _, rfl⟩ | exact ⟨_, rfl⟩ | exact ⟨.refl _, [], by simp⟩ | exact ⟨[], by simp⟩
    | false =>
      rw [hp, if_neg (by decide)] at e
      simp only [go_sem, reduceIte, Nat.reduceEqDiff, Nat.reduceAdd, List.replicate_succ, lk65, w7]
      refine ⟨i + 1, hlt, m1, ?_⟩
      refine ent_weaken [] rfl rfl (Nat.zero_le _) rfl rfl ?_
      simp only [go_sem, reduceIte, Nat.reduceEqDiff, List.replicate_succ, lk65, ints, e]
      all_goals first | exact .refl _ | exact ⟨.refl _, .refl _⟩ | exact ⟨.refl _, .refl _, .refl _⟩ | exact ⟨.refl _, _, rfl⟩ | exact ⟨_, rfl⟩ | exact ⟨.refl _, [], by simp⟩ | exact ⟨[], by simp⟩
  · have hlt' : ¬ (i : Int) < l.length := by omega
    have ei : i = l.length := by omega
    subst ei
    simp only [go_sem, reduceIte, Nat.reduceEqDiff, Nat.reduceAdd, List.replicate_succ, lk65, hlt']
    all_goals first | exact .refl _ | exact ⟨.refl _, .refl _⟩ | exact ⟨.refl _, .refl _, .refl _⟩ | exact ⟨.refl _, _, rfl⟩ | exact ⟨_, rfl⟩ | exact ⟨.refl _, [], by simp⟩ | exact ⟨[], by simp⟩
end Go.Proofs.Ytliamojogmlgjaa
