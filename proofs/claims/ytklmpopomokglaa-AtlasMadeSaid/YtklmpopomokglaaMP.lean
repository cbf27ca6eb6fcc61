/- Numbers written with three digits: a plain law. -/
import Derived.KernelRfl
set_option linter.unusedSimpArgs false
set_option linter.unusedVariables false
namespace Go.Abs

def encT : List Int → Nat
  | [] => 0
  | a :: l => (a + 1).toNat + 3 * encT l
def digs : Nat → Nat → List Int
  | 0, _ => []
  | i + 1, m => digs i m ++ [((m / 3 ^ i % 3 : Nat) : Int) - 1]
theorem digs_len : ∀ i m, (digs i m).length = i
  | 0, _ => rfl
  | i + 1, m => by simp [digs, digs_len i m]
theorem digs_rng : ∀ i m, ∀ x ∈ digs i m, -1 ≤ x ∧ x ≤ 1
  | 0, _, x, h => by simp [digs] at h
  | i + 1, m, x, h => by
    simp only [digs, List.mem_append, List.mem_singleton] at h
    rcases h with h | h
    · exact digs_rng i m x h
    · have := Nat.mod_lt (m / 3 ^ i) (show 0 < 3 by omega)
      omega
theorem encT_append : ∀ (l : List Int) (a : Int), encT (l ++ [a]) = encT l + 3 ^ l.length * (a + 1).toNat
  | [], a => by simp [encT]
  | b :: l, a => by
    simp only [List.cons_append, encT, encT_append l a, List.length_cons, Nat.pow_succ]
    rw [Nat.mul_add, Nat.mul_comm (3 ^ l.length) 3, Nat.mul_assoc, Nat.add_assoc]
theorem enc_digs : ∀ i m, encT (digs i m) = m % 3 ^ i
  | 0, m => by simp [digs, encT, Nat.mod_one]
  | i + 1, m => by
    simp only [digs, encT_append, enc_digs i m, digs_len]
    have h : (((m / 3 ^ i % 3 : Nat) : Int) - 1 + 1).toNat = m / 3 ^ i % 3 := by omega
    rw [h, Nat.pow_succ, Nat.mod_mul]
theorem digs_add : ∀ (i m j d : Nat), i ≤ j → digs i (m + 3 ^ j * d) = digs i m
  | 0, _, _, _, _ => rfl
  | i + 1, m, j, d, h => by
    simp only [digs, digs_add i m j d (by omega)]
    have e : 3 ^ j * d = 3 ^ i * (3 * (3 ^ (j - i - 1) * d)) := by
      have : j = i + (1 + (j - i - 1)) := by omega
      rw [this, Nat.pow_add, Nat.pow_add]
      simp [Nat.mul_assoc]
    have : (m + 3 ^ j * d) / 3 ^ i % 3 = m / 3 ^ i % 3 := by
      rw [e, Nat.add_mul_div_left _ _ (Nat.pow_pos (by omega)), Nat.add_mul_mod_self_left]
    rw [this]
theorem enc_lt : ∀ (l : List Int), (∀ x ∈ l, -1 ≤ x ∧ x ≤ 1) → encT l < 3 ^ l.length
  | [], _ => by simp [encT]
  | a :: l, h => by
    have h1 := h a (by simp)
    have h2 := enc_lt l (fun x hx => h x (List.mem_cons_of_mem _ hx))
    simp only [encT, List.length_cons, Nat.pow_succ]
    omega
theorem digs_enc (l : List Int) (h : ∀ x ∈ l, -1 ≤ x ∧ x ≤ 1) : digs l.length (encT l) = l := by
  have key : ∀ (r : List Int), (∀ x ∈ r, -1 ≤ x ∧ x ≤ 1) → digs r.reverse.length (encT r.reverse) = r.reverse := by
    intro r
    induction r with
    | nil => intro _; rfl
    | cons a r ih =>
      intro hr
      have h1 := hr a (by simp)
      have ih := ih (fun x hx => hr x (List.mem_cons_of_mem _ hx))
      have hlt := enc_lt r.reverse (fun x hx => hr x (by simp at hx; simp [hx]))
      simp only [List.reverse_cons, List.length_append, List.length_singleton, digs, encT_append]
      rw [digs_add _ _ _ _ (Nat.le_refl _), ih]
      congr 1
      have hd : (encT r.reverse + 3 ^ r.reverse.length * (a + 1).toNat) / 3 ^ r.reverse.length = (a + 1).toNat := by
        rw [Nat.add_mul_div_left _ _ (Nat.pow_pos (by omega)), Nat.div_eq_of_lt hlt, Nat.zero_add]
      rw [hd]
      have : (a + 1).toNat % 3 = (a + 1).toNat := Nat.mod_eq_of_lt (by omega)
      rw [this]
      congr 1
      omega
  have := key l.reverse (fun x hx => h x (by simpa using hx))
  simpa using this
theorem digs_iff {l : List Int} {m : Nat} (h : ∀ x ∈ l, -1 ≤ x ∧ x ≤ 1) (hm : m < 3 ^ l.length) : l = digs l.length m ↔ encT l = m := by
  constructor
  · intro e
    have := enc_digs l.length m
    rw [← e, Nat.mod_eq_of_lt hm] at this; exact this
  · intro e
    rw [← e, digs_enc l h]
theorem countP_lt_succ {α : Type} (f : α → Nat) (m : Nat) : ∀ (l : List α), (l.filter (fun x => decide (f x < m + 1))).length = (l.filter (fun x => decide (f x < m))).length + (l.filter (fun x => decide (f x = m))).length
  | [] => rfl
  | a :: l => by
    have ih := countP_lt_succ f m l
    simp only [List.filter_cons]
    by_cases h1 : f a < m
    · have h2 : f a < m + 1 := by omega
      have h3 : ¬ f a = m := by omega
      simp [h1, h2, h3, ih]; omega
    · by_cases h3 : f a = m
      · have h2 : f a < m + 1 := by omega
        simp [h1, h2, h3, ih]; omega
      · have h2 : ¬ f a < m + 1 := by omega
        simp [h1, h2, h3, ih]
end Go.Abs
/- How many numbers below a bound there can be, and the sums over them: a plain law. -/
namespace Go.Abs

theorem nodup_lt : ∀ (N : Nat) (l : List Nat), l.Nodup → (∀ x ∈ l, x < N) → l.length ≤ N
  | 0, l, _, h => by
    cases l with
    | nil => simp
    | cons a l => have := h a (by simp); omega
  | N + 1, l, hnd, h => by
    have h1 := nodup_lt N (l.erase N) (hnd.erase N) (fun x hx => by
      rw [hnd.mem_erase_iff] at hx
      have := h x hx.2; have := hx.1; omega)
    by_cases hm : N ∈ l
    · rw [List.length_erase_of_mem hm] at h1; omega
    · rw [List.erase_of_not_mem hm] at h1; omega
theorem nodup_sum (f : Nat → Nat) : ∀ (N : Nat) (l : List Nat), l.Nodup → (∀ x ∈ l, x < N) → l.length = N → (l.map f).sum = ((List.range N).map f).sum
  | 0, l, _, _, hl => by
    have : l = [] := List.eq_nil_of_length_eq_zero hl
    subst this; rfl
  | N + 1, l, hnd, h, hl => by
    have hm : N ∈ l := by
      refine Classical.byContradiction fun hm => ?_
      have := nodup_lt N l hnd (fun x hx => by
        have := h x hx
        have : x ≠ N := fun e => hm (e ▸ hx)
        omega)
      omega
    have h1 := nodup_sum f N (l.erase N) (hnd.erase N) (fun x hx => by
      rw [hnd.mem_erase_iff] at hx
      have := h x hx.2; have := hx.1; omega) (by rw [List.length_erase_of_mem hm]; omega)
    have hp : (l.map f).Perm ((N :: l.erase N).map f) := (List.perm_cons_erase hm).map f
    have hs : (l.map f).sum = ((N :: l.erase N).map f).sum := hp.sum_nat
    rw [hs, List.range_succ, List.map_append, List.sum_append, List.map_cons, List.sum_cons, h1]
    simp [Nat.add_comm]
/-- Absolute values and values have the same parity. -/
theorem abs_par : ∀ (l : List Int), (((l.map Int.natAbs).sum : Nat) : Int) % 2 = l.sum % 2
  | [] => rfl
  | a :: l => by
    have := abs_par l
    simp only [List.map_cons, List.sum_cons]
    omega
end Go.Abs
