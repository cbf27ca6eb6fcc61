/- Zones: the plain law of bounds: the least and the greatest lights of all true lanterns. -/
import Derived.Test.YtliamojogmlgjaaMK
set_option linter.unusedSimpArgs false
set_option linter.unusedVariables false
set_option maxRecDepth 100000
namespace Go.Proofs.Ytliamojogmlgjaa
open Go Go.Abs Go.Proofs
/-- Lights that only fall, or only rise, from degree to degree. -/
def Mono (n : Nat) (dir : Nat → Bool) (f : Nat → Int) : Prop := ∀ k, k + 1 < n → if dir (k + 1) then f (k + 1) ≤ f k else f k ≤ f (k + 1)
/-- From the left. -/
def upA (dir : Nat → Bool) (L : Nat → Int) : Nat → Int
  | 0 => L 0
  | k + 1 => if dir (k + 1) then L (k + 1) else max (L (k + 1)) (upA dir L k)
/-- From the right, that many degrees far. -/
def upB (dir : Nat → Bool) (L : Nat → Int) : Nat → Nat → Int
  | 0, k => L k
  | m + 1, k => if dir (k + 1) then max (L k) (upB dir L m (k + 1)) else L k
/-- The least lights. -/
def Lo (n : Nat) (dir : Nat → Bool) (L : Nat → Int) (k : Nat) : Int := max (upA dir L k) (upB dir L (n - 1 - k) k)
theorem upA_ge (dir : Nat → Bool) (L : Nat → Int) : ∀ k, L k ≤ upA dir L k
  | 0 => Int.le_refl _
  | k + 1 => by rw [upA]; split <;> omega
theorem upB_ge (dir : Nat → Bool) (L : Nat → Int) : ∀ m k, L k ≤ upB dir L m k
  | 0, k => Int.le_refl _
  | m + 1, k => by rw [upB]; split <;> omega
theorem lo_ge (n : Nat) (dir : Nat → Bool) (L : Nat → Int) (k : Nat) : L k ≤ Lo n dir L k := by
  have := upA_ge dir L k
  unfold Lo; omega
theorem upB_step {dir : Nat → Bool} {L : Nat → Int} {n k : Nat} (hk : k + 1 < n) : upB dir L (n - 1 - k) k = if dir (k + 1) then max (L k) (upB dir L (n - 1 - (k + 1)) (k + 1)) else L k := by
  rw [show n - 1 - k = (n - 1 - (k + 1)) + 1 by omega, upB]
theorem lo_mono (n : Nat) (dir : Nat → Bool) (L : Nat → Int) : Mono n dir (Lo n dir L) := fun k hk => by
  have hB := upB_step (dir := dir) (L := L) hk
  have a := upA_ge dir L k
  have b := upB_ge dir L (n - 1 - (k + 1)) (k + 1)
  unfold Lo
  cases hd : dir (k + 1) with
  | true =>
    rw [hd, if_pos rfl] at hB
    rw [if_pos rfl, upA, hd, if_pos rfl]
    omega
  | false =>
    rw [hd, if_neg (by decide)] at hB
    rw [if_neg (by decide), upA, hd, if_neg (by decide)]
    omega
theorem upA_le {n : Nat} {dir : Nat → Bool} {L f : Nat → Int} (hm : Mono n dir f) (hL : ∀ k, k < n → L k ≤ f k) : ∀ k, k < n → upA dir L k ≤ f k
  | 0, h => hL 0 h
  | k + 1, h => by
    have ih := upA_le hm hL k (by omega)
    have h1 := hL (k + 1) h
    have h2 := hm k h
    rw [upA]
    cases hd : dir (k + 1) with
    | true => rw [if_pos rfl]; exact h1
    | false =>
      rw [hd, if_neg (by decide)] at h2
      rw [if_neg (by decide)]; omega
theorem upB_le {n : Nat} {dir : Nat → Bool} {L f : Nat → Int} (hm : Mono n dir f) (hL : ∀ k, k < n → L k ≤ f k) : ∀ m k, k + m < n → upB dir L m k ≤ f k
  | 0, k, h => hL k h
  | m + 1, k, h => by
    have ih := upB_le hm hL m (k + 1) (by omega)
    have h1 := hL k (by omega)
    have h2 := hm k (by omega)
    rw [upB]
    cases hd : dir (k + 1) with
    | true =>
      rw [hd, if_pos rfl] at h2
      rw [if_pos rfl]; omega
    | false => rw [if_neg (by decide)]; exact h1
theorem lo_le {n : Nat} {dir : Nat → Bool} {L f : Nat → Int} (hm : Mono n dir f) (hL : ∀ k, k < n → L k ≤ f k) {k : Nat} (hk : k < n) : Lo n dir L k ≤ f k := by
  have a := upA_le hm hL k hk
  have b := upB_le hm hL (n - 1 - k) k (by omega)
  unfold Lo; omega
/-- The greatest lights: the least ones, turned over. -/
def Hi (n : Nat) (dir : Nat → Bool) (H : Nat → Int) (k : Nat) : Int := -Lo n (fun j => !dir j) (fun j => -H j) k
theorem mono_neg {n : Nat} {dir : Nat → Bool} {f : Nat → Int} : Mono n dir f ↔ Mono n (fun j => !dir j) (fun j => -f j) := by
  unfold Mono
  refine ⟨fun h k hk => ?_, fun h k hk => ?_⟩
  · have := h k hk
    cases hd : dir (k + 1) <;> simp [hd] at this ⊢ <;> omega
  · have := h k hk
    cases hd : dir (k + 1) <;> simp [hd] at this ⊢ <;> omega
theorem hi_le (n : Nat) (dir : Nat → Bool) (H : Nat → Int) (k : Nat) : Hi n dir H k ≤ H k := by
  have := lo_ge n (fun j => !dir j) (fun j => -H j) k
  unfold Hi; omega
theorem hi_mono (n : Nat) (dir : Nat → Bool) (H : Nat → Int) : Mono n dir (Hi n dir H) := by
  rw [mono_neg]
  have := lo_mono n (fun j => !dir j) (fun j => -H j)
  unfold Hi
  simpa using this
theorem hi_ge {n : Nat} {dir : Nat → Bool} {H f : Nat → Int} (hm : Mono n dir f) (hH : ∀ k, k < n → f k ≤ H k) {k : Nat} (hk : k < n) : f k ≤ Hi n dir H k := by
  have := lo_le (L := fun j => -H j) (f := fun j => -f j) (mono_neg.1 hm) (fun j hj => by have := hH j hj; omega) hk
  unfold Hi; omega
/-- What is a solution, and below all of them, is the least one. -/
theorem lo_eq {n : Nat} {dir : Nat → Bool} {L f : Nat → Int} (hm : Mono n dir f) (hL : ∀ k, k < n → L k ≤ f k) (hle : ∀ g, Mono n dir g → (∀ k, k < n → L k ≤ g k) → ∀ k, k < n → f k ≤ g k) {k : Nat} (hk : k < n) : f k = Lo n dir L k := by
  have a := lo_le hm hL hk
  have b := hle (Lo n dir L) (lo_mono n dir L) (fun j _ => lo_ge n dir L j) k hk
  omega
theorem hi_eq {n : Nat} {dir : Nat → Bool} {H f : Nat → Int} (hm : Mono n dir f) (hH : ∀ k, k < n → f k ≤ H k) (hle : ∀ g, Mono n dir g → (∀ k, k < n → g k ≤ H k) → ∀ k, k < n → g k ≤ f k) {k : Nat} (hk : k < n) : f k = Hi n dir H k := by
  have a := hi_ge hm hH hk
  have b := hle (Hi n dir H) (hi_mono n dir H) (fun j _ => hi_le n dir H j) k hk
  omega
/-! ### The reference's rounds -/
def upd (f : Nat → Int) (k : Nat) (v : Int) (j : Nat) : Int := if j = k then v else f j
/-- A step at a degree. -/
def stepL (dir : Nat → Bool) (f : Nat → Int) (k : Nat) : Nat → Int := if dir k then upd f (k - 1) (max (f (k - 1)) (f k)) else upd f k (max (f k) (f (k - 1)))
/-- The steps at the degrees 1 .. m. -/
def sweepL (dir : Nat → Bool) (f : Nat → Int) : Nat → Nat → Int
  | 0 => f
  | m + 1 => stepL dir (sweepL dir f m) (m + 1)
def roundsL (n : Nat) (dir : Nat → Bool) (f : Nat → Int) : Nat → Nat → Int
  | 0 => f
  | r + 1 => sweepL dir (roundsL n dir f r) (n - 1)
theorem stepL_ge (dir : Nat → Bool) (f : Nat → Int) (k j : Nat) : f j ≤ stepL dir f k j := by
  unfold stepL upd
  split <;> dsimp only <;> split <;> (try subst_vars) <;> omega
theorem sweepL_ge (dir : Nat → Bool) (f : Nat → Int) (j : Nat) : ∀ m, f j ≤ sweepL dir f m j
  | 0 => Int.le_refl _
  | m + 1 => Int.le_trans (sweepL_ge dir f j m) (stepL_ge dir _ _ j)
theorem stepL_le {n : Nat} {dir : Nat → Bool} {f g : Nat → Int} (hm : Mono n dir g) (h : ∀ k, k < n → f k ≤ g k) {k : Nat} (hk0 : 0 < k) (hk : k < n) : ∀ j, j < n → stepL dir f k j ≤ g j := fun j hj => by
  obtain ⟨p, rfl⟩ : ∃ p, k = p + 1 := ⟨k - 1, by omega⟩
  have h1 := hm p hk
  have h2 := h j hj
  have h3 := h p (by omega)
  have h4 := h (p + 1) hk
  unfold stepL upd
  rw [show p + 1 - 1 = p from rfl]
  cases hd : dir (p + 1) with
  | true =>
    rw [hd, if_pos rfl] at h1
    rw [if_pos rfl]
    split
    · subst_vars; omega
    · exact h2
  | false =>
    rw [hd, if_neg (by decide)] at h1
    rw [if_neg (by decide)]
    split
    · subst_vars; omega
    · exact h2
theorem sweepL_le {n : Nat} {dir : Nat → Bool} {f g : Nat → Int} (hm : Mono n dir g) (h : ∀ k, k < n → f k ≤ g k) : ∀ m, m < n → ∀ j, j < n → sweepL dir f m j ≤ g j
  | 0, _ => h
  | m + 1, hm1 => stepL_le hm (sweepL_le hm h m (by omega)) (by omega) hm1
theorem roundsL_le {n : Nat} {dir : Nat → Bool} {f g : Nat → Int} (hn : 0 < n) (hm : Mono n dir g) (h : ∀ k, k < n → f k ≤ g k) : ∀ r j, j < n → roundsL n dir f r j ≤ g j
  | 0 => h
  | r + 1 => sweepL_le hm (roundsL_le hn hm h r) (n - 1) (by omega)
theorem roundsL_ge (n : Nat) (dir : Nat → Bool) (f : Nat → Int) (j : Nat) : ∀ r, f j ≤ roundsL n dir f r j
  | 0 => Int.le_refl _
  | r + 1 => Int.le_trans (roundsL_ge n dir f j r) (sweepL_ge dir _ j _)
/-- One sweep brings all from the left. -/
theorem sweep_A {dir : Nat → Bool} {L f : Nat → Int} (h : ∀ k, L k ≤ f k) : ∀ m k, k ≤ m → upA dir L k ≤ sweepL dir f m k
  | 0, k, hk => by
    have : k = 0 := by omega
    subst this
    exact h 0
  | m + 1, k, hk => by
    by_cases e : k = m + 1
    · subst e
      have ih := sweep_A (dir := dir) h m m (Nat.le_refl _)
      have h2 := sweepL_ge dir f (m + 1) m
      have h3 := h (m + 1)
      rw [sweepL, upA]
      cases hd : dir (m + 1) with
      | true =>
        rw [if_pos rfl]
        exact Int.le_trans (Int.le_trans h3 h2) (stepL_ge dir _ _ _)
      | false =>
        rw [if_neg (by decide)]
        unfold stepL upd
        rw [hd, if_neg (by decide), if_pos rfl, show m + 1 - 1 = m from rfl]
        omega
    · exact Int.le_trans (sweep_A h m k (by omega)) (stepL_ge dir _ _ _)
/-- One sweep brings the degree behind. -/
theorem sweep_B {dir : Nat → Bool} {f : Nat → Int} {m k : Nat} (hk : k + 1 ≤ m) (hd : dir (k + 1) = true) : f (k + 1) ≤ sweepL dir f m k := by
  have h1 : f (k + 1) ≤ sweepL dir f (k + 1) k := by
    have h2 := sweepL_ge dir f (k + 1) k
    rw [sweepL]
    unfold stepL upd
    rw [hd, if_pos rfl, show k + 1 - 1 = k from rfl, if_pos rfl]
    omega
  have h3 : ∀ d, sweepL dir f (k + 1) k ≤ sweepL dir f (k + 1 + d) k := fun d => by
    induction d with
    | zero => exact Int.le_refl _
    | succ d ih => exact Int.le_trans ih (stepL_ge dir _ _ _)
  have := h3 (m - (k + 1))
  rw [show k + 1 + (m - (k + 1)) = m by omega] at this
  omega
theorem rounds_B {n : Nat} {dir : Nat → Bool} {L : Nat → Int} : ∀ r k, k + r < n → upB dir L r k ≤ roundsL n dir L r k
  | 0, k, h => Int.le_refl _
  | r + 1, k, h => by
    have ih := rounds_B (n := n) (dir := dir) (L := L) r (k + 1) (by omega)
    have h0 := roundsL_ge n dir L k (r + 1)
    rw [upB]
    cases hd : dir (k + 1) with
    | true =>
      have h1 := sweep_B (f := roundsL n dir L r) (m := n - 1) (k := k) (by omega) hd
      rw [if_pos rfl]
      have h2 : sweepL dir (roundsL n dir L r) (n - 1) k = roundsL n dir L (r + 1) k := rfl
      omega
    | false => rw [if_neg (by decide)]; exact h0
theorem rounds_more (n : Nat) (dir : Nat → Bool) (f : Nat → Int) (j : Nat) {r s : Nat} (h : r ≤ s) : roundsL n dir f r j ≤ roundsL n dir f s j := by
  induction s with
  | zero => have : r = 0 := by omega
            subst this; exact Int.le_refl _
  | succ s ih =>
    by_cases e : r = s + 1
    · subst e; exact Int.le_refl _
    · exact Int.le_trans (ih (by omega)) (sweepL_ge dir _ j _)
/-- After as many rounds as there are degrees these are the least lights. -/
theorem rounds_lo {n : Nat} (hn : 0 < n) (dir : Nat → Bool) (L : Nat → Int) {k : Nat} (hk : k < n) : roundsL n dir L n k = Lo n dir L k := by
  have a := roundsL_le hn (lo_mono n dir L) (fun j _ => lo_ge n dir L j) n k hk
  have b : upB dir L (n - 1 - k) k ≤ roundsL n dir L n k := Int.le_trans (rounds_B (n - 1 - k) k (by omega)) (rounds_more n dir L k (by omega))
  have c : upA dir L k ≤ roundsL n dir L n k := by
    have h1 := sweep_A (dir := dir) (L := L) (f := L) (fun _ => Int.le_refl _) (n - 1) k (by omega)
    have h2 := rounds_more n dir L k (r := 1) (s := n) hn
    exact Int.le_trans h1 h2
  unfold Lo at a ⊢
  omega
/-- The steps for the greatest lights. -/
def stepH (dir : Nat → Bool) (f : Nat → Int) (k : Nat) : Nat → Int := if dir k then upd f k (min (f k) (f (k - 1))) else upd f (k - 1) (min (f (k - 1)) (f k))
def sweepH (dir : Nat → Bool) (f : Nat → Int) : Nat → Nat → Int
  | 0 => f
  | m + 1 => stepH dir (sweepH dir f m) (m + 1)
def roundsH (n : Nat) (dir : Nat → Bool) (f : Nat → Int) : Nat → Nat → Int
  | 0 => f
  | r + 1 => sweepH dir (roundsH n dir f r) (n - 1)
theorem stepH_neg (dir : Nat → Bool) (f : Nat → Int) (k : Nat) : (fun j => -stepH dir f k j) = stepL (fun j => !dir j) (fun j => -f j) k := funext fun j => by
  cases hd : dir k with
  | false =>
    have e1 : stepH dir f k = upd f (k - 1) (min (f (k - 1)) (f k)) := by unfold stepH; rw [hd]; rfl
    have e2 : stepL (fun j => !dir j) (fun j => -f j) k = upd (fun j => -f j) (k - 1) (max (-f (k - 1)) (-f k)) := by unfold stepL; simp only [hd]; rfl
    rw [e1, e2]
    unfold upd
    split
    · omega
    · rfl
  | true =>
    have e1 : stepH dir f k = upd f k (min (f k) (f (k - 1))) := by unfold stepH; rw [hd]; rfl
    have e2 : stepL (fun j => !dir j) (fun j => -f j) k = upd (fun j => -f j) k (max (-f k) (-f (k - 1))) := by unfold stepL; simp only [hd]; rfl
    rw [e1, e2]
    unfold upd
    split
    · omega
    · rfl
theorem sweepH_neg (dir : Nat → Bool) (f : Nat → Int) : ∀ m, (fun j => -sweepH dir f m j) = sweepL (fun j => !dir j) (fun j => -f j) m
  | 0 => rfl
  | m + 1 => by rw [sweepL, ← sweepH_neg dir f m, ← stepH_neg]; rfl
theorem roundsH_neg (n : Nat) (dir : Nat → Bool) (f : Nat → Int) : ∀ r, (fun j => -roundsH n dir f r j) = roundsL n (fun j => !dir j) (fun j => -f j) r
  | 0 => rfl
  | r + 1 => by rw [roundsL, ← roundsH_neg n dir f r, ← sweepH_neg]; rfl
theorem rounds_hi {n : Nat} (hn : 0 < n) (dir : Nat → Bool) (H : Nat → Int) {k : Nat} (hk : k < n) : roundsH n dir H n k = Hi n dir H k := by
  have h := congrFun (roundsH_neg n dir H n) k
  have h2 := rounds_lo hn (fun j => !dir j) (fun j => -H j) hk
  have h : -roundsH n dir H n k = roundsL n (fun j => !dir j) (fun j => -H j) n k := h
  unfold Hi
  omega
/-! ### Contradictions -/
/-- From one degree to a later one lights only fall, or only rise. -/
def Run (dir : Nat → Bool) (b : Bool) (i k : Nat) : Prop := ∀ j, i < j → j ≤ k → dir j = b
theorem upA_mem (dir : Nat → Bool) (L : Nat → Int) : ∀ k, ∃ i, i ≤ k ∧ Run dir false i k ∧ upA dir L k = L i
  | 0 => ⟨0, Nat.le_refl _, fun j h1 h2 => by omega, rfl⟩
  | k + 1 => by
    rw [upA]
    cases hd : dir (k + 1) with
    | true => exact ⟨k + 1, Nat.le_refl _, fun j h1 h2 => by omega, by rw [if_pos rfl]⟩
    | false =>
      obtain ⟨i, h1, h2, h3⟩ := upA_mem dir L k
      rw [if_neg (by decide)]
      by_cases hm : upA dir L k ≤ L (k + 1)
      · exact ⟨k + 1, Nat.le_refl _, fun j h1 h2 => by omega, by omega⟩
      · refine ⟨i, by omega, fun j hj1 hj2 => ?_, by omega⟩
        by_cases e : j = k + 1
        · subst e; exact hd
        · exact h2 j hj1 (by omega)
theorem upB_mem (dir : Nat → Bool) (L : Nat → Int) : ∀ m k, ∃ i, k ≤ i ∧ i ≤ k + m ∧ Run dir true k i ∧ upB dir L m k = L i
  | 0, k => ⟨k, Nat.le_refl _, Nat.le_refl _, fun j h1 h2 => by omega, rfl⟩
  | m + 1, k => by
    rw [upB]
    cases hd : dir (k + 1) with
    | false => exact ⟨k, Nat.le_refl _, by omega, fun j h1 h2 => by omega, by rw [if_neg (by decide)]⟩
    | true =>
      obtain ⟨i, h1, h2, h3, h4⟩ := upB_mem dir L m (k + 1)
      rw [if_pos rfl]
      by_cases hm : upB dir L m (k + 1) ≤ L k
      · exact ⟨k, Nat.le_refl _, by omega, fun j h1 h2 => by omega, by omega⟩
      · refine ⟨i, by omega, by omega, fun j hj1 hj2 => ?_, by omega⟩
        by_cases e : j = k + 1
        · subst e; exact hd
        · exact h3 j (by omega) hj2
/-- Where a least light comes from. -/
theorem lo_mem {n : Nat} (dir : Nat → Bool) (L : Nat → Int) {k : Nat} (hk : k < n) : ∃ i, i < n ∧ ((i ≤ k ∧ Run dir false i k) ∨ (k ≤ i ∧ Run dir true k i)) ∧ Lo n dir L k = L i := by
  obtain ⟨a, a1, a2, a3⟩ := upA_mem dir L k
  obtain ⟨b, b1, b2, b3, b4⟩ := upB_mem dir L (n - 1 - k) k
  unfold Lo
  by_cases hm : upB dir L (n - 1 - k) k ≤ upA dir L k
  · exact ⟨a, by omega, .inl ⟨a1, a2⟩, by omega⟩
  · exact ⟨b, by omega, .inr ⟨b1, b3⟩, by omega⟩
theorem hi_mem {n : Nat} (dir : Nat → Bool) (H : Nat → Int) {k : Nat} (hk : k < n) : ∃ i, i < n ∧ ((i ≤ k ∧ Run dir true i k) ∨ (k ≤ i ∧ Run dir false k i)) ∧ Hi n dir H k = H i := by
  obtain ⟨i, h1, h2, h3⟩ := lo_mem (fun j => !dir j) (fun j => -H j) hk
  refine ⟨i, h1, ?_, by unfold Hi; omega⟩
  rcases h2 with ⟨a, b⟩ | ⟨a, b⟩
  · exact .inl ⟨a, fun j h1 h2 => by have := b j h1 h2; simpa using this⟩
  · exact .inr ⟨a, fun j h1 h2 => by have := b j h1 h2; simpa using this⟩
/-- The least light is above the greatest one somewhere just if two degrees contradict each other. -/
theorem doubt_iff {n : Nat} (dir : Nat → Bool) (L H : Nat → Int) (h0 : ∀ k, k < n → L k ≤ H k) : (∃ k, k < n ∧ Hi n dir H k < Lo n dir L k) ↔ ∃ i k, i < k ∧ k < n ∧ ((Run dir true i k ∧ H i < L k) ∨ (Run dir false i k ∧ H k < L i)) := by
  constructor
  · rintro ⟨k, hk, h⟩
    obtain ⟨i, i1, i2, i3⟩ := lo_mem dir L hk
    obtain ⟨j, j1, j2, j3⟩ := hi_mem dir H hk
    rw [i3, j3] at h
    have hne : i ≠ j := fun e => by subst e; have := h0 i i1; omega
    rcases i2 with ⟨a, ra⟩ | ⟨a, ra⟩ <;> rcases j2 with ⟨b, rb⟩ | ⟨b, rb⟩
    · -- both from the left: one of them is the degree itself
      by_cases e1 : i = k
      · subst e1
        exact ⟨j, i, by omega, i1, .inl ⟨rb, h⟩⟩
      · by_cases e2 : j = k
        · subst e2
          exact ⟨i, j, by omega, j1, .inr ⟨ra, h⟩⟩
        · have h1 := ra k (by omega) (Nat.le_refl _)
          have h2 := rb k (by omega) (Nat.le_refl _)
          rw [h1] at h2; cases h2
    · refine ⟨i, j, by omega, j1, .inr ⟨fun m h1 h2 => ?_, h⟩⟩
      by_cases e : m ≤ k
      · exact ra m h1 e
      · exact rb m (by omega) h2
    · refine ⟨j, i, by omega, i1, .inl ⟨fun m h1 h2 => ?_, h⟩⟩
      by_cases e : m ≤ k
      · exact rb m h1 e
      · exact ra m (by omega) h2
    · by_cases e1 : i = k
      · subst e1
        exact ⟨i, j, by omega, j1, .inr ⟨rb, h⟩⟩
      · by_cases e2 : j = k
        · subst e2
          exact ⟨j, i, by omega, i1, .inl ⟨ra, h⟩⟩
        · have h1 := ra (k + 1) (by omega) (by omega)
          have h2 := rb (k + 1) (by omega) (by omega)
          rw [h1] at h2; cases h2
  · rintro ⟨i, k, hik, hk, h⟩
    have run_t : ∀ (f : Nat → Int), Mono n dir f → ∀ d, i + d ≤ k → (Run dir true i k → f (i + d) ≤ f i) ∧ (Run dir false i k → f i ≤ f (i + d)) := fun f hm d => by
      induction d with
      | zero => intro _; exact ⟨fun _ => Int.le_refl _, fun _ => Int.le_refl _⟩
      | succ d ih =>
        intro hd
        have ih := ih (by omega)
        have h1 := hm (i + d) (by omega)
        refine ⟨fun r => ?_, fun r => ?_⟩
        · have h2 := r (i + d + 1) (by omega) (by omega)
          rw [h2, if_pos rfl] at h1
          have := ih.1 r
          rw [show i + (d + 1) = i + d + 1 by omega]; omega
        · have h2 := r (i + d + 1) (by omega) (by omega)
          rw [h2, if_neg (by decide)] at h1
          have := ih.2 r
          rw [show i + (d + 1) = i + d + 1 by omega]; omega
    have hL := run_t _ (lo_mono n dir L) (k - i) (by omega)
    rw [show i + (k - i) = k by omega] at hL
    have g1 := lo_ge n dir L i
    have g2 := lo_ge n dir L k
    have g3 := hi_le n dir H i
    have g4 := hi_le n dir H k
    rcases h with ⟨r, h⟩ | ⟨r, h⟩
    · have := hL.1 r
      exact ⟨i, by omega, by omega⟩
    · have := hL.2 r
      exact ⟨k, hk, by omega⟩
/-- Where nothing contradicts, the least lights are below the greatest ones: each is a true lantern. -/
theorem mono_between {n : Nat} {dir : Nat → Bool} {L H f : Nat → Int} (hm : Mono n dir f) (hL : ∀ k, k < n → L k ≤ f k) (hH : ∀ k, k < n → f k ≤ H k) {k : Nat} (hk : k < n) : Lo n dir L k ≤ f k ∧ f k ≤ Hi n dir H k := ⟨lo_le hm hL hk, hi_ge hm hH hk⟩
end Go.Proofs.Ytliamojogmlgjaa
/- Zones: the program's bounds, drawn in at the angles and spread over the degrees. -/
set_option linter.unusedSimpArgs false
set_option linter.unusedVariables false
set_option maxRecDepth 100000
namespace Go.Proofs.Ytliamojogmlgjaa
open Go Go.Abs Go.Proofs
/-- A sweep that changes nothing: a solution. -/
theorem step_fix {dir : Nat → Bool} {f : Nat → Int} {k : Nat} (h : ∀ j, stepL dir f (k + 1) j = f j) : if dir (k + 1) then f (k + 1) ≤ f k else f k ≤ f (k + 1) := by
  have h1 := h k
  have h2 := h (k + 1)
  unfold stepL upd at h1 h2
  rw [show k + 1 - 1 = k from rfl] at h1 h2
  cases hd : dir (k + 1) with
  | true =>
    rw [hd, if_pos rfl, if_pos rfl] at h1
    rw [if_pos rfl]; omega
  | false =>
    rw [hd, if_neg (by decide), if_pos rfl] at h2
    rw [if_neg (by decide)]; omega
theorem sweep_fix {dir : Nat → Bool} {f : Nat → Int} : ∀ m, (∀ j, sweepL dir f m j = f j) → ∀ k, k < m → (∀ j, sweepL dir f k j = f j) ∧ ∀ j, stepL dir (sweepL dir f k) (k + 1) j = sweepL dir f k j
  | 0, _, k, hk => by omega
  | m + 1, h, k, hk => by
    have hm : ∀ j, sweepL dir f m j = f j := fun j => by
      have h1 := sweepL_ge dir f j m
      have h2 := stepL_ge dir (sweepL dir f m) (m + 1) j
      have h3 : stepL dir (sweepL dir f m) (m + 1) j = f j := h j
      omega
    by_cases e : k = m
    · subst e
      exact ⟨hm, fun j => by rw [hm j]; exact h j⟩
    · exact sweep_fix m hm k (by omega)
theorem fix_mono {n : Nat} {dir : Nat → Bool} {f : Nat → Int} (h : ∀ j, sweepL dir f (n - 1) j = f j) : Mono n dir f := fun k hk => by
  obtain ⟨h1, h2⟩ := sweep_fix (n - 1) h k (by omega)
  have e : sweepL dir f k = f := funext h1
  rw [e] at h2
  exact step_fix h2
/-- What many sweeps end in. -/
theorem fix_lo {n : Nat} {dir : Nat → Bool} {L f : Nat → Int} (hn : 0 < n) (r : Nat) (hf : f = roundsL n dir L r) (h : ∀ j, sweepL dir f (n - 1) j = f j) {k : Nat} (hk : k < n) : f k = Lo n dir L k :=
  lo_eq (fix_mono h) (fun j _ => by rw [hf]; exact roundsL_ge n dir L j r) (fun g hg hL j hj => by rw [hf]; exact roundsL_le hn hg hL r j hj) hk
/-- The angles' places among the degrees. -/
structure Lay (m n : Nat) (P : Nat → Nat) (da : Nat → Bool) (dir : Nat → Bool) : Prop where
  m2 : 2 ≤ m
  p0 : P 0 = 0
  pn : P (m - 1) + 1 = n
  up : ∀ i, i + 1 < m → P i < P (i + 1)
  d : ∀ i, i + 1 < m → ∀ k, P i < k → k ≤ P (i + 1) → dir k = da (i + 1)
theorem Lay.gap {m n : Nat} {P : Nat → Nat} {da dir : Nat → Bool} (h : Lay m n P da dir) {k : Nat} (hk0 : 0 < k) (hk : k < n) : ∃ i, i + 1 < m ∧ P i < k ∧ k ≤ P (i + 1) := by
  have key : ∀ j, j < m → k ≤ P j → ∃ i, i + 1 < m ∧ P i < k ∧ k ≤ P (i + 1) := fun j => by
    induction j with
    | zero => intro _ h2; rw [h.p0] at h2; omega
    | succ j ih =>
      intro hj hkj
      by_cases e : k ≤ P j
      · exact ih (by omega) e
      · exact ⟨j, hj, by omega, hkj⟩
  have := h.m2
  have := h.pn
  exact key (m - 1) (by omega) (by omega)
theorem Lay.lt {m n : Nat} {P : Nat → Nat} {da dir : Nat → Bool} (h : Lay m n P da dir) : ∀ {i : Nat}, i < m → P i < n := fun {i} hi => by
  have key : ∀ d, i + d < m → P i ≤ P (i + d) := fun d => by
    induction d with
    | zero => intro _; exact Nat.le_refl _
    | succ d ih =>
      intro hd
      have := ih (by omega)
      have := h.up (i + d) (by omega)
      rw [show i + (d + 1) = i + d + 1 by omega]; omega
  have h1 := key (m - 1 - i) (by omega)
  rw [show i + (m - 1 - i) = m - 1 by omega] at h1
  have := h.pn
  omega
/-- Along a gap lights only fall, or only rise. -/
theorem gap_mono {m n : Nat} {P : Nat → Nat} {da dir : Nat → Bool} (h : Lay m n P da dir) {g : Nat → Int} (hg : Mono n dir g) {i : Nat} (hi : i + 1 < m) : ∀ d k, P i ≤ k → k + d ≤ P (i + 1) → if da (i + 1) then g (k + d) ≤ g k else g k ≤ g (k + d)
  | 0, k, h1, h2 => by split <;> exact Int.le_refl _
  | d + 1, k, h1, h2 => by
    have ih := gap_mono h hg hi d k h1 (by omega)
    have hlt := h.lt hi
    have hs := hg (k + d) (by omega)
    rw [h.d i hi (k + d + 1) (by omega) (by omega)] at hs
    rw [show k + (d + 1) = k + d + 1 by omega]
    split at ih
    · rename_i hd
      rw [hd, if_pos rfl] at hs
      rw [if_pos hd]; omega
    · rename_i hd
      rw [if_neg hd] at hs
      rw [if_neg hd]; omega
/-- The lights of the angles, spread over the degrees: the lower end of each gap between. -/
theorem spread_lo {m n : Nat} {P : Nat → Nat} {da dir : Nat → Bool} (h : Lay m n P da dir) {l L F : Nat → Int} {c : Int} (hl0 : ∀ i, i < m → c ≤ l i) (hLP : ∀ i, i < m → L (P i) = l i) (hL0 : ∀ k, k < n → (∀ i, i < m → P i ≠ k) → L k = c)
    (hFP : ∀ i, i < m → F (P i) = Lo m da l i) (hFG : ∀ i, i + 1 < m → ∀ k, P i < k → k < P (i + 1) → F k = if da (i + 1) then Lo m da l (i + 1) else Lo m da l i) {k : Nat} (hk : k < n) : F k = Lo n dir L k := by
  have fm := lo_mono m da l
  refine lo_eq (fun k hk => ?_) (fun k hk => ?_) (fun g hg hgL k hk => ?_) hk
  · obtain ⟨i, hi, h1, h2⟩ := h.gap (k := k + 1) (by omega) hk
    have hs := fm i hi
    rw [h.d i hi (k + 1) h1 h2]
    have ek : F k = if da (i + 1) then (if k = P i then Lo m da l i else Lo m da l (i + 1)) else Lo m da l i := by
      by_cases e : k = P i
      · subst e
        rw [hFP i (by omega), if_pos rfl]
        split <;> rfl
      · rw [hFG i hi k (by omega) (by omega), if_neg e]
    have ek1 : F (k + 1) = if da (i + 1) then Lo m da l (i + 1) else (if k + 1 = P (i + 1) then Lo m da l (i + 1) else Lo m da l i) := by
      by_cases e : k + 1 = P (i + 1)
      · rw [e, hFP (i + 1) hi, if_pos rfl]
        split <;> rfl
      · rw [hFG i hi (k + 1) (by omega) (by omega), if_neg e]
    rw [ek, ek1]
    cases hd : da (i + 1) with
    | true =>
      rw [hd, if_pos rfl] at hs
      rw [if_pos rfl, if_pos rfl, if_pos rfl]
      split <;> omega
    | false =>
      rw [hd, if_neg (by decide)] at hs
      rw [if_neg (by decide), if_neg (by decide), if_neg (by decide)]
      split <;> omega
  · by_cases e : ∃ i, i < m ∧ P i = k
    · obtain ⟨i, hi, rfl⟩ := e
      rw [hLP i hi, hFP i hi]; exact lo_ge m da l i
    · rw [hL0 k hk (fun i hi h2 => e ⟨i, hi, h2⟩)]
      have hk0 : 0 < k := by
        by_cases e2 : 0 < k
        · exact e2
        · exact absurd ⟨0, by have := h.m2; omega, by rw [h.p0]; omega⟩ e
      obtain ⟨i, hi, h1, h2⟩ := h.gap hk0 hk
      have hne : k ≠ P (i + 1) := fun e2 => e ⟨i + 1, hi, e2.symm⟩
      rw [hFG i hi k h1 (by omega)]
      have a := lo_ge m da l i
      have b := lo_ge m da l (i + 1)
      have := hl0 i (by omega)
      have := hl0 (i + 1) hi
      split <;> omega
  · have gm : Mono m da (fun i => g (P i)) := fun i hi => by
      have := gap_mono h hg hi (P (i + 1) - P i) (P i) (Nat.le_refl _) (by have := h.up i hi; omega)
      rwa [show P i + (P (i + 1) - P i) = P (i + 1) by have := h.up i hi; omega] at this
    have hfg : ∀ i, i < m → Lo m da l i ≤ g (P i) := fun i hi => lo_le gm (fun j hj => by have := hgL (P j) (h.lt hj); rwa [hLP j hj] at this) hi
    by_cases e : ∃ i, i < m ∧ P i = k
    · obtain ⟨i, hi, rfl⟩ := e
      rw [hFP i hi]; exact hfg i hi
    · have hk0 : 0 < k := by
        by_cases e2 : 0 < k
        · exact e2
        · exact absurd ⟨0, by have := h.m2; omega, by rw [h.p0]; omega⟩ e
      obtain ⟨i, hi, h1, h2⟩ := h.gap hk0 hk
      have hne : k ≠ P (i + 1) := fun e2 => e ⟨i + 1, hi, e2.symm⟩
      rw [hFG i hi k h1 (by omega)]
      have a := gap_mono h hg hi (k - P i) (P i) (Nat.le_refl _) (by omega)
      have b := gap_mono h hg hi (P (i + 1) - k) k (by omega) (by omega)
      rw [show P i + (k - P i) = k by omega] at a
      rw [show k + (P (i + 1) - k) = P (i + 1) by omega] at b
      have c1 := hfg i (by omega)
      have c2 := hfg (i + 1) hi
      cases hd : da (i + 1) with
      | true =>
        rw [hd, if_pos rfl] at b
        rw [if_pos rfl]; omega
      | false =>
        rw [hd, if_neg (by decide)] at a
        rw [if_neg (by decide)]; omega
theorem Lay.neg {m n : Nat} {P : Nat → Nat} {da dir : Nat → Bool} (h : Lay m n P da dir) : Lay m n P (fun j => !da j) (fun j => !dir j) :=
  ⟨h.m2, h.p0, h.pn, h.up, fun i hi k h1 h2 => by rw [h.d i hi k h1 h2]⟩
theorem spread_hi {m n : Nat} {P : Nat → Nat} {da dir : Nat → Bool} (h : Lay m n P da dir) {l H F : Nat → Int} {c : Int} (hl0 : ∀ i, i < m → l i ≤ c) (hHP : ∀ i, i < m → H (P i) = l i) (hH0 : ∀ k, k < n → (∀ i, i < m → P i ≠ k) → H k = c)
    (hFP : ∀ i, i < m → F (P i) = Hi m da l i) (hFG : ∀ i, i + 1 < m → ∀ k, P i < k → k < P (i + 1) → F k = if da (i + 1) then Hi m da l i else Hi m da l (i + 1)) {k : Nat} (hk : k < n) : F k = Hi n dir H k := by
  have := spread_lo (l := fun i => -l i) (L := fun k => -H k) (F := fun k => -F k) (c := -c) h.neg (fun i hi => by have := hl0 i hi; omega) (fun i hi => by rw [hHP i hi]) (fun k hk hn => by rw [hH0 k hk hn])
    (fun i hi => by rw [hFP i hi]; unfold Hi; omega) (fun i hi k h1 h2 => by
      rw [hFG i hi k h1 h2]
      unfold Hi
      cases da (i + 1) <;> simp) hk
  unfold Hi
  omega
/-- A sweep for the greatest lights that changes nothing. -/
theorem fix_hi {n : Nat} {dir : Nat → Bool} {H f : Nat → Int} (hn : 0 < n) (r : Nat) (hf : f = roundsH n dir H r) (h : ∀ j, sweepH dir f (n - 1) j = f j) {k : Nat} (hk : k < n) : f k = Hi n dir H k := by
  have e := fix_lo (dir := fun j => !dir j) (L := fun j => -H j) (f := fun j => -f j) hn r (by rw [hf, ← roundsH_neg]) (fun j => by
    rw [← sweepH_neg]
    have := h j
    show -sweepH dir f (n - 1) j = -f j
    omega) hk
  unfold Hi
  omega
/-! ### Sums and lanterns -/
def sumW (w f : Nat → Int) : Nat → Int
  | 0 => 0
  | k + 1 => sumW w f k + w k * f k
theorem sumW_le {w f g : Nat → Int} : ∀ {n : Nat}, (∀ k, k < n → 0 ≤ w k) → (∀ k, k < n → f k ≤ g k) → sumW w f n ≤ sumW w g n
  | 0, _, _ => Int.le_refl _
  | n + 1, hw, h => by
    have ih := sumW_le (n := n) (fun k hk => hw k (by omega)) (fun k hk => h k (by omega))
    have := Int.mul_le_mul_of_nonneg_left (h n (by omega)) (hw n (by omega))
    rw [sumW, sumW]; omega
theorem sumW_congr {w f g : Nat → Int} : ∀ {n : Nat}, (∀ k, k < n → f k = g k) → sumW w f n = sumW w g n
  | 0, _ => rfl
  | n + 1, h => by rw [sumW, sumW, sumW_congr (fun k hk => h k (by omega)), h n (by omega)]
end Go.Proofs.Ytliamojogmlgjaa
/- Zones: how bounds change with the lamp. -/
set_option linter.unusedSimpArgs false
set_option linter.unusedVariables false
set_option maxRecDepth 100000
namespace Go.Proofs.Ytliamojogmlgjaa
open Go Go.Abs Go.Proofs
theorem lo_more {n : Nat} {dir : Nat → Bool} {L M : Nat → Int} (h : ∀ k, k < n → L k ≤ M k) {k : Nat} (hk : k < n) : Lo n dir L k ≤ Lo n dir M k :=
  lo_le (lo_mono n dir M) (fun j hj => Int.le_trans (h j hj) (lo_ge n dir M j)) hk
theorem hi_less {n : Nat} {dir : Nat → Bool} {H K : Nat → Int} (h : ∀ k, k < n → K k ≤ H k) {k : Nat} (hk : k < n) : Hi n dir K k ≤ Hi n dir H k :=
  hi_ge (hi_mono n dir K) (fun j hj => Int.le_trans (hi_le n dir K j) (h j hj)) hk
theorem lo_same {n : Nat} {dir : Nat → Bool} {L M : Nat → Int} (h : ∀ k, k < n → L k = M k) {k : Nat} (hk : k < n) : Lo n dir L k = Lo n dir M k := by
  have a := lo_more (dir := dir) (fun j hj => Int.le_of_eq (h j hj)) hk
  have b := lo_more (dir := dir) (fun j hj => Int.le_of_eq (h j hj).symm) hk
  omega
theorem hi_same {n : Nat} {dir : Nat → Bool} {L M : Nat → Int} (h : ∀ k, k < n → L k = M k) {k : Nat} (hk : k < n) : Hi n dir L k = Hi n dir M k := by
  have a := hi_less (dir := dir) (fun j hj => Int.le_of_eq (h j hj)) hk
  have b := hi_less (dir := dir) (fun j hj => Int.le_of_eq (h j hj).symm) hk
  omega
/-- What lies between the first numbers and the bounds changes nothing. -/
theorem lo_put {n : Nat} {dir : Nat → Bool} {L M : Nat → Int} (h1 : ∀ k, k < n → L k ≤ M k) (h2 : ∀ k, k < n → M k ≤ Lo n dir L k) {k : Nat} (hk : k < n) : Lo n dir M k = Lo n dir L k := by
  have a := lo_more (dir := dir) h1 hk
  have b := lo_le (lo_mono n dir L) h2 hk
  omega
theorem hi_put {n : Nat} {dir : Nat → Bool} {H K : Nat → Int} (h1 : ∀ k, k < n → K k ≤ H k) (h2 : ∀ k, k < n → Hi n dir H k ≤ K k) {k : Nat} (hk : k < n) : Hi n dir K k = Hi n dir H k := by
  have a := hi_less (dir := dir) h1 hk
  have b := hi_ge (hi_mono n dir H) h2 hk
  omega
/-- The lamp turned round. -/
theorem mono_rev {n : Nat} {dir dr : Nat → Bool} (hd : ∀ k, k + 1 < n → dr (k + 1) = !dir (n - 1 - k)) {f : Nat → Int} (h : Mono n dir f) : Mono n dr (fun k => f (n - 1 - k)) := fun k hk => by
  have h1 := h (n - 1 - (k + 1)) (by omega)
  rw [show n - 1 - (k + 1) + 1 = n - 1 - k by omega] at h1
  rw [hd k hk]
  cases hb : dir (n - 1 - k) <;> simp [hb] at h1 ⊢ <;> exact h1
theorem lo_rev {n : Nat} {dir dr : Nat → Bool} (hd : ∀ k, k + 1 < n → dr (k + 1) = !dir (n - 1 - k)) (L : Nat → Int) {k : Nat} (hk : k < n) : Lo n dr (fun k => L (n - 1 - k)) k = Lo n dir L (n - 1 - k) := by
  have hd2 : ∀ k, k + 1 < n → dir (k + 1) = !dr (n - 1 - k) := fun k hk => by
    have := hd (n - 1 - (k + 1)) (by omega)
    rw [show n - 1 - (k + 1) + 1 = n - 1 - k by omega, show n - 1 - (n - 1 - (k + 1)) = k + 1 by omega] at this
    rw [this, Bool.not_not]
  have e := lo_eq (f := fun k => Lo n dir L (n - 1 - k)) (L := fun k => L (n - 1 - k)) (mono_rev hd (lo_mono n dir L)) (fun j _ => lo_ge n dir L _) (fun g hg hL j hj => by
    have hg2 := mono_rev hd2 hg
    have := lo_le (L := L) hg2 (fun i hi => by have := hL (n - 1 - i) (by omega); rwa [show n - 1 - (n - 1 - i) = i by omega] at this) (k := n - 1 - j) (by omega)
    rwa [show n - 1 - (n - 1 - j) = j by omega] at this) hk
  exact e.symm
theorem hi_rev {n : Nat} {dir dr : Nat → Bool} (hd : ∀ k, k + 1 < n → dr (k + 1) = !dir (n - 1 - k)) (H : Nat → Int) {k : Nat} (hk : k < n) : Hi n dr (fun k => H (n - 1 - k)) k = Hi n dir H (n - 1 - k) := by
  have := lo_rev (dir := fun j => !dir j) (dr := fun j => !dr j) (fun k hk => by rw [hd k hk]) (fun j => -H j) hk
  unfold Hi
  rw [this]
/-- A true lantern. -/
structure True' (n : Nat) (dir : Nat → Bool) (L H f : Nat → Int) : Prop where
  m : Mono n dir f
  l : ∀ k, k < n → L k ≤ f k
  h : ∀ k, k < n → f k ≤ H k
theorem true_between {n : Nat} {dir : Nat → Bool} {L H f : Nat → Int} (h : True' n dir L H f) {k : Nat} (hk : k < n) : Lo n dir L k ≤ f k ∧ f k ≤ Hi n dir H k := mono_between h.m h.l h.h hk
theorem lo_true {n : Nat} {dir : Nat → Bool} {L H : Nat → Int} (h : ∀ k, k < n → Lo n dir L k ≤ Hi n dir H k) : True' n dir L H (Lo n dir L) :=
  ⟨lo_mono n dir L, fun k _ => lo_ge n dir L k, fun k hk => Int.le_trans (h k hk) (hi_le n dir H k)⟩
theorem hi_true {n : Nat} {dir : Nat → Bool} {L H : Nat → Int} (h : ∀ k, k < n → Lo n dir L k ≤ Hi n dir H k) : True' n dir L H (Hi n dir H) :=
  ⟨hi_mono n dir H, fun k hk => Int.le_trans (lo_ge n dir L k) (h k hk), fun k _ => hi_le n dir H k⟩
/-- A light between what it can be by itself and by the one before, degree by degree, makes a true lantern. -/
theorem walk_true {n : Nat} {dir : Nat → Bool} {L H f : Nat → Int} (h : ∀ k, k < n → Lo n dir L k ≤ Hi n dir H k) (hb : ∀ k, k < n → (if 0 < k ∧ dir k = false then max (Lo n dir L k) (f (k - 1)) else Lo n dir L k) ≤ f k ∧ f k ≤ (if 0 < k ∧ dir k = true then min (Hi n dir H k) (f (k - 1)) else Hi n dir H k)) : True' n dir L H f := by
  refine ⟨fun k hk => ?_, fun k hk => ?_, fun k hk => ?_⟩
  · have := hb (k + 1) hk
    rw [show k + 1 - 1 = k from rfl] at this
    cases hd : dir (k + 1) with
    | true =>
      rw [if_neg (by rw [hd]; simp), if_pos ⟨by omega, hd⟩] at this
      rw [if_pos rfl]; omega
    | false =>
      rw [if_pos ⟨by omega, hd⟩, if_neg (by rw [hd]; simp)] at this
      rw [if_neg (by decide)]; omega
  · have h1 := (hb k hk).1
    have h2 := lo_ge n dir L k
    split at h1 <;> omega
  · have h1 := (hb k hk).2
    have h2 := hi_le n dir H k
    split at h1 <;> omega
/-- There is a number between, each time. -/
theorem walk_room {n : Nat} {dir : Nat → Bool} {L H f : Nat → Int} (h : ∀ k, k < n → Lo n dir L k ≤ Hi n dir H k) {k : Nat} (hk : k + 1 < n) (hf : Lo n dir L k ≤ f k ∧ f k ≤ Hi n dir H k) :
    (dir (k + 1) = true → Lo n dir L (k + 1) ≤ min (Hi n dir H (k + 1)) (f k)) ∧ (dir (k + 1) = false → max (Lo n dir L (k + 1)) (f k) ≤ Hi n dir H (k + 1)) := by
  have a := lo_mono n dir L k hk
  have b := hi_mono n dir H k hk
  have c := h (k + 1) hk
  refine ⟨fun hd => ?_, fun hd => ?_⟩
  · rw [hd, if_pos rfl] at a; omega
  · rw [hd, if_neg (by decide)] at b; omega
theorem sumW_add (v w f : Nat → Int) : ∀ n, sumW (fun k => v k + w k) f n = sumW v f n + sumW w f n
  | 0 => rfl
  | n + 1 => by rw [sumW, sumW, sumW, sumW_add v w f n, Int.add_mul]; omega
theorem sumW_one (f : Nat → Int) (k : Nat) : ∀ n, sumW (fun j => if j = k then 1 else 0) f n = if k < n then f k else 0
  | 0 => by simp [sumW]
  | n + 1 => by
    rw [sumW, sumW_one f k n]
    by_cases e : n = k
    · subst e; simp
    · by_cases h : k < n
      · rw [if_pos h, if_neg e, if_pos (by omega)]; omega
      · rw [if_neg h, if_neg e, if_neg (by omega)]; omega
end Go.Proofs.Ytliamojogmlgjaa
/- Zones: lamps, and what is asked of them. -/
set_option linter.unusedSimpArgs false
set_option linter.unusedVariables false
set_option maxRecDepth 100000
namespace Go.Proofs.Ytliamojogmlgjaa
open Go Go.Abs Go.Proofs
structure Rg where
  lo : Int
  hi : Int
structure La where
  an : List Int
  li : List Rg
  fa : List Bool
  we : List Int
def gI (l : List Int) (i : Nat) : Int := l.getD i 0
def gR (l : List Rg) (i : Nat) : Rg := l.getD i ⟨0, 0⟩
def gB (l : List Bool) (i : Nat) : Bool := l.getD i false
theorem gI_lt {l : List Int} {i : Nat} (h : i < l.length) : l[i]? = some (gI l i) := by simp [gI, List.getD, h]
theorem gR_lt {l : List Rg} {i : Nat} (h : i < l.length) : l[i]? = some (gR l i) := by simp [gR, List.getD, h]
theorem gB_lt {l : List Bool} {i : Nat} (h : i < l.length) : l[i]? = some (gB l i) := by simp [gB, List.getD, h]
theorem gI_out {l : List Int} {i : Nat} (h : l.length ≤ i) : gI l i = 0 := by simp [gI, List.getD, h]
theorem gR_out {l : List Rg} {i : Nat} (h : l.length ≤ i) : gR l i = ⟨0, 0⟩ := by simp [gR, List.getD, h]
/-- The first number of those below a bound. -/
def fstN (p : Nat → Bool) : Nat → Nat
  | 0 => 0
  | n + 1 => if fstN p n < n then fstN p n else if p n then n else n + 1
theorem fstN_eq {p : Nat → Bool} {i : Nat} (hp : p i = true) (h : ∀ j, j < i → p j = false) : ∀ {n : Nat}, i < n → fstN p n = i
  | 0, hi => by omega
  | n + 1, hi => by
    have none : ∀ m, m ≤ i → fstN p m = m := fun m => by
      induction m with
      | zero => intro _; rfl
      | succ m ih =>
        intro hm
        rw [fstN, ih (by omega), if_neg (by omega), h m (by omega)]; rfl
    by_cases e : i = n
    · subst e
      rw [fstN, none i (Nat.le_refl _), if_neg (by omega), if_pos hp]
    · have ih := fstN_eq hp h (n := n) (by omega)
      rw [fstN, ih, if_pos (by omega)]
theorem fstN_none {p : Nat → Bool} : ∀ {n : Nat}, (∀ j, j < n → p j = false) → fstN p n = n
  | 0, _ => rfl
  | n + 1, h => by rw [fstN, fstN_none (n := n) (fun j hj => h j (by omega)), if_neg (by omega), h n (by omega)]; rfl
theorem fstN_at {p : Nat → Bool} : ∀ {n : Nat}, fstN p n < n → p (fstN p n) = true ∧ ∀ j, j < fstN p n → p j = false
  | 0, h => by simp [fstN] at h
  | n + 1, h => by
    rw [fstN] at h ⊢
    by_cases e : fstN p n < n
    · rw [if_pos e]; exact fstN_at e
    · rw [if_neg e] at h ⊢
      cases hp : p n with
      | false => rw [hp, if_neg (by decide)] at h; omega
      | true =>
        rw [if_pos rfl]
        refine ⟨hp, fun j hj => ?_⟩
        have none : ∀ m, ¬ fstN p m < m → ∀ j, j < m → p j = false := fun m => by
          induction m with
          | zero => intro _ j hj; omega
          | succ m ih =>
            intro hm j hj
            rw [fstN] at hm
            by_cases e2 : fstN p m < m
            · rw [if_pos e2] at hm; omega
            · rw [if_neg e2] at hm
              by_cases e3 : j = m
              · subst e3
                cases hq : p j with
                | false => rfl
                | true => rw [hq, if_pos rfl] at hm; omega
              · exact ih e2 j (by omega)
        exact none n e j hj
/-- A range is valid. -/
def rgB (top : Int) (r : Rg) : Bool := !decide (r.lo < 0) && (!decide (r.hi < r.lo) && !decide (top < r.hi))
theorem rgB_iff (top : Int) (r : Rg) : rgB top r = true ↔ 0 ≤ r.lo ∧ r.lo ≤ r.hi ∧ r.hi ≤ top := by simp [rgB]
def prv (l : List Int) (i : Nat) : Int := if i = 0 then -1 else gI l (i - 1)
def badA (l : List Int) (i : Nat) : Bool := decide (gI l i ≤ prv l i) || decide (90 < gI l i)
def badW (w : Int) : Bool := decide (w < 0) || decide (1000 < w)
/-- What CheckLamp returns. -/
def okLa (l : La) : Int :=
  if l.an.length < 2 ∨ 10 < l.an.length then 6 else if fstN (badA l.an) l.an.length < l.an.length then 2
  else if ¬ (l.li.length = l.an.length ∧ l.fa.length + 1 = l.an.length ∧ (l.we.length : Int) = gI l.an (l.an.length - 1) - gI l.an 0 + 1) then 15
  else if l.li.all (rgB 200) = true ∧ l.we.any badW = false then 0 else 2
structure OkLa (l : La) : Prop where
  m2 : 2 ≤ l.an.length
  m11 : l.an.length ≤ 11
  a0 : ∀ i, i < l.an.length → 0 ≤ gI l.an i ∧ gI l.an i ≤ 90
  up : ∀ i, i + 1 < l.an.length → gI l.an i < gI l.an (i + 1)
  li : l.li.length = l.an.length
  fa : l.fa.length + 1 = l.an.length
  we : (l.we.length : Int) = gI l.an (l.an.length - 1) - gI l.an 0 + 1
  lr : ∀ i, i < l.an.length → 0 ≤ (gR l.li i).lo ∧ (gR l.li i).lo ≤ (gR l.li i).hi ∧ (gR l.li i).hi ≤ 200
  wr : ∀ k, k < l.we.length → 0 ≤ gI l.we k ∧ gI l.we k ≤ 1000
theorem an_of_good {l : List Int} (h : ∀ i, i < l.length → badA l i = false) : (∀ i, i < l.length → 0 ≤ gI l i ∧ gI l i ≤ 90) ∧ ∀ i, i + 1 < l.length → gI l i < gI l (i + 1) := by
  have h2 : ∀ i, i < l.length → prv l i < gI l i ∧ gI l i ≤ 90 := fun i hi => by have := h i hi; simp [badA] at this; omega
  have h3 : ∀ i, i < l.length → 0 ≤ gI l i := fun i => by
    induction i with
    | zero => intro hi; have := (h2 0 hi).1; simp [prv] at this; omega
    | succ i ih => intro hi; have := (h2 (i + 1) hi).1; have := ih (by omega); simp [prv] at *; omega
  exact ⟨fun i hi => ⟨h3 i hi, (h2 i hi).2⟩, fun i hi => by have := (h2 (i + 1) hi).1; simpa [prv] using this⟩
theorem good_of_an {l : List Int} (h0 : ∀ i, i < l.length → 0 ≤ gI l i ∧ gI l i ≤ 90) (h1 : ∀ i, i + 1 < l.length → gI l i < gI l (i + 1)) : ∀ i, i < l.length → badA l i = false := fun i hi => by
  have a := h0 i hi
  cases i with
  | zero => simp [badA, prv]; omega
  | succ i => have b := h1 i hi; simp [badA, prv]; omega
theorem okLa_iff (l : La) : okLa l = 0 ↔ OkLa l ∧ l.an.length ≤ 10 := by
  unfold okLa
  constructor
  · intro h
    split at h
    · simp at h
    rename_i h1
    split at h
    · simp at h
    rename_i h2
    split at h
    · simp at h
    rename_i h3
    split at h
    case isFalse => simp at h
    rename_i h4
    obtain ⟨b1, b2, b3⟩ := Classical.not_not.1 h3
    have hg : ∀ i, i < l.an.length → badA l.an i = false := fun i hi => by
      cases hb : badA l.an i with
      | false => rfl
      | true =>
        exfalso
        apply h2
        have key : ∀ j, j ≤ i → (∀ k, k < j → badA l.an k = false) → fstN (badA l.an) l.an.length < l.an.length := fun j => by
          induction hd : i - j generalizing j with
          | zero =>
            intro hj hk
            have : j = i := by omega
            subst this
            rw [fstN_eq hb hk hi]; exact hi
          | succ d ih =>
            intro hj hk
            cases hbj : badA l.an j with
            | true => rw [fstN_eq hbj hk (by omega)]; omega
            | false => exact ih (j + 1) (by omega) (by omega) (fun k hk2 => by
                by_cases e : k = j
                · subst e; exact hbj
                · exact hk k (by omega))
        exact key 0 (by omega) (fun k hk => by omega)
    obtain ⟨c1, c2⟩ := an_of_good hg
    refine ⟨⟨by omega, by omega, c1, c2, b1, b2, b3, fun i hi => ?_, fun k hk => ?_⟩, by omega⟩
    · exact (rgB_iff _ _).1 (List.all_eq_true.1 h4.1 _ (List.mem_of_getElem? (gR_lt (by omega))))
    · have := List.any_eq_false.1 h4.2 _ (List.mem_of_getElem? (gI_lt hk))
      simp [badW] at this; omega
  · rintro ⟨h, h10⟩
    have := h.m2
    rw [if_neg (by omega), if_neg (by rw [fstN_none (good_of_an h.a0 h.up)]; omega), if_neg (fun e => e ⟨h.li, h.fa, h.we⟩), if_pos]
    refine ⟨List.all_eq_true.2 fun r hr => ?_, List.any_eq_false.2 fun w hw => ?_⟩
    · obtain ⟨i, hi⟩ := List.getElem?_of_mem hr
      have hlt := (List.getElem?_eq_some_iff.1 hi).1
      rw [gR_lt hlt] at hi
      cases hi
      exact (rgB_iff _ _).2 (h.lr i (by rw [← h.li]; exact hlt))
    · obtain ⟨i, hi⟩ := List.getElem?_of_mem hw
      have hlt := (List.getElem?_eq_some_iff.1 hi).1
      rw [gI_lt hlt] at hi
      cases hi
      have := h.wr i hlt
      simp [badW]; omega
theorem okLa_val (l : La) : okLa l = 0 ∨ okLa l = 2 ∨ okLa l = 6 ∨ okLa l = 15 := by
  unfold okLa
  split
  · simp
  split
  · simp
  split
  · simp
  split <;> simp
/-! ### Degrees -/
def P (l : La) (i : Nat) : Nat := (gI l.an i - gI l.an 0).toNat
def gapN (l : La) (d : Int) : Nat := fstN (fun i => decide (d ≤ gI l.an (i + 1))) (l.an.length - 1)
def dir (l : La) (k : Nat) : Bool := gB l.fa (gapN l (gI l.an 0 + k))
def da (l : La) (i : Nat) : Bool := gB l.fa (i - 1)
def angN (l : La) (k : Nat) : Nat := fstN (fun i => decide (gI l.an i = gI l.an 0 + k)) l.an.length
theorem OkLa.le {l : La} (h : OkLa l) : ∀ {i j : Nat}, i ≤ j → j < l.an.length → gI l.an i ≤ gI l.an j := fun {i j} hij hj => by
  induction j with
  | zero => have : i = 0 := by omega
            subst this; exact Int.le_refl _
  | succ j ih =>
    by_cases e : i = j + 1
    · subst e; exact Int.le_refl _
    · have := ih (by omega) (by omega); have := h.up j hj; omega
theorem OkLa.lt {l : La} (h : OkLa l) {i j : Nat} (hij : i < j) (hj : j < l.an.length) : gI l.an i < gI l.an j := by
  have := h.le (i := i + 1) (j := j) (by omega) hj
  have := h.up i (by omega)
  omega
theorem OkLa.p {l : La} (h : OkLa l) {i : Nat} (hi : i < l.an.length) : (P l i : Int) = gI l.an i - gI l.an 0 := by
  have := h.le (Nat.zero_le i) hi
  unfold P; omega
theorem OkLa.n91 {l : La} (h : OkLa l) : 2 ≤ l.we.length ∧ l.we.length ≤ 91 := by
  have := h.m2
  have a := h.a0 0 (by omega)
  have b := h.a0 (l.an.length - 1) (by omega)
  have c := h.we
  have d := h.lt (i := 0) (j := l.an.length - 1) (by omega) (by omega)
  omega
theorem gap_eq {l : La} (h : OkLa l) {d : Int} {i : Nat} (hi : i + 1 < l.an.length) (h1 : gI l.an i < d) (h2 : d ≤ gI l.an (i + 1)) : gapN l d = i := by
  refine fstN_eq (by simpa using h2) (fun j hj => ?_) (by omega)
  have := h.le (i := j + 1) (j := i) (by omega) (by omega)
  simp; omega
theorem ang_eq {l : La} (h : OkLa l) {i : Nat} (hi : i < l.an.length) : angN l (P l i) = i := by
  have := h.p hi
  refine fstN_eq (by simp; omega) (fun j hj => ?_) hi
  have := h.lt hj hi
  simp; omega
theorem ang_at {l : La} (h : OkLa l) {k : Nat} (hk : angN l k < l.an.length) : P l (angN l k) = k := by
  have h1 := (fstN_at hk).1
  simp at h1
  have h2 : gI l.an (angN l k) = gI l.an 0 + k := h1
  have := h.p hk
  omega
theorem ang_no {l : La} {k : Nat} (h : OkLa l) (hk : ∀ i, i < l.an.length → P l i ≠ k) : angN l k = l.an.length := by
  refine fstN_none (fun j hj => ?_)
  have := hk j hj
  have := h.p hj
  simp; omega
theorem lay {l : La} (h : OkLa l) : Lay l.an.length l.we.length (P l) (da l) (dir l) where
  m2 := h.m2
  p0 := by simp [P]
  pn := by
    have := h.m2
    have a := h.p (i := l.an.length - 1) (by omega)
    have := h.we
    omega
  up := fun i hi => by
    have a := h.p (i := i) (by omega)
    have b := h.p (i := i + 1) hi
    have := h.up i hi
    omega
  d := fun i hi k h1 h2 => by
    have a := h.p (i := i) (by omega)
    have b := h.p (i := i + 1) hi
    unfold dir da
    rw [gap_eq h hi (by omega) (by omega)]
    rfl
/-- The ranges at the degrees, of the first angles. -/
def L0m (l : La) (m : Nat) (k : Nat) : Int := if angN l k < m then (gR l.li (angN l k)).lo else 0
def H0m (l : La) (m : Nat) (k : Nat) : Int := if angN l k < m then (gR l.li (angN l k)).hi else 200
def L0 (l : La) : Nat → Int := L0m l l.an.length
def H0 (l : La) : Nat → Int := H0m l l.an.length
theorem L0m_upd {l : La} (h : OkLa l) {i : Nat} (hi : i < l.an.length) : upd (L0m l i) (P l i) (gR l.li i).lo = L0m l (i + 1) := funext fun k => by
  unfold upd L0m
  by_cases e : k = P l i
  · subst e
    rw [if_pos rfl, ang_eq h hi, if_pos (by omega)]
  · rw [if_neg e]
    have : angN l k ≠ i := fun e2 => e (by have := ang_at h (k := k) (by omega); rw [e2] at this; exact this.symm)
    by_cases e3 : angN l k < i
    · rw [if_pos e3, if_pos (by omega)]
    · rw [if_neg e3, if_neg (by omega)]
theorem H0m_upd {l : La} (h : OkLa l) {i : Nat} (hi : i < l.an.length) : upd (H0m l i) (P l i) (gR l.li i).hi = H0m l (i + 1) := funext fun k => by
  unfold upd H0m
  by_cases e : k = P l i
  · subst e
    rw [if_pos rfl, ang_eq h hi, if_pos (by omega)]
  · rw [if_neg e]
    have : angN l k ≠ i := fun e2 => e (by have := ang_at h (k := k) (by omega); rw [e2] at this; exact this.symm)
    by_cases e3 : angN l k < i
    · rw [if_pos e3, if_pos (by omega)]
    · rw [if_neg e3, if_neg (by omega)]
/-- The least and the greatest light at a degree. -/
def bl (l : La) (k : Nat) : Int := Lo l.we.length (dir l) (L0 l) k
def bh (l : La) (k : Nat) : Int := Hi l.we.length (dir l) (H0 l) k
def dbB (l : La) : Bool := (List.range l.we.length).any fun k => decide (bh l k < bl l k)
theorem dbB_iff (l : La) : dbB l = true ↔ ∃ k, k < l.we.length ∧ bh l k < bl l k := by simp [dbB]
theorem dbB_no {l : La} (h : dbB l = false) {k : Nat} (hk : k < l.we.length) : bl l k ≤ bh l k := by
  have h2 : ¬ bh l k < bl l k := fun e => (Bool.eq_false_iff.1 h) ((dbB_iff l).2 ⟨k, hk, e⟩)
  omega
theorem L0_range {l : La} (h : OkLa l) (k : Nat) : 0 ≤ L0 l k ∧ L0 l k ≤ H0 l k ∧ H0 l k ≤ 200 := by
  unfold L0 H0 L0m H0m
  by_cases e : angN l k < l.an.length
  · rw [if_pos e, if_pos e]; exact h.lr _ e
  · rw [if_neg e, if_neg e]; decide
theorem bl_range {l : La} (h : OkLa l) {k : Nat} (hk : k < l.we.length) : 0 ≤ bl l k ∧ bl l k ≤ 200 := by
  obtain ⟨i, _, _, e⟩ := lo_mem (dir l) (L0 l) hk
  have := L0_range h i
  unfold bl; omega
theorem bh_range {l : La} (h : OkLa l) {k : Nat} (hk : k < l.we.length) : 0 ≤ bh l k ∧ bh l k ≤ 200 := by
  obtain ⟨i, _, _, e⟩ := hi_mem (dir l) (H0 l) hk
  have := L0_range h i
  unfold bh; omega
/-! ### The program's table -/
def ilv (f g : Nat → Int) (j : Nat) : Int := if j % 2 = 0 then f (j / 2) else g (j / 2)
theorem ilv_lo (f g : Nat → Int) (i : Nat) : ilv f g (2 * i) = f i := by unfold ilv; rw [if_pos (by omega)]; congr 1; omega
theorem ilv_hi (f g : Nat → Int) (i : Nat) : ilv f g (2 * i + 1) = g i := by unfold ilv; rw [if_neg (by omega)]; congr 1; omega
theorem ilv_updlo (f g : Nat → Int) (i : Nat) (v : Int) : upd (ilv f g) (2 * i) v = ilv (upd f i v) g := funext fun j => by
  unfold upd ilv
  dsimp only
  by_cases e : j = 2 * i
  · subst e; rw [if_pos rfl, if_pos (by omega), if_pos (by omega)]
  · rw [if_neg e]
    split
    · rw [if_neg (by omega)]
    · rfl
theorem ilv_updhi (f g : Nat → Int) (i : Nat) (v : Int) : upd (ilv f g) (2 * i + 1) v = ilv f (upd g i v) := funext fun j => by
  unfold upd ilv
  dsimp only
  by_cases e : j = 2 * i + 1
  · subst e; rw [if_pos rfl, if_neg (by omega), if_pos (by omega)]
  · rw [if_neg e]
    split
    · rfl
    · rw [if_neg (by omega)]
def lis (l : La) (i : Nat) : Int := (gR l.li i).lo
def his (l : La) (i : Nat) : Int := (gR l.li i).hi
def alo (l : La) (i : Nat) : Int := Lo l.an.length (da l) (lis l) i
def ahi (l : La) (i : Nat) : Int := Hi l.an.length (da l) (his l) i
/-- The lights at a degree, by the bounds of the angles. -/
def spL (l : La) (f : Nat → Int) (k : Nat) : Int := if angN l k < l.an.length then f (angN l k) else if da l (gapN l (gI l.an 0 + k) + 1) then f (gapN l (gI l.an 0 + k) + 1) else f (gapN l (gI l.an 0 + k))
def spH (l : La) (f : Nat → Int) (k : Nat) : Int := if angN l k < l.an.length then f (angN l k) else if da l (gapN l (gI l.an 0 + k) + 1) then f (gapN l (gI l.an 0 + k)) else f (gapN l (gI l.an 0 + k) + 1)
theorem L0_at {l : La} (h : OkLa l) {i : Nat} (hi : i < l.an.length) : L0 l (P l i) = lis l i := by unfold L0 L0m; rw [ang_eq h hi, if_pos hi]; rfl
theorem H0_at {l : La} (h : OkLa l) {i : Nat} (hi : i < l.an.length) : H0 l (P l i) = his l i := by unfold H0 H0m; rw [ang_eq h hi, if_pos hi]; rfl
theorem between {l : La} (h : OkLa l) {i k : Nat} (hi : i + 1 < l.an.length) (h1 : P l i < k) (h2 : k < P l (i + 1)) : angN l k = l.an.length ∧ gapN l (gI l.an 0 + k) = i := by
  have a := h.p (i := i) (by omega)
  have b := h.p (i := i + 1) hi
  refine ⟨ang_no h (fun j hj e => ?_), gap_eq h hi (by omega) (by omega)⟩
  subst e
  have c := h.p hj
  by_cases e2 : j ≤ i
  · have := h.le e2 (by omega); omega
  · have := h.le (i := i + 1) (j := j) (by omega) hj; omega
theorem spL_bl {l : La} (h : OkLa l) {k : Nat} (hk : k < l.we.length) : spL l (alo l) k = bl l k := by
  refine spread_lo (lay h) (l := lis l) (L := L0 l) (F := spL l (alo l)) (c := 0) (fun i hi => (h.lr i hi).1) (fun i hi => L0_at h hi) (fun k hk hn => ?_) (fun i hi => ?_) (fun i hi k h1 h2 => ?_) hk
  · unfold L0 L0m; rw [ang_no h hn, if_neg (by omega)]
  · unfold spL; rw [ang_eq h hi, if_pos hi]; rfl
  · obtain ⟨e1, e2⟩ := between h hi h1 h2
    unfold spL; rw [e1, e2, if_neg (by omega)]; rfl
theorem spH_bh {l : La} (h : OkLa l) {k : Nat} (hk : k < l.we.length) : spH l (ahi l) k = bh l k := by
  refine spread_hi (lay h) (l := his l) (H := H0 l) (F := spH l (ahi l)) (c := 200) (fun i hi => (h.lr i hi).2.2) (fun i hi => H0_at h hi) (fun k hk hn => ?_) (fun i hi => ?_) (fun i hi k h1 h2 => ?_) hk
  · unfold H0 H0m; rw [ang_no h hn, if_neg (by omega)]
  · unfold spH; rw [ang_eq h hi, if_pos hi]; rfl
  · obtain ⟨e1, e2⟩ := between h hi h1 h2
    unfold spH; rw [e1, e2, if_neg (by omega)]; rfl
end Go.Proofs.Ytliamojogmlgjaa
/- Zones: contradictions, the search for one; the drawing of the bounds; the table. -/
set_option linter.unusedSimpArgs false
set_option linter.unusedVariables false
set_option maxRecDepth 100000
namespace Go.Proofs.Ytliamojogmlgjaa
open Go Go.Abs Go.Proofs
/-- Two angles are a contradiction. -/
def conB (l : La) (i k : Nat) : Bool := !((l.fa.take k).drop i).any (fun x => x == !gB l.fa i) && (if gB l.fa i then decide (his l i < lis l k) else decide (his l k < lis l i))
theorem run_iff {l : La} {i k : Nat} (_ : i < k) (hk : k ≤ l.fa.length) : (((l.fa.take k).drop i).any (fun x => x == !gB l.fa i) = false) ↔ Run (da l) (gB l.fa i) i k := by
  rw [List.any_eq_false]
  constructor
  · intro h j h1 h2
    have := h (gB l.fa (j - 1)) (List.mem_of_getElem? (i := j - 1 - i) (by rw [List.getElem?_drop, List.getElem?_take, if_pos (by omega), show i + (j - 1 - i) = j - 1 by omega]; exact gB_lt (by omega)))
    unfold da
    cases h3 : gB l.fa (j - 1) <;> cases h4 : gB l.fa i <;> simp [h3, h4] at this <;> rfl
  · intro h x hx
    obtain ⟨d, hd⟩ := List.getElem?_of_mem hx
    rw [List.getElem?_drop, List.getElem?_take] at hd
    split at hd
    · rename_i h1
      have h2 := h (i + d + 1) (by omega) (by omega)
      rw [gB_lt (by omega)] at hd
      cases hd
      unfold da at h2
      rw [show i + d + 1 - 1 = i + d by omega] at h2
      rw [h2]
      cases gB l.fa i <;> simp
    · cases hd
theorem conB_iff {l : La} {i k : Nat} (hik : i < k) (hk : k ≤ l.fa.length) : conB l i k = true ↔ (Run (da l) true i k ∧ his l i < lis l k) ∨ (Run (da l) false i k ∧ his l k < lis l i) := by
  have h := run_iff (l := l) hik hk
  have hr : ∀ b, Run (da l) b i k → gB l.fa i = b := fun b hb => hb (i + 1) (by omega) (by omega)
  unfold conB
  rw [Bool.and_eq_true, Bool.not_eq_true', h]
  cases hf : gB l.fa i with
  | true =>
    rw [if_pos rfl, decide_eq_true_eq]
    constructor
    · intro h; exact .inl h
    · rintro (h | ⟨h, _⟩)
      · exact h
      · have := hr _ h; rw [hf] at this; cases this
  | false =>
    rw [if_neg (by decide), decide_eq_true_eq]
    constructor
    · intro h; exact .inr h
    · rintro (⟨h, _⟩ | h)
      · have := hr _ h; rw [hf] at this; cases this
      · exact h
/-- The search for a contradiction. -/
def rowK (l : La) (i : Nat) : Nat := fstN (fun k => decide (i < k) && conB l i k) l.an.length
def cI (l : La) : Nat := fstN (fun i => decide (rowK l i < l.an.length)) l.an.length
def clashF (l : La) : Nat × Nat := if cI l < l.an.length then (cI l, rowK l (cI l)) else (0, 0)
theorem clash_some {l : La} (h : cI l < l.an.length) : (clashF l).1 < (clashF l).2 ∧ (clashF l).2 < l.an.length ∧ conB l (clashF l).1 (clashF l).2 = true := by
  have h1 := (fstN_at h).1
  have h2 : rowK l (cI l) < l.an.length := of_decide_eq_true h1
  have h3 := (fstN_at h2).1
  simp only [Bool.and_eq_true, decide_eq_true_eq] at h3
  unfold clashF
  rw [if_pos h]
  exact ⟨h3.1, h2, h3.2⟩
theorem clash_none {l : La} (h : ¬ cI l < l.an.length) {i k : Nat} (hik : i < k) (hk : k < l.an.length) : conB l i k = false := by
  cases hc : conB l i k with
  | false => rfl
  | true =>
    exfalso
    have key : ∀ (p : Nat → Bool) (n i : Nat), i < n → p i = true → fstN p n < n := fun p n i hi hp => by
      refine Classical.not_not.1 fun hn => ?_
      have none : ∀ m, ¬ fstN p m < m → ∀ j, j < m → p j = false := fun m => by
        induction m with
        | zero => intro _ j hj; omega
        | succ m ih =>
          intro hm j hj
          rw [fstN] at hm
          by_cases e2 : fstN p m < m
          · rw [if_pos e2] at hm; omega
          · rw [if_neg e2] at hm
            by_cases e3 : j = m
            · subst e3
              cases hq : p j with
              | false => rfl
              | true => rw [hq, if_pos rfl] at hm; omega
            · exact ih e2 j (by omega)
      rw [none n hn i hi] at hp; cases hp
    have h1 : rowK l i < l.an.length := key _ _ k hk (by simp [hik, hc])
    exact h (key _ _ i (by omega) (by simpa using h1))
theorem ang_doubt {l : La} (h : OkLa l) : dbB l = true ↔ ∃ i, i < l.an.length ∧ ahi l i < alo l i := by
  rw [dbB_iff]
  constructor
  · rintro ⟨k, hk, hb⟩
    rw [← spL_bl h hk, ← spH_bh h hk] at hb
    by_cases e : angN l k < l.an.length
    · unfold spL spH at hb
      rw [if_pos e, if_pos e] at hb
      exact ⟨_, e, hb⟩
    · have hk0 : 0 < k := by
        by_cases e2 : 0 < k
        · exact e2
        · have hm := h.m2
          have hz : k = 0 := by omega
          subst hz
          have := ang_eq h (i := 0) (by omega)
          rw [(lay h).p0] at this
          exact absurd (by rw [this]; omega) e
      obtain ⟨i, hi, h1, h2⟩ := (lay h).gap hk0 hk
      have hne : k ≠ P l (i + 1) := fun e2 => e (by rw [e2, ang_eq h hi]; exact hi)
      obtain ⟨e1, e2⟩ := between h hi h1 (by omega)
      unfold spL spH at hb
      simp only [e1, e2, Nat.lt_irrefl, if_false] at hb
      have a := lo_mono l.an.length (da l) (lis l) i hi
      have b := hi_mono l.an.length (da l) (his l) i hi
      cases hd : da l (i + 1) with
      | true =>
        rw [hd, if_pos rfl] at a b
        rw [hd, if_pos rfl, if_pos rfl] at hb
        exact ⟨i, by omega, by unfold alo ahi at *; omega⟩
      | false =>
        rw [hd, if_neg (by decide)] at a b
        rw [hd, if_neg (by decide), if_neg (by decide)] at hb
        exact ⟨i, by omega, by unfold alo ahi at *; omega⟩
  · rintro ⟨i, hi, hb⟩
    have hP := (lay h).lt hi
    refine ⟨P l i, hP, ?_⟩
    rw [← spL_bl h hP, ← spH_bh h hP]
    unfold spL spH
    rw [ang_eq h hi, if_pos hi, if_pos hi]; exact hb
theorem clash_iff {l : La} (h : OkLa l) : dbB l = true ↔ cI l < l.an.length := by
  have hfa := h.fa
  rw [ang_doubt h]
  have h2 := doubt_iff (n := l.an.length) (da l) (lis l) (his l) (fun k hk => (h.lr k hk).2.1)
  unfold ahi alo
  rw [h2]
  constructor
  · rintro ⟨i, k, hik, hk, hc⟩
    refine Classical.not_not.1 fun hn => ?_
    have := clash_none hn hik hk
    rw [(conB_iff hik (by omega)).2 hc] at this; cases this
  · intro hc
    obtain ⟨a, b, c⟩ := clash_some hc
    exact ⟨_, _, a, b, (conB_iff a (by omega)).1 c⟩
theorem clash_zero {l : La} (h : OkLa l) : clashF l = (0, 0) ↔ dbB l = false := by
  rw [← Bool.not_eq_true, clash_iff h]
  constructor
  · intro h1 h2
    have := (clash_some h2).1
    rw [h1] at this; simp at this
  · intro h1; unfold clashF; rw [if_neg h1]
/-! ### Drawing the bounds in -/
def rL (l : La) (r : Nat) : Nat → Int := roundsL l.an.length (da l) (lis l) r
def rH (l : La) (r : Nat) : Nat → Int := roundsH l.an.length (da l) (his l) r
theorem stepL_out {d : Nat → Bool} {f : Nat → Int} {k j : Nat} (h : k < j) : stepL d f k j = f j := by
  unfold stepL upd; split <;> dsimp only <;> rw [if_neg (by omega)]
theorem stepH_out {d : Nat → Bool} {f : Nat → Int} {k j : Nat} (h : k < j) : stepH d f k j = f j := by
  unfold stepH upd; split <;> dsimp only <;> rw [if_neg (by omega)]
theorem sweepL_out {d : Nat → Bool} {f : Nat → Int} {j : Nat} : ∀ {k : Nat}, k < j → sweepL d f k j = f j
  | 0, _ => rfl
  | k + 1, h => by rw [sweepL, stepL_out h, sweepL_out (by omega)]
theorem sweepH_out {d : Nat → Bool} {f : Nat → Int} {j : Nat} : ∀ {k : Nat}, k < j → sweepH d f k j = f j
  | 0, _ => rfl
  | k + 1, h => by rw [sweepH, stepH_out h, sweepH_out (by omega)]
theorem stepH_le (d : Nat → Bool) (f : Nat → Int) (k j : Nat) : stepH d f k j ≤ f j := by
  unfold stepH upd
  split <;> dsimp only <;> split <;> (try subst_vars) <;> omega
theorem sweepH_le (d : Nat → Bool) (f : Nat → Int) (j : Nat) : ∀ m, sweepH d f m j ≤ f j
  | 0 => Int.le_refl _
  | m + 1 => Int.le_trans (stepH_le d _ _ j) (sweepH_le d f j m)
theorem roundsH_le (n : Nat) (d : Nat → Bool) (f : Nat → Int) (j : Nat) : ∀ r, roundsH n d f r j ≤ f j
  | 0 => Int.le_refl _
  | r + 1 => Int.le_trans (sweepH_le d _ j _) (roundsH_le n d f j r)
theorem mono_const (n : Nat) (d : Nat → Bool) (c : Int) : Mono n d (fun _ => c) := fun k _ => by dsimp only; split <;> exact Int.le_refl _
theorem rL_out {l : La} (h : OkLa l) {r j : Nat} (hj : l.an.length ≤ j) : rL l r j = 0 := by
  have := h.m2
  unfold rL
  induction r with
  | zero => unfold roundsL lis; rw [gR_out (by rw [h.li]; exact hj)]
  | succ r ih => rw [roundsL, sweepL_out (by omega), ih]
theorem rH_out {l : La} (h : OkLa l) {r j : Nat} (hj : l.an.length ≤ j) : rH l r j = 0 := by
  have := h.m2
  unfold rH
  induction r with
  | zero => unfold roundsH his; rw [gR_out (by rw [h.li]; exact hj)]
  | succ r ih => rw [roundsH, sweepH_out (by omega), ih]
theorem sweepL_200 {l : La} (h : OkLa l) {r k : Nat} (hk : k < l.an.length) {j : Nat} : 0 ≤ sweepL (da l) (rL l r) k j ∧ sweepL (da l) (rL l r) k j ≤ 200 := by
  have := h.m2
  by_cases hj : j < l.an.length
  · have a := sweepL_le (mono_const l.an.length (da l) 200) (f := rL l r) (fun i hi => roundsL_le (by omega) (mono_const l.an.length (da l) 200) (f := lis l) (fun q hq => by have := h.lr q hq; unfold lis; omega) r i hi) k hk j hj
    have b := sweepL_ge (da l) (rL l r) j k
    have c := roundsL_ge l.an.length (da l) (lis l) j r
    have d := (h.lr j hj).1
    unfold rL at *; unfold lis at *; omega
  · rw [sweepL_out (by omega), rL_out h (by omega)]; decide
theorem sweepH_0 {l : La} (h : OkLa l) {r k : Nat} (hk : k < l.an.length) {j : Nat} : 0 ≤ sweepH (da l) (rH l r) k j ∧ sweepH (da l) (rH l r) k j ≤ 200 := by
  have := h.m2
  by_cases hj : j < l.an.length
  · have hneg := congrFun (sweepH_neg (da l) (rH l r) k) j
    have hneg2 := roundsH_neg l.an.length (da l) (his l) r
    have a := sweepL_le (mono_const l.an.length (fun j => !da l j) 0) (f := fun j => -rH l r j) (fun i hi => by
      have := roundsL_le (by omega) (mono_const l.an.length (fun j => !da l j) 0) (f := fun j => -his l j) (fun q hq => by have := h.lr q hq; unfold his; omega) r i hi
      rw [← hneg2] at this; exact this) k hk j hj
    have b := sweepH_le (da l) (rH l r) j k
    have c := roundsH_le l.an.length (da l) (his l) j r
    have d := (h.lr j hj).2.2
    have hneg : -sweepH (da l) (rH l r) k j = sweepL (fun j => !da l j) (fun j => -rH l r j) k j := hneg
    unfold rH at *; unfold his at *; omega
  · rw [sweepH_out (by omega), rH_out h (by omega)]; decide
theorem rL_200 {l : La} (h : OkLa l) (r j : Nat) : 0 ≤ rL l r j ∧ rL l r j ≤ 200 := sweepL_200 (k := 0) h (by have := h.m2; omega)
theorem rH_0 {l : La} (h : OkLa l) (r j : Nat) : 0 ≤ rH l r j ∧ rH l r j ≤ 200 := sweepH_0 (k := 0) h (by have := h.m2; omega)
/-- How much is left to draw in. -/
def meas (l : La) (r : Nat) : Nat → Nat
  | 0 => 0
  | i + 1 => meas l r i + ((200 - rL l r i) + rH l r i).toNat
theorem rL_up (l : La) (r j : Nat) : rL l r j ≤ rL l (r + 1) j := sweepL_ge (da l) _ j _
theorem rH_down (l : La) (r j : Nat) : rH l (r + 1) j ≤ rH l r j := sweepH_le (da l) _ j _
theorem meas_le {l : La} (h : OkLa l) (r : Nat) : ∀ m, meas l (r + 1) m ≤ meas l r m
  | 0 => Nat.le_refl _
  | m + 1 => by
    have ih := meas_le h r m
    have := rL_up l r m
    have := rH_down l r m
    rw [meas, meas]; omega
theorem meas_lt {l : La} (h : OkLa l) {r j : Nat} (hj : rL l (r + 1) j ≠ rL l r j ∨ rH l (r + 1) j ≠ rH l r j) : ∀ m, j < m → meas l (r + 1) m < meas l r m
  | 0, hm => by omega
  | m + 1, hm => by
    have ih := meas_le h r m
    have a := rL_up l r m
    have b := rH_down l r m
    have c := rL_200 h (r + 1) m
    have d := rH_0 h (r + 1) m
    rw [meas, meas]
    by_cases e : j = m
    · subst e; omega
    · have := meas_lt h hj m (by omega); omega
def eqN (n : Nat) (f g : Nat → Int) : Bool := (List.range n).all fun k => decide (f k = g k)
theorem draw_more {l : La} (h : OkLa l) {r : Nat} (hne : eqN 22 (ilv (rL l (r + 1)) (rH l (r + 1))) (ilv (rL l r) (rH l r)) = false) : meas l (r + 1) l.an.length < meas l r l.an.length := by
  unfold eqN at hne
  rw [List.all_eq_false] at hne
  obtain ⟨j, hj, hne⟩ := hne
  have hne : ilv (rL l (r + 1)) (rH l (r + 1)) j ≠ ilv (rL l r) (rH l r) j := by simpa using hne
  have hd : rL l (r + 1) (j / 2) ≠ rL l r (j / 2) ∨ rH l (r + 1) (j / 2) ≠ rH l r (j / 2) := by
    unfold ilv at hne
    split at hne
    · exact .inl hne
    · exact .inr hne
  refine meas_lt h hd _ (Classical.not_not.1 fun hn => ?_)
  rw [rL_out h (by omega), rL_out h (by omega), rH_out h (by omega), rH_out h (by omega)] at hd
  simp at hd
def aL (l : La) (i : Nat) : Int := if i < l.an.length then alo l i else 0
def aH (l : La) (i : Nat) : Int := if i < l.an.length then ahi l i else 0
theorem draw_done {l : La} (h : OkLa l) {r : Nat} (he : eqN 22 (ilv (rL l (r + 1)) (rH l (r + 1))) (ilv (rL l r) (rH l r)) = true) : rL l (r + 1) = aL l ∧ rH l (r + 1) = aH l := by
  have hm := h.m2
  have h11 := h.m11
  have h2 : ∀ i, rL l (r + 1) i = rL l r i ∧ rH l (r + 1) i = rH l r i := fun i => by
    by_cases hi : i < l.an.length
    · have h3 : ∀ j, j < 22 → ilv (rL l (r + 1)) (rH l (r + 1)) j = ilv (rL l r) (rH l r) j := fun j hj => by
        have := List.all_eq_true.1 he j (List.mem_range.2 hj)
        simpa using this
      have a := h3 (2 * i) (by omega)
      have b := h3 (2 * i + 1) (by omega)
      rw [ilv_lo, ilv_lo] at a
      rw [ilv_hi, ilv_hi] at b
      exact ⟨a, b⟩
    · rw [rL_out h (by omega), rL_out h (by omega), rH_out h (by omega), rH_out h (by omega)]; exact ⟨rfl, rfl⟩
  refine ⟨funext fun i => ?_, funext fun i => ?_⟩
  · rw [(h2 i).1]
    unfold aL
    by_cases hi : i < l.an.length
    · rw [if_pos hi]
      exact fix_lo (by omega) r rfl (fun j => (h2 j).1) hi
    · rw [if_neg hi, rL_out h (by omega)]
  · rw [(h2 i).2]
    unfold aH
    by_cases hi : i < l.an.length
    · rw [if_pos hi]
      exact fix_hi (by omega) r rfl (fun j => (h2 j).2) hi
    · rw [if_neg hi, rH_out h (by omega)]
/-! ### The degrees -/
def dkF (l : La) (q : Nat → Int) (k j : Nat) : Int := if j < k ∧ ¬ angN l j < l.an.length then q j else 0
theorem dkF_upd {l : La} {q : Nat → Int} {k : Nat} (hk : ¬ angN l k < l.an.length) : upd (dkF l q k) k (q k) = dkF l q (k + 1) := funext fun j => by
  unfold upd dkF
  by_cases e : j = k
  · subst e; rw [if_pos rfl, if_pos ⟨by omega, hk⟩]
  · rw [if_neg e]
    by_cases h2 : j < k ∧ ¬ angN l j < l.an.length
    · rw [if_pos h2, if_pos ⟨by omega, h2.2⟩]
    · rw [if_neg h2, if_neg (fun h3 => h2 ⟨by omega, h3.2⟩)]
theorem dkF_skip {l : La} {q : Nat → Int} {k : Nat} (hk : angN l k < l.an.length) : dkF l q k = dkF l q (k + 1) := funext fun j => by
  unfold dkF
  by_cases h2 : j < k ∧ ¬ angN l j < l.an.length
  · rw [if_pos h2, if_pos ⟨by omega, h2.2⟩]
  · rw [if_neg h2, if_neg (fun h3 => h2 ⟨by
      by_cases e : j = k
      · subst e; exact absurd hk h3.2
      · omega, h3.2⟩)]
theorem dkF_zero (l : La) (q : Nat → Int) : dkF l q 0 = fun _ => 0 := funext fun j => by unfold dkF; rw [if_neg (by omega)]
def eF (l : La) (q a : Nat → Int) (i j : Nat) : Int := if angN l j < l.an.length then (if angN l j < i then a (angN l j) else 0) else if j < l.we.length then q j else 0
theorem eF_zero (l : La) (q a : Nat → Int) : dkF l q l.we.length = eF l q a 0 := funext fun j => by
  unfold dkF eF
  by_cases e : angN l j < l.an.length
  · rw [if_neg (fun h => h.2 e), if_pos e, if_neg (by omega)]
  · rw [if_neg e]
    by_cases e2 : j < l.we.length
    · rw [if_pos ⟨e2, e⟩, if_pos e2]
    · rw [if_neg (fun h => e2 h.1), if_neg e2]
theorem eF_upd {l : La} (h : OkLa l) {q a : Nat → Int} {i : Nat} (hi : i < l.an.length) : upd (eF l q a i) (P l i) (a i) = eF l q a (i + 1) := funext fun j => by
  unfold upd eF
  by_cases e : j = P l i
  · subst e
    rw [if_pos rfl, ang_eq h hi, if_pos hi, if_pos (by omega)]
  · rw [if_neg e]
    by_cases e2 : angN l j < l.an.length
    · rw [if_pos e2, if_pos e2]
      have hne : angN l j ≠ i := fun e3 => e (by have := ang_at h e2; rw [e3] at this; exact this.symm)
      by_cases e3 : angN l j < i
      · rw [if_pos e3, if_pos (by omega)]
      · rw [if_neg e3, if_neg (by omega)]
    · rw [if_neg e2, if_neg e2]
def cut (n : Nat) (f : Nat → Int) (k : Nat) : Int := if k < n then f k else 0
theorem ang_in {l : La} (h : OkLa l) {j : Nat} (hj : angN l j < l.an.length) : j < l.we.length := by
  have := (lay h).lt hj
  rw [ang_at h hj] at this; exact this
theorem eF_lo {l : La} (h : OkLa l) : eF l (spL l (alo l)) (aL l) l.an.length = cut l.we.length (bl l) := funext fun j => by
  unfold eF cut
  by_cases e : angN l j < l.an.length
  · rw [if_pos e, if_pos e, if_pos (ang_in h e), ← spL_bl h (ang_in h e)]
    unfold spL aL; rw [if_pos e, if_pos e]
  · rw [if_neg e]
    by_cases e2 : j < l.we.length
    · rw [if_pos e2, if_pos e2, spL_bl h e2]
    · rw [if_neg e2, if_neg e2]
theorem eF_hi {l : La} (h : OkLa l) : eF l (spH l (ahi l)) (aH l) l.an.length = cut l.we.length (bh l) := funext fun j => by
  unfold eF cut
  by_cases e : angN l j < l.an.length
  · rw [if_pos e, if_pos e, if_pos (ang_in h e), ← spH_bh h (ang_in h e)]
    unfold spH aH; rw [if_pos e, if_pos e]
  · rw [if_neg e]
    by_cases e2 : j < l.we.length
    · rw [if_pos e2, if_pos e2, spH_bh h e2]
    · rw [if_neg e2, if_neg e2]
end Go.Proofs.Ytliamojogmlgjaa
