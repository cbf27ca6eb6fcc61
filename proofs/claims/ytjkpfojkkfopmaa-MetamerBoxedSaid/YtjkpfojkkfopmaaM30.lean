/- Metamers: the ends of what two chips are apart, without the program. -/
import Derived.Test.YtjkpfojkkfopmaaM21
set_option linter.unusedSimpArgs false
set_option linter.unusedVariables false
set_option maxRecDepth 100000
namespace Go.Proofs.Ytjkpfojkkfopmaa
open Go Go.Abs Go.Proofs

/-- High in the bands of p, low elsewhere. -/
def selL (N : Nat) (p : Nat → Bool) (f : Nat → Rg) : List Int := (List.range N).map fun b => if p b = true then (f b).hi else (f b).lo
theorem selL_len (N : Nat) (p : Nat → Bool) (f : Nat → Rg) : (selL N p f).length = N := by simp [selL]
def upTo (p : Nat → Bool) (n b : Nat) : Bool := decide (b < n) && p b
theorem selL_congr {N : Nat} {p q : Nat → Bool} {f : Nat → Rg} (h : ∀ b, b < N → p b = q b) : selL N p f = selL N q f := by
  unfold selL
  exact List.map_congr_left fun b hb => by rw [h b (List.mem_range.1 hb)]
theorem selL_all (N : Nat) (p : Nat → Bool) (f : Nat → Rg) : selL N (upTo p N) f = selL N p f := selL_congr fun b hb => by simp [upTo, hb]
theorem selL_none (N : Nat) (p : Nat → Bool) (f : Nat → Rg) : selL N (upTo p 0) f = selL N (fun _ => false) f := selL_congr fun b hb => by simp [upTo]
theorem selL_keep {N n : Nat} {p : Nat → Bool} (f : Nat → Rg) (hp : p n = false) : selL N (upTo p (n + 1)) f = selL N (upTo p n) f := selL_congr fun b hb => by
  unfold upTo
  by_cases e : b = n
  · subst e; simp [hp]
  · by_cases h : b < n
    · simp [h, show b < n + 1 by omega]
    · simp [h, show ¬ b < n + 1 by omega]
theorem selL_set {N n : Nat} {p : Nat → Bool} (f : Nat → Rg) (hn : n < N) (hp : p n = true) : (selL N (upTo p n) f).set n (f n).hi = selL N (upTo p (n + 1)) f := by
  refine List.ext_getElem? fun j => ?_
  unfold selL
  by_cases hj : j < N
  · by_cases e : n = j
    · subst e
      rw [List.getElem?_set_self (by simpa using hj), List.getElem?_map, List.getElem?_range hj]
      simp [upTo, hp]
    · rw [List.getElem?_set_ne e, List.getElem?_map, List.getElem?_map, List.getElem?_range hj]
      have : upTo p (n + 1) j = upTo p n j := by
        unfold upTo
        by_cases h : j < n
        · simp [h, show j < n + 1 by omega]
        · simp [h, show ¬ j < n + 1 by omega]
      simp [this]
  · rw [List.getElem?_eq_none (by rw [List.length_set, List.length_map, List.length_range]; omega), List.getElem?_eq_none (by rw [List.length_map, List.length_range]; omega)]

def endE (c : Cs) (k : Nat) (p : Nat → Bool) (i b : Nat) : Int := if (decide (i = k) && p b) = true then (c.e i b).hi else (c.e i b).lo
def endL (c : Cs) (p : Nat → Bool) (b : Nat) : Int := if p b = true then (c.l b).hi else (c.l b).lo
/-- A truth with the high ends of one curve and the lamp in the bands of p. -/
def endT (c : Cs) (k : Nat) (p : Nat → Bool) : Tr := mkT c.lamp.length (endE c k p) (endL c p)
theorem endT_at (c : Cs) (k : Nat) (p : Nat → Bool) : endT c k p = ⟨[selL c.lamp.length (fun b => decide (0 = k) && p b) (c.e 0), selL c.lamp.length (fun b => decide (1 = k) && p b) (c.e 1), selL c.lamp.length (fun b => decide (2 = k) && p b) (c.e 2)], selL c.lamp.length p c.l⟩ := rfl
theorem low_true (c : Cs) : trueL c [] c.lamp.length = selL c.lamp.length (fun _ => false) c.l := by
  unfold trueL selL
  exact List.map_congr_left fun b _ => by simp [pickV]
theorem low_trueN (c : Cs) (i : Nat) : trueN c [] i c.lamp.length = selL c.lamp.length (fun _ => false) (c.e i) := by
  unfold trueN selL trueR
  exact List.map_congr_left fun b _ => by simp [pickV]
variable {c : Cs}
theorem endT_ok (hc : OkC c) (k : Nat) (p : Nat → Bool) : OkT c (endT c k p) := by
  refine mkT_ok (fun i b _ _ => ?_) (fun b _ => ?_)
  · have := hc.be i b
    unfold endE
    split <;> omega
  · have := hc.bl b
    unfold endL
    split <;> omega
theorem pX_end {k b : Nat} (p : Nat → Bool) (hk : k < 3) (hb : b < c.lamp.length) : pX (endT c k p) k b = if p b = true then pH c k b else pL c k b := by
  rw [endT, pX_mkT hk hb, endE, endL]
  cases hp : p b <;> simp [pH, pL]
theorem pL_le (hc : OkC c) {k b : Nat} (hk : k < 3) (hb : b < c.lamp.length) : pL c k b ≤ pH c k b := by
  have h := OkT.between hc (trueT_ok hc []) hk hb
  omega
theorem end_lo (hc : OkC c) {a b : List Int} (hb : b.length = a.length) (ha : a.length = c.lamp.length) {k : Nat} (hk : k < 3) {p : Nat → Bool} (hp : ∀ n, n < a.length → (p n = false ↔ gI b n < gI a n)) :
    seeF (pX (endT c k p)) a k - seeF (pX (endT c k p)) b k = spLo c (lessL a b) k (lessL a b).length := by
  rw [← see_less hb]
  unfold seeF seeS spLo
  refine sumF_congr fun j hj => ?_
  rw [lessL_len] at hj
  have hj' : j < c.lamp.length := by omega
  rw [pX_end p hk hj', gI_less hj]
  have h1 := pL_le hc hk hj'
  have h2 := hp j hj
  cases hpj : p j with
  | false =>
    have h3 := h2.1 hpj
    have h4 := Int.mul_le_mul_of_nonneg_right h1 (show 0 ≤ gI a j - gI b j by omega)
    simp only [Bool.false_eq_true, if_false]
    rw [Int.mul_comm]; omega
  | true =>
    have h3 : ¬ gI b j < gI a j := fun h => by have := h2.2 h; rw [hpj] at this; cases this
    have h4 := Int.mul_le_mul_of_nonneg_right h1 (show 0 ≤ gI b j - gI a j by omega)
    have e1 : pL c k j * (gI b j - gI a j) = -(pL c k j * (gI a j - gI b j)) := by rw [← Int.mul_neg]; congr 1; omega
    have e2 : pH c k j * (gI b j - gI a j) = -(pH c k j * (gI a j - gI b j)) := by rw [← Int.mul_neg]; congr 1; omega
    simp only [if_true]
    rw [Int.mul_comm]; omega
theorem end_hi (hc : OkC c) {a b : List Int} (hb : b.length = a.length) (ha : a.length = c.lamp.length) {k : Nat} (hk : k < 3) {p : Nat → Bool} (hp : ∀ n, n < a.length → (p n = true ↔ gI b n < gI a n)) :
    seeF (pX (endT c k p)) a k - seeF (pX (endT c k p)) b k = spHi c (lessL a b) k (lessL a b).length := by
  rw [← see_less hb]
  unfold seeF seeS spHi
  refine sumF_congr fun j hj => ?_
  rw [lessL_len] at hj
  have hj' : j < c.lamp.length := by omega
  rw [pX_end p hk hj', gI_less hj]
  have h1 := pL_le hc hk hj'
  have h2 := hp j hj
  cases hpj : p j with
  | true =>
    have h3 := h2.1 hpj
    have h4 := Int.mul_le_mul_of_nonneg_right h1 (show 0 ≤ gI a j - gI b j by omega)
    simp only [if_true]
    rw [Int.mul_comm]; omega
  | false =>
    have h3 : ¬ gI b j < gI a j := fun h => by have := h2.2 h; rw [hpj] at this; cases this
    have h4 := Int.mul_le_mul_of_nonneg_right h1 (show 0 ≤ gI b j - gI a j by omega)
    have e1 : pL c k j * (gI b j - gI a j) = -(pL c k j * (gI a j - gI b j)) := by rw [← Int.mul_neg]; congr 1; omega
    have e2 : pH c k j * (gI b j - gI a j) = -(pH c k j * (gI a j - gI b j)) := by rw [← Int.mul_neg]; congr 1; omega
    simp only [Bool.false_eq_true, if_false]
    rw [Int.mul_comm]; omega
/-- In the bands in which the first chip has more. -/
def moreP (a b : List Int) (n : Nat) : Bool := decide (gI b n < gI a n)
def lessP (a b : List Int) (n : Nat) : Bool := !decide (gI b n < gI a n)
end Go.Proofs.Ytjkpfojkkfopmaa
