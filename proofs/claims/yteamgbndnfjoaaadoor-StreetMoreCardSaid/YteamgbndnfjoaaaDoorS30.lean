/- More posts, a greater Dead or Dirt, all costs 1: the plain law of StreetMore. -/
import Derived.Test.YteamgbndnfjoaaaDoorS25
import Derived.Test.YteamgbndnfjoaaaDoorS23
set_option linter.unusedSimpArgs false
set_option linter.unusedVariables false
set_option maxRecDepth 100000
namespace Go.Proofs.YteamgbndnfjoaaaDoor
open Go Go.Abs Go.Proofs
def addR (r : Rd) (p : Po) : Rd := { r with ps := r.ps ++ [p] }
theorem po_add {r : Rd} {p : Po} {m : Nat} (h : m < r.ps.length) : po (addR r p) m = po r m := by
  simp [po, addR, List.getElem?_append_left h]
theorem litP_addR {r : Rd} {p : Po} {st : Nat → Int} {k : Int} : ∀ {m : Nat}, m ≤ r.ps.length → litP (addR r p) st m k = litP r st m k
  | 0, _ => rfl
  | m + 1, h => by rw [litP, litP, litP_addR (by omega), po_add (by omega)]; rfl
theorem costP_addR {r : Rd} {p : Po} {st : Nat → Int} : ∀ {m : Nat}, m ≤ r.ps.length → costP (addR r p) st m = costP r st m
  | 0, _ => rfl
  | m + 1, h => by rw [costP, costP, costP_addR (by omega), po_add (by omega)]
theorem add_len (r : Rd) (p : Po) : (addR r p).ps.length = r.ps.length + 1 := by simp [addR]
/-- With one post more there is a choice that costs no more. -/
theorem least_add {r : Rd} {p : Po} {n m : Int} (a : Least r n) (b : Least (addR r p) m) : m ≤ n := by
  obtain ⟨st, h01, hh, he⟩ := a.some
  have e : ∀ i, i < r.ps.length → (if i < r.ps.length then st i else 0) = st i := fun i hi => if_pos hi
  have e0 : (if r.ps.length < r.ps.length then st r.ps.length else 0) = 0 := if_neg (Nat.lt_irrefl _)
  have := b.all (fun i => if i < r.ps.length then st i else 0) (fun i => by split; exact h01 i; exact .inl rfl) (fun q hq => by
    have := hh q hq
    rw [add_len, litP, litP_addR (Nat.le_refl _), litP_congr (g := st) (q : Int) e, e0, ite_self, Int.add_zero]
    exact this)
  rw [add_len, costP, costP_addR (Nat.le_refl _), costP_congr (g := st) e, e0, Int.mul_zero, Int.add_zero, he] at this
  exact this
theorem hold_add {r : Rd} {p : Po} {n : Int} (a : Least r n) : ∃ st : Nat → Int, (∀ i, st i = 0 ∨ st i = 1) ∧ HoldS (addR r p) st := by
  obtain ⟨st, h01, hh, he⟩ := a.some
  have e : ∀ i, i < r.ps.length → (if i < r.ps.length then st i else 0) = st i := fun i hi => if_pos hi
  have e0 : (if r.ps.length < r.ps.length then st r.ps.length else 0) = 0 := if_neg (Nat.lt_irrefl _)
  refine ⟨fun i => if i < r.ps.length then st i else 0, fun i => by dsimp only; split; exact h01 i; exact .inl rfl, fun q hq => ?_⟩
  have := hh q hq
  rw [add_len, litP, litP_addR (Nat.le_refl _), litP_congr (g := st) (q : Int) e, e0, ite_self, Int.add_zero]
  exact this
/-- A street that is harder to light. -/
theorem least_hard {r y : Rd} {n m : Int} (hps : y.ps = r.ps) (hh : ∀ st : Nat → Int, (∀ i, st i = 0 ∨ st i = 1) → HoldS y st → HoldS r st) (a : Least r n) (b : Least y m) : n ≤ m := by
  obtain ⟨st, h01, h, he⟩ := b.some
  have := a.all st h01 (hh st h01 h)
  have hc : ∀ k, costP y st k = costP r st k := by
    intro k
    induction k with
    | zero => rfl
    | succ k ih => rw [costP, costP, ih]; simp only [po, hps]
  rw [hps, hc] at he
  omega
def deR (r : Rd) : Rd := { r with de := r.de + 1 }
def diR (r : Rd) : Rd := { r with di := r.di + 1 }
theorem hold_de (r : Rd) (st : Nat → Int) (_ : ∀ i, st i = 0 ∨ st i = 1) (h : HoldS (deR r) st) : HoldS r st := fun p hp => by
  have h1 := h p hp
  have e : ∀ k, litP (deR r) st k p = litP r st k p := by
    intro k
    induction k with
    | zero => rfl
    | succ k ih => rw [litP, litP, ih]; rfl
  rw [e] at h1
  have : (deR r).de = r.de + 1 := rfl
  have : (deR r).ps = r.ps := rfl
  have h2 : r.de + 1 < litP r st r.ps.length p := h1
  omega
theorem litP_di (r : Rd) {st : Nat → Int} (h01 : ∀ i, st i = 0 ∨ st i = 1) (k : Int) : ∀ m, litP (diR r) st m k ≤ litP r st m k
  | 0 => Int.le_refl _
  | m + 1 => by
    have ih := litP_di r h01 k m
    rw [litP, litP]
    have e : po (diR r) m = po r m := rfl
    rw [e]
    have hs := h01 m
    by_cases hb : litB (diR r) (po r m) k = true
    · have hb2 : litB r (po r m) k = true := by
        unfold litB at hb ⊢
        have h3 := of_decide_eq_true hb
        have h4 : (po r m).fr + (r.di + 1) ≤ k ∧ k ≤ (po r m).to - (r.di + 1) := h3
        exact decide_eq_true (by omega)
      rw [if_pos hb, if_pos hb2]; omega
    · rw [if_neg hb]; split <;> omega
theorem hold_di (r : Rd) (st : Nat → Int) (h01 : ∀ i, st i = 0 ∨ st i = 1) (h : HoldS (diR r) st) : HoldS r st := fun p hp => by
  have h1 := h p hp
  have h2 := litP_di r h01 p r.ps.length
  have h3 : r.de < litP (diR r) st r.ps.length p := h1
  omega
def onesR (r : Rd) : Rd := { r with ps := r.ps.map fun p => { p with co := 1 } }
theorem po_ones {r : Rd} {m : Nat} (h : m < r.ps.length) : po (onesR r) m = { po r m with co := 1 } := by
  obtain ⟨p, hp⟩ := get_of_lt h
  simp [po, onesR, hp]
theorem ones_len (r : Rd) : (onesR r).ps.length = r.ps.length := by simp [onesR]
theorem litP_ones {r : Rd} {st : Nat → Int} {k : Int} : ∀ {m : Nat}, m ≤ r.ps.length → litP (onesR r) st m k = litP r st m k
  | 0, _ => rfl
  | m + 1, h => by rw [litP, litP, litP_ones (by omega), po_ones (by omega)]; rfl
theorem hold_ones (r : Rd) (st : Nat → Int) : HoldS (onesR r) st ↔ HoldS r st := by
  unfold HoldS
  rw [ones_len]
  constructor
  · intro h p hp; have := h p hp; rwa [litP_ones (Nat.le_refl _)] at this
  · intro h p hp; have := h p hp; rw [litP_ones (Nat.le_refl _)]; exact this
theorem ones_ok {r : Rd} (h : OkR r) : OkR (onesR r) where
  len := by rw [ones_len]; exact h.len
  p1 := h.p1
  p40 := h.p40
  d0 := h.d0
  d2 := h.d2
  i0 := h.i0
  i5 := h.i5
  ok := fun p hp => by
    obtain ⟨q, hq, rfl⟩ := List.mem_map.1 hp
    obtain ⟨a, b, c, _, _⟩ := h.ok q hq
    have e2 : (onesR r).pl = r.pl := rfl
    rw [e2]
    exact ⟨a, b, c, (show (0 : Int) ≤ 1 by decide), (show (1 : Int) ≤ 1000000 by decide)⟩
end Go.Proofs.YteamgbndnfjoaaaDoor
