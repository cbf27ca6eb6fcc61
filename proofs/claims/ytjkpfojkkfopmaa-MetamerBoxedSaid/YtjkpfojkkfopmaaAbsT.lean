/- A table of types that is looked up fast. -/
import Derived.Test.YtjkpfojkkfopmaaMB
set_option linter.unusedSimpArgs false
set_option linter.unusedVariables false
namespace Go.Abs
open Go
def nthL {α : Type} (d : α) : List α → Nat → α
  | [], _ => d
  | a :: _, 0 => a
  | _ :: r, i + 1 => nthL d r i
theorem nthL_out {α : Type} (d : α) : ∀ (l : List α) (i : Nat), l.length ≤ i → nthL d l i = d
  | [], _, _ => rfl
  | _ :: _, 0, h => by simp at h
  | _ :: r, i + 1, h => nthL_out d r i (by simpa using h)
/-- By sixteens. -/
def lookC (A : List (List (Option TI))) (t : Nat) : Option TI := nthL none (nthL [] A (t / 16)) (t % 16)
theorem lookC_lt {A : List (List (Option TI))} {t : Nat} {i : TI} (h : lookC A t = some i) : t < 16 * A.length := by
  refine Classical.byContradiction fun hn => ?_
  unfold lookC at h
  rw [nthL_out [] A _ (by omega)] at h
  cases h
theorem ttok_key {P : Program} {tt : Nat → Option TI} (key : ∀ t i, tt t = some i → checkT P t i = true) : TTok P tt := by
  refine ⟨fun t i hi => ?_, fun t i hi => ?_, fun t i hi ha => ?_, fun t i hi ha => ?_⟩
  all_goals
    have hc := key t i hi
    simp only [checkT, Bool.and_eq_true] at hc
    obtain ⟨⟨⟨h1, h2⟩, h3⟩, h4⟩ := hc
  · split at h1
    · rename_i d hd; exact ⟨d, hd, eqD_strip h1 h4⟩
    · cases h1
  · split at h2
    · rename_i inf hinf
      simp only [Bool.and_eq_true, beq_iff_eq] at h2
      obtain ⟨⟨e1, e2⟩, e3⟩ := h2
      split at e3
      · rename_i z hz
        simp only [Bool.and_eq_true, beq_iff_eq] at e3
        obtain ⟨⟨f1, f3⟩, f4⟩ := e3
        exact ⟨inf, hinf, e1, e2, z, hz, f1, f3, f4⟩
      · cases e3
    · cases h2
  · rw [ha] at h3; simpa using h3
  · rw [ha] at h3
    simp only [if_true] at h3
    split at h3
    · rename_i cs hz; exact ⟨cs, hz⟩
    · cases h3
theorem ttok_fast {P : Program} {A : List (List (Option TI))} (h : (List.range (16 * A.length)).all (fun t => match lookC A t with | some i => checkT P t i | none => true) = true) : TTok P (lookC A) :=
  ttok_key fun t i hi => by
    have := List.all_eq_true.1 h t (List.mem_range.2 (lookC_lt hi))
    rw [hi] at this; exact this
/-- Types that are compared, by a mask. -/
theorem eok_fast {P : Program} {tt : Nat → Option TI} {m N : Nat} (hN : m < 2 ^ N) (h : (List.range N).all (fun t => !m.testBit t || (flatB P tt 20 t && !(P.eqGuardType P.depth t))) = true) (t : Nat) (ht : m.testBit t = true) : flatB P tt 20 t = true ∧ P.eqGuardType P.depth t = false := by
  have hlt : t < N := by
    refine Classical.byContradiction fun hn => ?_
    have := Nat.testBit_lt_two_pow (Nat.lt_of_lt_of_le hN (Nat.pow_le_pow_right (by decide) (by omega : N ≤ t)))
    rw [this] at ht; cases ht
  have := List.all_eq_true.1 h t (List.mem_range.2 hlt)
  rw [ht] at this
  simpa using this
end Go.Abs
