/- The plain law: a step is gone. -/
import Derived.Test.YteamgbndnfjoaaaDoorL3
import Derived.Test.YteamgbndnfjoaaaDoorS11
set_option linter.unusedSimpArgs false
set_option linter.unusedVariables false
set_option maxRecDepth 100000
namespace Go.Proofs.YteamgbndnfjoaaaDoor
open Go Go.Abs Go.Proofs

/-- A street with posts that stand, as it is between steps. -/
structure OkW (r : Rd) (w : W) (N : Int) : Prop where
  st : ∀ i, w.1 i = 0 ∨ w.1 i = 1
  lit : ∀ i : Nat, w.1 i = 1 → i < r.ps.length ∧ rFrom r i < rTo r i
  b0 : ∀ k, 0 ≤ w.2 k
  bN : ∀ k, w.2 k ≤ N
/-- By how much a step goes over a place. -/
def cr (s : Stp) (p : Nat) : Int := (if (p : Int) < s.to then 1 else 0) - (if (p : Int) < s.fr then 1 else 0)
/-- How often a place is lit, less how often one goes back over it. -/
def netw (r : Rd) (w : W) (p : Nat) : Int := litP r w.1 r.ps.length p - w.2 p
theorem mem_steps {r : Rd} {w : W} {s : Stp} : s ∈ stepsL r w.1 w.2 ↔ (∃ k, k < r.pl.toNat ∧ s = ⟨(k : Int) + 1, k, 0, -1⟩) ∨ (∃ k, k < r.pl.toNat ∧ 0 < w.2 k ∧ s = ⟨k, (k : Int) + 1, 0, -1⟩) ∨ (∃ i, i < r.ps.length ∧ rFrom r i < rTo r i ∧ s = postS r w.1 i) := by
  simp only [stepsL, List.mem_append, List.mem_flatMap, List.mem_range, backL, List.mem_cons, postL]
  constructor
  · rintro (⟨k, hk, h | h⟩ | ⟨i, hi, h⟩)
    · exact .inl ⟨k, hk, h⟩
    · split at h
      · rename_i hb; exact .inr (.inl ⟨k, hk, hb, by simpa using h⟩)
      · simp at h
    · split at h
      · rename_i hb; exact .inr (.inr ⟨i, hi, hb, by simpa using h⟩)
      · simp at h
  · rintro (⟨k, hk, h⟩ | ⟨k, hk, hb, h⟩ | ⟨i, hi, hb, h⟩)
    · exact .inl ⟨k, hk, .inl h⟩
    · exact .inl ⟨k, hk, .inr (by rw [if_pos hb]; simp [h])⟩
    · exact .inr ⟨i, hi, by rw [if_pos hb]; simp [h]⟩
theorem litP_upd {r : Rd} {f : Nat → Int} {x : Nat} {v : Int} (p : Int) : ∀ m, x < m → litP r (upd f x v) m p = litP r f m p + if litB r (po r x) p then v - f x else 0
  | 0, h => by omega
  | m + 1, h => by
    simp only [litP]
    by_cases e : x = m
    · subst e
      rw [litP_ext (f := upd f x v) (g := f) p x (fun i hi => upd_ne _ _ (by omega)), upd_same]
      split <;> omega
    · rw [litP_upd p m (by omega), upd_ne _ _ (Ne.symm e)]
      omega
theorem litB_iff (r : Rd) (i : Nat) (p : Nat) : litB r (po r i) p = true ↔ rFrom r i ≤ p ∧ (p : Int) < rTo r i := by
  simp only [litB, decide_eq_true_eq, rFrom, rTo]; omega
theorem okL_steps {r : Rd} {w : W} (hr : OkR r) : OkL (stepsL r w.1 w.2) := by
  refine ⟨steps_ok hr, fun s hs => ?_⟩
  rcases mem_steps.1 hs with ⟨k, _, rfl⟩ | ⟨k, _, _, rfl⟩ | ⟨i, _, hft, rfl⟩
  · simp; omega
  · simp; omega
  · simp only [postS]; split <;> simp only [] <;> omega

theorem step_take {r : Rd} {w : W} {N : Int} {pi : Nat → Int} {s : Stp} (hr : OkR r) (hw : OkW r w N) (hN : N ≤ 1000000) (hs : s ∈ stepsL r w.1 w.2) (hrc : RC (stepsL r w.1 w.2) pi) (ht : pi s.to.toNat = pi s.fr.toNat + s.co) :
    OkW r (takeS s w) (N + 1) ∧ RC (stepsL r (takeS s w).1 (takeS s w).2) pi ∧ (∀ p, p < r.pl.toNat → netw r (takeS s w) p = netw r w p + cr s p) ∧ (∀ t ∈ stepsL r w.1 w.2, t.to ≠ s.to → t ∈ stepsL r (takeS s w).1 (takeS s w).2) := by
  have p40 := hr.p40
  rcases mem_steps.1 hs with ⟨k, hk, rfl⟩ | ⟨k, hk, hb, rfl⟩ | ⟨i, hi, hft, rfl⟩
  · -- back over a place
    have hbk := hw.b0 k
    have hbN := hw.bN k
    have e : takeS ⟨(k : Int) + 1, k, 0, -1⟩ w = (w.1, upd w.2 k (w.2 k + 1)) := by
      simp only [takeS, ne_eq, not_true, if_false]
      rw [if_pos (by omega)]
      simp only [Int.toNat_natCast]
      rw [wr_id (by omega) (by omega)]
    rw [e]
    have hk1 : ((k : Int) + 1).toNat = k + 1 := by omega
    simp only [Int.toNat_natCast, hk1, Int.add_zero] at ht
    refine ⟨⟨hw.st, hw.lit, fun j => ?_, fun j => ?_⟩, fun t ht' => ?_, fun p hp => ?_, fun t ht' hne => ?_⟩
    · simp only [upd]; split
      · omega
      · exact hw.b0 j
    · simp only [upd]; split
      · omega
      · have := hw.bN j; omega
    · rcases mem_steps.1 ht' with ⟨k', h1, rfl⟩ | ⟨k', h1, h2, rfl⟩ | ⟨i, h1, h2, rfl⟩
      · exact hrc _ (mem_steps.2 (.inl ⟨k', h1, rfl⟩))
      · by_cases e : k' = k
        · subst e
          simp only [Int.toNat_natCast, hk1, Int.add_zero]
          omega
        · simp only [upd, e, if_false] at h2
          exact hrc _ (mem_steps.2 (.inr (.inl ⟨k', h1, h2, rfl⟩)))
      · exact hrc _ (mem_steps.2 (.inr (.inr ⟨i, h1, h2, rfl⟩)))
    · simp only [netw, cr, upd]
      by_cases e : p = k
      · subst e; simp; omega
      · have h1 : ((p : Int) < (k : Int)) ↔ ((p : Int) < (k : Int) + 1) := by omega
        simp only [e, if_false, h1]; omega
    · rcases mem_steps.1 ht' with ⟨k', h1, rfl⟩ | ⟨k', h1, h2, rfl⟩ | ⟨i, h1, h2, rfl⟩
      · exact mem_steps.2 (.inl ⟨k', h1, rfl⟩)
      · refine mem_steps.2 (.inr (.inl ⟨k', h1, ?_, rfl⟩))
        simp only [upd]; split <;> omega
      · exact mem_steps.2 (.inr (.inr ⟨i, h1, h2, rfl⟩))
  · -- on again
    have hbN := hw.bN k
    have e : takeS ⟨k, (k : Int) + 1, 0, -1⟩ w = (w.1, upd w.2 k (w.2 k - 1)) := by
      simp only [takeS, ne_eq, not_true, if_false]
      rw [if_neg (by omega)]
      simp only [Int.toNat_natCast]
      rw [wr_id (by omega) (by omega)]
    rw [e]
    have hk1 : ((k : Int) + 1).toNat = k + 1 := by omega
    simp only [Int.toNat_natCast, hk1, Int.add_zero] at ht
    refine ⟨⟨hw.st, hw.lit, fun j => ?_, fun j => ?_⟩, fun t ht' => ?_, fun p hp => ?_, fun t ht' hne => ?_⟩
    · simp only [upd]; split
      · omega
      · exact hw.b0 j
    · simp only [upd]; split
      · omega
      · have := hw.bN j; omega
    · rcases mem_steps.1 ht' with ⟨k', h1, rfl⟩ | ⟨k', h1, h2, rfl⟩ | ⟨i, h1, h2, rfl⟩
      · exact hrc _ (mem_steps.2 (.inl ⟨k', h1, rfl⟩))
      · refine hrc _ (mem_steps.2 (.inr (.inl ⟨k', h1, ?_, rfl⟩)))
        simp only [upd] at h2
        split at h2
        · rename_i e; subst e; exact hb
        · exact h2
      · exact hrc _ (mem_steps.2 (.inr (.inr ⟨i, h1, h2, rfl⟩)))
    · simp only [netw, cr, upd]
      by_cases e : p = k
      · subst e; simp; omega
      · have h1 : ((p : Int) < (k : Int)) ↔ ((p : Int) < (k : Int) + 1) := by omega
        simp only [e, if_false, h1]; omega
    · rcases mem_steps.1 ht' with ⟨k', h1, rfl⟩ | ⟨k', h1, h2, rfl⟩ | ⟨i, h1, h2, rfl⟩
      · exact mem_steps.2 (.inl ⟨k', h1, rfl⟩)
      · refine mem_steps.2 (.inr (.inl ⟨k', h1, ?_, rfl⟩))
        simp only at hne
        simp only [upd]; split <;> omega
      · exact mem_steps.2 (.inr (.inr ⟨i, h1, h2, rfl⟩))
  · -- a post
    have hlen := hr.len
    have hpo : (postS r w.1 i).po = (i : Int) := by simp only [postS]; split <;> rfl
    have hst := hw.st i
    have e : takeS (postS r w.1 i) w = (upd w.1 i (1 - w.1 i), w.2) := by
      simp only [takeS, hpo]
      rw [if_pos (by omega), Int.toNat_natCast, wr_id (by omega) (by omega)]
    rw [e]
    have hf0 : 0 ≤ rFrom r i := by
      have := hr.post (i := (i : Int)) (by omega) (by omega)
      have := hr.i0
      simp only [rFrom]; omega
    refine ⟨⟨fun j => ?_, fun j hj => ?_, hw.b0, fun j => by have := hw.bN j; show w.2 j ≤ N + 1; omega⟩, fun t ht' => ?_, fun p hp => ?_, fun t ht' hne => ?_⟩
    · simp only [upd]; split
      · omega
      · exact hw.st j
    · simp only [upd] at hj
      split at hj
      · rename_i e; subst e; exact ⟨hi, hft⟩
      · exact hw.lit j hj
    · rcases mem_steps.1 ht' with ⟨k', h1, rfl⟩ | ⟨k', h1, h2, rfl⟩ | ⟨i', h1, h2, rfl⟩
      · exact hrc _ (mem_steps.2 (.inl ⟨k', h1, rfl⟩))
      · exact hrc _ (mem_steps.2 (.inr (.inl ⟨k', h1, h2, rfl⟩)))
      · by_cases e : i' = i
        · subst e
          rcases hst with h | h
          · have e1 : postS r w.1 i' = ⟨rFrom r i', rTo r i', (po r i').co, i'⟩ := by simp [postS, h]
            have e2 : postS r (upd w.1 i' (1 - w.1 i')) i' = ⟨rTo r i', rFrom r i', -(po r i').co, i'⟩ := by simp [postS, h, upd_same]
            rw [e1] at ht
            rw [e2]
            simp only at ht ⊢
            omega
          · have e1 : postS r w.1 i' = ⟨rTo r i', rFrom r i', -(po r i').co, i'⟩ := by simp [postS, h]
            have e2 : postS r (upd w.1 i' (1 - w.1 i')) i' = ⟨rFrom r i', rTo r i', (po r i').co, i'⟩ := by simp [postS, h, upd_same]
            rw [e1] at ht
            rw [e2]
            simp only at ht ⊢
            omega
        · have e2 : postS r (upd w.1 i (1 - w.1 i)) i' = postS r w.1 i' := by simp [postS, upd_ne _ _ e]
          rw [e2]
          exact hrc _ (mem_steps.2 (.inr (.inr ⟨i', h1, h2, rfl⟩)))
    · simp only [netw]
      rw [litP_upd (p : Int) r.ps.length hi]
      have hb := litB_iff r i p
      rcases hst with h | h
      · have e1 : postS r w.1 i = ⟨rFrom r i, rTo r i, (po r i).co, i⟩ := by simp [postS, h]
        rw [e1]
        simp only [cr, h]
        by_cases hl : litB r (po r i) (p : Int) = true
        · have := hb.1 hl
          rw [if_pos hl, if_pos this.2, if_neg (by omega)]; omega
        · have : ¬ (rFrom r i ≤ p ∧ (p : Int) < rTo r i) := fun h => hl (hb.2 h)
          rw [if_neg hl]
          by_cases h3 : (p : Int) < rFrom r i
          · rw [if_pos h3, if_pos (by omega)]; omega
          · rw [if_neg h3, if_neg (by omega)]; omega
      · have e1 : postS r w.1 i = ⟨rTo r i, rFrom r i, -(po r i).co, i⟩ := by simp [postS, h]
        rw [e1]
        simp only [cr, h]
        by_cases hl : litB r (po r i) (p : Int) = true
        · have := hb.1 hl
          rw [if_pos hl, if_pos this.2, if_neg (by omega)]; omega
        · have : ¬ (rFrom r i ≤ p ∧ (p : Int) < rTo r i) := fun h => hl (hb.2 h)
          rw [if_neg hl]
          by_cases h3 : (p : Int) < rFrom r i
          · rw [if_pos h3, if_pos (by omega)]; omega
          · rw [if_neg h3, if_neg (by omega)]; omega
    · rcases mem_steps.1 ht' with ⟨k', h1, rfl⟩ | ⟨k', h1, h2, rfl⟩ | ⟨i', h1, h2, rfl⟩
      · exact mem_steps.2 (.inl ⟨k', h1, rfl⟩)
      · exact mem_steps.2 (.inr (.inl ⟨k', h1, h2, rfl⟩))
      · by_cases e : i' = i
        · subst e; exact absurd rfl hne
        · exact mem_steps.2 (.inr (.inr ⟨i', h1, h2, by simp [postS, upd_ne _ _ e]⟩))
end Go.Proofs.YteamgbndnfjoaaaDoor
