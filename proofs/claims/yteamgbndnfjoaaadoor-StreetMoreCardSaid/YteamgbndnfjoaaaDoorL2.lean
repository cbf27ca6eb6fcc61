/- The plain law: the ends' costs are found. -/
import Derived.Test.YteamgbndnfjoaaaDoorL1
set_option linter.unusedSimpArgs false
set_option linter.unusedVariables false
set_option maxRecDepth 100000
namespace Go.Proofs.YteamgbndnfjoaaaDoor
open Go Go.Abs Go.Proofs

theorem inv_q0 (l : List Stp) (pi : Nat → Int) : Inv l pi q0 := by
  have h0 : q0.far 0 = 0 := by simp [q0, upd]
  have hn : ∀ v, v ≠ 0 → q0.far v = never := fun v hv => by simp [q0, upd, hv]
  refine ⟨h0, fun v _ h => ?_, fun v _ h => ?_, fun v _ => ?_, fun v _ hv h => absurd (hn v hv) h, fun v _ h => ?_⟩
  · by_cases e : v = 0
    · subst e; rw [h0]; omega
    · exact absurd (hn v e) h
  · by_cases e : v = 0
    · subst e; rw [h0]; omega
    · exact absurd (hn v e) h
  · by_cases e : v = 0
    · subst e; rw [h0]; decide
    · rw [hn v e]; exact Int.le_refl _
  · by_cases e : v = 0
    · subst e; exact ⟨0, .zero⟩
    · exact absurd (hn v e) h
theorem inv_round {l : List Stp} {pi : Nat → Int} (hl : OkL l) (hrc : RC l pi) (hpb : PB pi) : ∀ (a : List Stp) {q : FS}, (∀ s ∈ a, s ∈ l) → Inv l pi q → Inv l pi (roundF a q)
  | [], q, _, h => h
  | s :: a, q, ha, h => inv_round hl hrc hpb a (q := relax q s) (fun x hx => ha x (by simp [hx])) (inv_relax hl hrc hpb (ha s (by simp)) h)
theorem relax_le (q : FS) (s : Stp) (v : Nat) : (relax q s).far v ≤ q.far v := by
  unfold relax
  split
  · exact Int.le_refl _
  · simp only [upd]
    split
    · rename_i e; subst e; exact Int.min_le_left _ _
    · exact Int.le_refl _
theorem round_le : ∀ (a : List Stp) (q : FS) (v : Nat), (roundF a q).far v ≤ q.far v
  | [], q, v => Int.le_refl _
  | s :: a, q, v => Int.le_trans (round_le a (relax q s) v) (relax_le q s v)
def sumF (f : Nat → Int) : Nat → Int
  | 0 => 0
  | m + 1 => sumF f m + f m
theorem sumF_le {f g : Nat → Int} (h : ∀ v, f v ≤ g v) : ∀ m, sumF f m ≤ sumF g m
  | 0 => Int.le_refl _
  | m + 1 => by have := sumF_le h m; have := h m; simp only [sumF]; omega
theorem sumF_lt {f g : Nat → Int} (h : ∀ v, f v ≤ g v) {k : Nat} (hk : f k ≠ g k) : ∀ m, k < m → sumF f m < sumF g m
  | 0, hm => by omega
  | m + 1, hm => by
    have h1 := h m
    simp only [sumF]
    by_cases e : k = m
    · subst e
      have := sumF_le h k; omega
    · have := sumF_lt h hk m (by omega); omega
theorem sumF_nonneg {f : Nat → Int} : ∀ m, (∀ v, v < m → 0 ≤ f v) → 0 ≤ sumF f m
  | 0, _ => Int.le_refl _
  | m + 1, h => by
    have := sumF_nonneg m (fun v hv => h v (by omega)); have := h m (by omega); simp only [sumF]; omega
theorem Inv.nonneg {l : List Stp} {pi : Nat → Int} {q : FS} (hpb : PB pi) (h : Inv l pi q) {v : Nat} (hv : v ≤ 40) : 0 ≤ q.far v := by
  by_cases e : q.far v = never
  · rw [e]; decide
  · have := h.low v hv e; have := hpb.zero; have := hpb.lo v hv; omega
/-- No step betters an end. -/
def Fix (l : List Stp) (f : Nat → Int) : Prop := ∀ s ∈ l, f s.fr.toNat ≠ never → f s.to.toNat ≤ f s.fr.toNat + s.co
theorem fix_of {l : List Stp} {pi : Nat → Int} {q : FS} (hl : OkL l) (hrc : RC l pi) (hpb : PB pi) (hi : Inv l pi q) (h : eqN 41 (roundF l q).far q.far = true) : Fix l (roundF l q).far := by
  intro s hs hn
  obtain ⟨a, b, rfl⟩ := List.append_of_mem hs
  have heq : ∀ v, v ≤ 40 → (roundF (a ++ s :: b) q).far v = q.far v := fun v hv => by
    have := List.all_eq_true.1 h v (by simp; omega)
    simpa using this
  have ho := hl.ok s hs
  have a0 := ho.f0
  have a1 := ho.f40
  have a2 := ho.t0
  have a3 := ho.t40
  have a4 := ho.c0
  have a5 := ho.c1
  have e : roundF (a ++ s :: b) q = roundF b (relax (roundF a q) s) := by rw [roundF_app]; rfl
  have hm : ∀ v, v ≤ 40 → (roundF a q).far v = (roundF (a ++ s :: b) q).far v := fun v hv => by
    have h1 := round_le a q v
    have h2 := relax_le (roundF a q) s v
    have h3 := round_le b (relax (roundF a q) s) v
    rw [← e, heq v hv] at h3
    rw [heq v hv]; omega
  have hia := inv_round hl hrc hpb a (fun x hx => by simp [hx]) hi
  have hnf : (roundF a q).far s.fr.toNat ≠ never := by rw [hm _ (by omega)]; exact hn
  have hhi := hia.high _ (by omega) hnf
  have hlo := hia.nonneg hpb (v := s.fr.toNat) (by omega)
  have hrl := rcn_le (roundF a q).far 41
  have hw : wr .i64 ((roundF a q).far s.fr.toNat + s.co) = (roundF a q).far s.fr.toNat + s.co := wr_id (by omega) (by omega)
  have h4 : (relax (roundF a q) s).far s.to.toNat ≤ (roundF a q).far s.fr.toNat + s.co := by
    rw [relax, if_neg hnf, hw]
    simp only [upd_same]
    exact Int.min_le_right _ _
  have h3 := round_le b (relax (roundF a q) s) s.to.toNat
  rw [← e] at h3
  rw [← hm s.fr.toNat (by omega)]
  omega
theorem findR_mono {l : List Stp} : ∀ {n : Nat} {q x : FS}, findR l n q = some x → ∀ k, findR l (n + k) q = some x
  | 0, q, x, h, k => by cases h
  | n + 1, q, x, h, k => by
    rw [Nat.add_right_comm, findR]
    rw [findR] at h
    split at h
    · rename_i he; rw [if_pos he]; exact h
    · rename_i he; rw [if_neg he]; exact findR_mono h k
theorem find_ex {l : List Stp} {pi : Nat → Int} (hl : OkL l) (hrc : RC l pi) (hpb : PB pi) : ∀ (m : Nat) {q : FS}, Inv l pi q → sumF q.far 41 < m → ∃ n x, findR l n q = some x ∧ Inv l pi x ∧ Fix l x.far
  | 0, q, hi, hm => by
    have := sumF_nonneg 41 (fun v hv => hi.nonneg hpb (v := v) (by omega))
    omega
  | m + 1, q, hi, hm => by
    have hi2 := inv_round hl hrc hpb l (fun x hx => hx) hi
    cases he : eqN 41 (roundF l q).far q.far with
    | true => exact ⟨1, roundF l q, by rw [findR, if_pos he], hi2, fix_of hl hrc hpb hi he⟩
    | false =>
      obtain ⟨k, hk, hne⟩ := List.all_eq_false.1 he
      have hlt := sumF_lt (fun v => round_le l q v) (k := k) (by simpa using hne) 41 (by simpa using hk)
      obtain ⟨n, x, h1, h2, h3⟩ := find_ex hl hrc hpb m hi2 (by omega)
      exact ⟨n + 1, x, by rw [findR, he]; exact h1, h2, h3⟩
end Go.Proofs.YteamgbndnfjoaaaDoor
