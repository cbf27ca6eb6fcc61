/- Facts about cases, for the laws. -/
import Derived.Test.YtklmpopomokglaaY26
import Derived.Test.YtklmpopomokglaaAbsE
set_option linter.unusedSimpArgs false
set_option linter.unusedVariables false
namespace Go.Proofs.Ytklmpopomokglaa
open Go Go.Abs Go.Proofs
theorem seenL_rng' {n : Int} {rows : List (List Int)} {c : Int × Int} (hp : OkP n rows) (hc : OkC n c) : ∀ x ∈ seenL rows c, -1 ≤ x ∧ x ≤ 1 := fun x hx => by
  simp only [seenL, List.mem_map] at hx
  obtain ⟨r, hr, rfl⟩ := hx
  have := at_bound hp hr c.1
  exact mul3 hc.slo hc.shi this.1 this.2
theorem rngB_seen {n : Int} {rows : List (List Int)} {c : Int × Int} (hp : OkP n rows) (hc : OkC n c) : rngB (seenL rows c) = false := by
  unfold rngB
  rw [List.any_eq_false]
  intro x hx
  have := seenL_rng' hp hc x hx
  simp; omega
theorem isCase_all' {n : Int} {k : Nat} (h1 : 1 ≤ n) (hk : (k : Int) ≤ n) : ∀ c ∈ allL k, isCase n c = true := by
  induction k with
  | zero => intro c hc; simp [allL] at hc; subst hc; simp [isCase]
  | succ k ih =>
    intro c hc
    simp only [allL, List.mem_append, List.mem_cons, List.not_mem_nil, or_false] at hc
    rcases hc with hc | rfl | rfl
    · exact ih (by omega) c hc
    · simp [isCase]; omega
    · simp [isCase]; omega
theorem isCase_all {n : Int} {rows : List (List Int)} {c : Int × Int} (hp : OkP n rows) (hc : c ∈ allL n.toNat) : isCase n c = true := isCase_all' hp.n1 (by have := hp.n1; omega) c hc
theorem okC_all {n : Int} {rows : List (List Int)} {c : Int × Int} (hp : OkP n rows) (hc : c ∈ allL n.toNat) : OkC n c := allL_ok n.toNat n hp.n1 (by have := hp.n1; omega) c hc
theorem faded_mem (n b : Int) : faded n b ∈ allL n.toNat := List.mem_of_getElem? (faded_get n b)
theorem mem_casesL {n : Int} {rows : List (List Int)} {c : Int × Int} {l : List Int} : c ∈ casesL n rows l ↔ c ∈ allL n.toNat ∧ seenL rows c = l := by
  simp [casesL]
theorem tells_inj {n : Int} {rows : List (List Int)} (ht : tellsB rows n.toNat = true) {a b : Int × Int} (ha : a ∈ allL n.toNat) (hb : b ∈ allL n.toNat) (h : seenL rows a = seenL rows b) : a = b := by
  have hnd : ((allL n.toNat).map (seenL rows)).Nodup := of_decide_eq_true ht
  obtain ⟨i, hi, rfl⟩ := List.getElem_of_mem ha
  obtain ⟨j, hj, rfl⟩ := List.getElem_of_mem hb
  have key : ∀ i j (hi : i < (allL n.toNat).length) (hj : j < (allL n.toNat).length), i < j → seenL rows (allL n.toNat)[i] = seenL rows (allL n.toNat)[j] → False := fun i j hi hj hij he =>
    List.pairwise_iff_getElem.1 hnd i j (by simpa using hi) (by simpa using hj) hij (by simpa using he)
  rcases Nat.lt_trichotomy i j with h1 | h1 | h1
  · exact (key i j hi hj h1 h).elim
  · subst h1; rfl
  · exact (key j i hj hi h1 h.symm).elim
theorem filter_one {α : Type} [DecidableEq α] (p : α → Bool) : ∀ (l : List α) (a : α), l.Nodup → a ∈ l → p a = true → (∀ b ∈ l, p b = true → b = a) → l.filter p = [a]
  | [], a, _, h, _, _ => by cases h
  | x :: l, a, hnd, hm, hp, hu => by
    rw [List.nodup_cons] at hnd
    by_cases e : x = a
    · subst e
      rw [List.filter_cons_of_pos hp]
      congr 1
      rw [List.filter_eq_nil_iff]
      intro b hb hpb
      have := hu b (List.mem_cons_of_mem _ hb) hpb
      subst this
      exact hnd.1 hb
    · have hx : ¬ p x = true := fun h => e (hu x (by simp) h)
      rw [List.filter_cons_of_neg hx]
      refine filter_one p l a hnd.2 ?_ hp (fun b hb => hu b (List.mem_cons_of_mem _ hb))
      rcases List.mem_cons.1 hm with h | h
      · exact absurd h.symm e
      · exact h
theorem tells_one {n : Int} {rows : List (List Int)} (ht : tellsB rows n.toNat = true) {c : Int × Int} (hc : c ∈ allL n.toNat) : casesL n rows (seenL rows c) = [c] := by
  refine filter_one _ _ c (allL_nodup _) hc (by simp) (fun b hb h => ?_)
  exact tells_inj ht hb hc (of_decide_eq_true h)
theorem clash26_any {n : Int} {rows : List (List Int)} (hp : OkP n rows) : ∃ a b : Int × Int, Abs.Pure Try.prog 26 [planV n rows] (.tup [caseV a, caseV b, I (if tellsB rows n.toNat then 5 else 0)]) := by
  cases ht : tellsB rows n.toNat with
  | true => exact ⟨_, _, clash26_tells n rows hp ht⟩
  | false => obtain ⟨x, y, _, _, _, _, h⟩ := clash26_not n rows hp ht; exact ⟨x, y, h⟩
theorem seen_len (rows : List (List Int)) (c : Int × Int) : (seenL rows c).length = rows.length := by simp [seenL]
end Go.Proofs.Ytklmpopomokglaa
