/- The range over all cases, at any heaps. -/
import Derived.Test.YtklmpopomokglaaY5
set_option linter.unusedSimpArgs false
set_option linter.unusedVariables false
namespace Go.Proofs.Ytklmpopomokglaa
open Go Go.Abs Go.Proofs

set_option maxHeartbeats 1000000 in
theorem cases51 (ds : List D) (H : List AB) : ACall Try.prog 51 [.c (.dp ds)] H (one (.c (.fn (.func 64) [.ptr H.length 0])) (H ++ [.cells [.dp ds]])) := by
  refine acall_fit (X := tx) (nt := 4) (rs := [.tmp 2]) Try.func51 rfl rfl rfl rfl mo (by kernel_rfl) (fun hf => ?_)
  simp only [go_sem, reduceIte, Nat.reduceEqDiff, Nat.reduceAdd, Nat.reduceLT, Nat.reduceLeDiff, Nat.reduceBEq, Nat.reduceMul, Nat.reduceSub, Nat.reduceDiv, Int.reduceNeg, Int.reduceLT, Int.reduceLE, Int.reduceEq, Int.reduceToNat, tt3, tt4, tt5, tt22, tt24, tt29, tt26, tt30, tt36, tt59, tt62, tt63, tt87, tt88, tt89, ti3, ti22, ti29, ti26, eq26, eq62, eq63]
  exact ⟨rfl, rfl⟩

theorem allL_get : ∀ (k j : Nat) (x : Int × Int), (allL k)[j]? = some x → j < 2 * k + 1 := fun k j x h => by
  have := (List.getElem?_eq_some_iff.1 h).1
  rw [allL_len] at this; exact this
theorem allL_zero (k : Nat) : (allL k)[0]? = some (0, 0) := by
  induction k with
  | zero => rfl
  | succ k ih =>
    rw [allL, List.getElem?_append_left (by rw [allL_len]; omega)]; exact ih
theorem allL_odd : ∀ (n k : Nat), k < n → (allL n)[2 * k + 1]? = some ((k : Int), -1) ∧ (allL n)[2 * k + 2]? = some ((k : Int), 1)
  | 0, k, h => by omega
  | n + 1, k, h => by
    by_cases e : k = n
    · subst e
      constructor
      · rw [allL, List.getElem?_append_right (by rw [allL_len]; omega), allL_len]; simp
      · rw [allL, List.getElem?_append_right (by rw [allL_len]; omega), allL_len]
        have : 2 * k + 2 - (2 * k + 1) = 1 := by omega
        rw [this]; rfl
    · obtain ⟨h1, h2⟩ := allL_odd n k (by omega)
      constructor
      · rw [allL, List.getElem?_append_left (by rw [allL_len]; omega)]; exact h1
      · rw [allL, List.getElem?_append_left (by rw [allL_len]; omega)]; exact h2

/-- The heap behind the range: the round that stopped it, or the last one. -/
def endOf (N : Nat) (stop : Nat → Bool) (Hs : Nat → List AB) (H' : List AB) : Prop :=
  ∃ j, j ≤ N ∧ H' = Hs j ∧ (∀ i, i + 1 < j → stop i = false) ∧ (j = N ∨ (0 < j ∧ stop (j - 1) = true))

set_option maxHeartbeats 2000000 in
theorem cases64 (n : Int) (rows : List (List Int)) (id b : Nat) (Hs : Nat → List AB) (stop : Nat → Bool) (h1 : 1 ≤ n) (h39 : n ≤ 39)
    (hb : ∀ j, j ≤ 2 * n.toNat + 1 → (Hs j)[b]? = some (.cells [.dp (pageDf n rows (pf rows))])) (hlow : ∀ j, j ≤ 2 * n.toNat + 1 → (Hs j).all (AB.low (Hs j).length) = true ∧ (Hs 0).length ≤ (Hs j).length ∧ id < (Hs j).length ∧ b < (Hs j).length)
    (hy : ∀ j x, (allL n.toNat)[j]? = some x → (∀ i, i < j → stop i = false) → YC Try.prog id (Hs j) (caseV x) (one (B (!stop j)) (Hs (j + 1)))) :
    ACall Try.prog 64 [.c (.yd id), .c (.ptr b 0)] (Hs 0) (fun _ H' => endOf (2 * n.toNat + 1) stop Hs H') := by
  refine acall_fit (X := tx) (nt := 32) (rs := []) Try.func64 rfl rfl rfl rfl mo (by kernel_rfl) (fun hf => ?_)
  simp only [go_sem, reduceIte, Nat.reduceEqDiff, Nat.reduceAdd, Nat.reduceLT, Nat.reduceLeDiff, Nat.reduceBEq, Nat.reduceMul, Nat.reduceSub, Nat.reduceDiv, Int.reduceNeg, Int.reduceLT, Int.reduceLE, Int.reduceEq, Int.reduceToNat, tt3, tt4, tt5, tt22, tt24, tt29, tt26, tt30, tt36, tt59, tt62, tt63, tt87, tt88, tt89, ti3, ti22, ti29, ti26, eq26, eq62, eq63, fillC, placeS, List.all_cons, List.all_nil]
  refine aops_yc (hy 0 (0, 0) (allL_zero _) (by intro i hi; omega)) rfl rfl (fun y H' h => ?_)
  obtain ⟨rfl, rfl⟩ := h
  have hb1 := hb 1 (by omega)
  cases hs0 : stop 0 with
  | true =>
    simp only [go_sem, reduceIte, Nat.reduceEqDiff, Nat.reduceAdd, Nat.reduceLT, Nat.reduceLeDiff, Nat.reduceBEq, Nat.reduceMul, Nat.reduceSub, Nat.reduceDiv, Int.reduceNeg, Int.reduceLT, Int.reduceLE, Int.reduceEq, Int.reduceToNat, tt3, tt4, tt5, tt22, tt24, tt29, tt26, tt30, tt36, tt59, tt62, tt63, tt87, tt88, tt89, ti3, ti22, ti29, ti26, eq26, eq62, eq63, hs0]
    exact ⟨1, by omega, rfl, by intro i hi; omega, .inr ⟨by omega, hs0⟩⟩
  | false =>
  have hini : ∀ i, i < 1 + 2 * 0 → stop i = false := fun i hi => by
    have : i = 0 := by omega
    subst this; exact hs0
  simp only [go_sem, reduceIte, Nat.reduceEqDiff, Nat.reduceAdd, Nat.reduceLT, Nat.reduceLeDiff, Nat.reduceBEq, Nat.reduceMul, Nat.reduceSub, Nat.reduceDiv, Int.reduceNeg, Int.reduceLT, Int.reduceLE, Int.reduceEq, Int.reduceToNat, tt3, tt4, tt5, tt22, tt24, tt29, tt26, tt30, tt36, tt59, tt62, tt63, tt87, tt88, tt89, ti3, ti22, ti29, ti26, eq26, eq62, eq63, hs0, hb1, pageDf, codesD_len]
  refine go_loop (fun k : Nat => { slots := [(0, .c (.yd id)), (1, .c (.ptr b 0)), (14, I n), (15, I k)], heap := Hs (1 + 2 * k), marks := [] }) (fun k => (k : Int) ≤ n ∧ ∀ i, i < 1 + 2 * k → stop i = false) (fun k => n.toNat - k) 0 mo (by kernel_rfl) ?_ ⟨by simp; omega, hini⟩ ?_
  · obtain ⟨l1, l2, l3, l4⟩ := hlow 1 (by omega)
    refine ent_weaken [] (by simp) rfl l2 l1 rfl ?_
    simp only [go_sem, reduceIte, Nat.reduceEqDiff, Nat.reduceAdd, Nat.reduceLT, Nat.reduceLeDiff, Nat.reduceBEq, Nat.reduceMul, Nat.reduceSub, Nat.reduceDiv, Int.reduceNeg, Int.reduceLT, Int.reduceLE, Int.reduceEq, Int.reduceToNat, tt3, tt4, tt5, tt22, tt24, tt29, tt26, tt30, tt36, tt59, tt62, tt63, tt87, tt88, tt89, ti3, ti22, ti29, ti26, eq26, eq62, eq63, l3, l4]
    exact .refl _
  rintro k ⟨hk, hall⟩
  simp only [go_sem, reduceIte, Nat.reduceEqDiff, Nat.reduceAdd, Nat.reduceLT, Nat.reduceLeDiff, Nat.reduceBEq, Nat.reduceMul, Nat.reduceSub, Nat.reduceDiv, Int.reduceNeg, Int.reduceLT, Int.reduceLE, Int.reduceEq, Int.reduceToNat, tt3, tt4, tt5, tt22, tt24, tt29, tt26, tt30, tt36, tt59, tt62, tt63, tt87, tt88, tt89, ti3, ti22, ti29, ti26, eq26, eq62, eq63]
  refine go_if (fun h => ?_) (fun h => ?_)
  · have hlt : (k : Int) < n := by simpa using h
    have hkn : k < n.toNat := by omega
    obtain ⟨g1, g2⟩ := allL_odd n.toNat k hkn
    simp only [go_sem, reduceIte, Nat.reduceEqDiff, Nat.reduceAdd, Nat.reduceLT, Nat.reduceLeDiff, Nat.reduceBEq, Nat.reduceMul, Nat.reduceSub, Nat.reduceDiv, Int.reduceNeg, Int.reduceLT, Int.reduceLE, Int.reduceEq, Int.reduceToNat, tt3, tt4, tt5, tt22, tt24, tt29, tt26, tt30, tt36, tt59, tt62, tt63, tt87, tt88, tt89, ti3, ti22, ti29, ti26, eq26, eq62, eq63, fillC, zc, List.replicate_succ, List.replicate_zero, List.flatten_cons, List.flatten_nil, toDs, toD, chunk, lim]
    have y1 : YC Try.prog id (Hs (1 + 2 * k)) (caseV ((k : Int), -1)) (one (B (!stop (1 + 2 * k))) (Hs (1 + 2 * k + 1))) := by
      have := hy (2 * k + 1) _ g1 (fun i hi => hall i (by omega)); rwa [Nat.add_comm (2 * k) 1] at this
    have y2 : (∀ i, i < 1 + 2 * k + 1 → stop i = false) → YC Try.prog id (Hs (1 + 2 * k + 1)) (caseV ((k : Int), 1)) (one (B (!stop (1 + 2 * k + 1))) (Hs (1 + 2 * k + 2))) := fun hst => by
      have := hy (2 * k + 2) _ g2 (fun i hi => hst i (by omega)); rwa [show 2 * k + 2 = 1 + 2 * k + 1 by omega] at this
    refine go_loop (fun e : Nat => { slots := [(0, .c (.yd id)), (1, .c (.ptr b 0)), (3, I k), (14, I n), (15, I k), (18, ints [-1, 1]), (19, I 2), (20, I e)], heap := Hs (1 + 2 * k + e), marks := [] }) (fun e => e ≤ 2 ∧ ∀ i, i < 1 + 2 * k + e → stop i = false) (fun e => 2 - e) 0 mo (by kernel_rfl) ?_ ⟨by omega, hall⟩ ?_
    · obtain ⟨l1, l2, l3, l4⟩ := hlow (1 + 2 * k) (by omega)
      refine ent_weaken [] (by simp) rfl l2 l1 rfl ?_
      simp only [go_sem, reduceIte, Nat.reduceEqDiff, Nat.reduceAdd, Nat.reduceLT, Nat.reduceLeDiff, Nat.reduceBEq, Nat.reduceMul, Nat.reduceSub, Nat.reduceDiv, Int.reduceNeg, Int.reduceLT, Int.reduceLE, Int.reduceEq, Int.reduceToNat, tt3, tt4, tt5, tt22, tt24, tt29, tt26, tt30, tt36, tt59, tt62, tt63, tt87, tt88, tt89, ti3, ti22, ti29, ti26, eq26, eq62, eq63, l3, l4, ints, iD]
      exact ⟨.refl _, .refl _⟩
    rintro e ⟨he, hall2⟩
    have c0 : ((0 : Nat) : Int) = 0 := rfl
    have c1 : ((1 : Nat) : Int) = 1 := rfl
    have c2 : ((2 : Nat) : Int) = 2 := rfl
    have w1 : wr .i64 1 = 1 := rfl
    have w2 : wr .i64 2 = 2 := rfl
    have hcase : e = 0 ∨ e = 1 ∨ e = 2 := by omega
    rcases hcase with rfl | rfl | rfl
    · simp only [go_sem, reduceIte, Nat.reduceEqDiff, Nat.reduceAdd, Nat.reduceLT, Nat.reduceLeDiff, Nat.reduceBEq, Nat.reduceMul, Nat.reduceSub, Nat.reduceDiv, Int.reduceNeg, Int.reduceLT, Int.reduceLE, Int.reduceEq, Int.reduceToNat, tt3, tt4, tt5, tt22, tt24, tt29, tt26, tt30, tt36, tt59, tt62, tt63, tt87, tt88, tt89, ti3, ti22, ti29, ti26, eq26, eq62, eq63, ints, iD, c0, c1, c2, fillC, placeS, List.all_cons, List.all_nil]
      refine aops_yc y1 rfl rfl (fun y H' h => ?_)
      obtain ⟨rfl, rfl⟩ := h
      cases hs : stop (1 + 2 * k) with
      | true =>
        simp only [go_sem, reduceIte, Nat.reduceEqDiff, Nat.reduceAdd, Nat.reduceLT, Nat.reduceLeDiff, Nat.reduceBEq, Nat.reduceMul, Nat.reduceSub, Nat.reduceDiv, Int.reduceNeg, Int.reduceLT, Int.reduceLE, Int.reduceEq, Int.reduceToNat, tt3, tt4, tt5, tt22, tt24, tt29, tt26, tt30, tt36, tt59, tt62, tt63, tt87, tt88, tt89, ti3, ti22, ti29, ti26, eq26, eq62, eq63, hs]
        exact ⟨1 + 2 * k + 1, by omega, rfl, fun i hi => hall2 i (by omega), .inr ⟨by omega, hs⟩⟩
      | false =>
        simp only [go_sem, reduceIte, Nat.reduceEqDiff, Nat.reduceAdd, Nat.reduceLT, Nat.reduceLeDiff, Nat.reduceBEq, Nat.reduceMul, Nat.reduceSub, Nat.reduceDiv, Int.reduceNeg, Int.reduceLT, Int.reduceLE, Int.reduceEq, Int.reduceToNat, tt3, tt4, tt5, tt22, tt24, tt29, tt26, tt30, tt36, tt59, tt62, tt63, tt87, tt88, tt89, ti3, ti22, ti29, ti26, eq26, eq62, eq63, hs, w1, w2, Int.reduceAdd]
        refine ⟨1, ⟨by omega, fun i hi => ?_⟩, by omega, ?_⟩
        · by_cases h3 : i < 1 + 2 * k + 0
          · exact hall2 i h3
          · have : i = 1 + 2 * k := by omega
            subst this; exact hs
        · obtain ⟨l1, l2, l3, l4⟩ := hlow (1 + 2 * k + 1) (by omega)
          refine ent_weaken [] (by simp) rfl l2 l1 rfl ?_
          simp only [go_sem, reduceIte, Nat.reduceEqDiff, Nat.reduceAdd, Nat.reduceLT, Nat.reduceLeDiff, Nat.reduceBEq, Nat.reduceMul, Nat.reduceSub, Nat.reduceDiv, Int.reduceNeg, Int.reduceLT, Int.reduceLE, Int.reduceEq, Int.reduceToNat, tt3, tt4, tt5, tt22, tt24, tt29, tt26, tt30, tt36, tt59, tt62, tt63, tt87, tt88, tt89, ti3, ti22, ti29, ti26, eq26, eq62, eq63, l3, l4, ints, iD]
          exact .refl _
    · simp only [go_sem, reduceIte, Nat.reduceEqDiff, Nat.reduceAdd, Nat.reduceLT, Nat.reduceLeDiff, Nat.reduceBEq, Nat.reduceMul, Nat.reduceSub, Nat.reduceDiv, Int.reduceNeg, Int.reduceLT, Int.reduceLE, Int.reduceEq, Int.reduceToNat, tt3, tt4, tt5, tt22, tt24, tt29, tt26, tt30, tt36, tt59, tt62, tt63, tt87, tt88, tt89, ti3, ti22, ti29, ti26, eq26, eq62, eq63, ints, iD, c0, c1, c2, fillC, placeS, List.all_cons, List.all_nil]
      refine aops_yc (y2 hall2) rfl rfl (fun y H' h => ?_)
      obtain ⟨rfl, rfl⟩ := h
      cases hs : stop (1 + 2 * k + 1) with
      | true =>
        simp only [go_sem, reduceIte, Nat.reduceEqDiff, Nat.reduceAdd, Nat.reduceLT, Nat.reduceLeDiff, Nat.reduceBEq, Nat.reduceMul, Nat.reduceSub, Nat.reduceDiv, Int.reduceNeg, Int.reduceLT, Int.reduceLE, Int.reduceEq, Int.reduceToNat, tt3, tt4, tt5, tt22, tt24, tt29, tt26, tt30, tt36, tt59, tt62, tt63, tt87, tt88, tt89, ti3, ti22, ti29, ti26, eq26, eq62, eq63, hs]
        exact ⟨1 + 2 * k + 1 + 1, by omega, rfl, fun i hi => hall2 i (by omega), .inr ⟨by omega, hs⟩⟩
      | false =>
        simp only [go_sem, reduceIte, Nat.reduceEqDiff, Nat.reduceAdd, Nat.reduceLT, Nat.reduceLeDiff, Nat.reduceBEq, Nat.reduceMul, Nat.reduceSub, Nat.reduceDiv, Int.reduceNeg, Int.reduceLT, Int.reduceLE, Int.reduceEq, Int.reduceToNat, tt3, tt4, tt5, tt22, tt24, tt29, tt26, tt30, tt36, tt59, tt62, tt63, tt87, tt88, tt89, ti3, ti22, ti29, ti26, eq26, eq62, eq63, hs, w1, w2, Int.reduceAdd]
        refine ⟨2, ⟨by omega, fun i hi => ?_⟩, by omega, ?_⟩
        · by_cases h3 : i < 1 + 2 * k + 1
          · exact hall2 i h3
          · have : i = 1 + 2 * k + 1 := by omega
            subst this; exact hs
        · obtain ⟨l1, l2, l3, l4⟩ := hlow (1 + 2 * k + 1 + 1) (by omega)
          refine ent_weaken [] (by simp) rfl l2 l1 rfl ?_
          simp only [go_sem, reduceIte, Nat.reduceEqDiff, Nat.reduceAdd, Nat.reduceLT, Nat.reduceLeDiff, Nat.reduceBEq, Nat.reduceMul, Nat.reduceSub, Nat.reduceDiv, Int.reduceNeg, Int.reduceLT, Int.reduceLE, Int.reduceEq, Int.reduceToNat, tt3, tt4, tt5, tt22, tt24, tt29, tt26, tt30, tt36, tt59, tt62, tt63, tt87, tt88, tt89, ti3, ti22, ti29, ti26, eq26, eq62, eq63, l3, l4, ints, iD]
          exact .refl _
    · simp only [go_sem, reduceIte, Nat.reduceEqDiff, Nat.reduceAdd, Nat.reduceLT, Nat.reduceLeDiff, Nat.reduceBEq, Nat.reduceMul, Nat.reduceSub, Nat.reduceDiv, Int.reduceNeg, Int.reduceLT, Int.reduceLE, Int.reduceEq, Int.reduceToNat, tt3, tt4, tt5, tt22, tt24, tt29, tt26, tt30, tt36, tt59, tt62, tt63, tt87, tt88, tt89, ti3, ti22, ti29, ti26, eq26, eq62, eq63, ints, iD, c0, c1, c2, wr_succ (show k < 40 by omega) (by omega)]
      refine ⟨k + 1, ⟨by omega, fun i hi => hall2 i (by omega)⟩, by omega, ?_⟩
      obtain ⟨l1, l2, l3, l4⟩ := hlow (1 + 2 * k + 2) (by omega)
      refine ent_weaken [] (by simp [Nat.mul_add, Nat.add_assoc]) rfl l2 (by rw [show 1 + 2 * (k + 1) = 1 + 2 * k + 2 by omega]; exact l1) rfl ?_
      simp only [go_sem, reduceIte, Nat.reduceEqDiff, Nat.reduceAdd, Nat.reduceLT, Nat.reduceLeDiff, Nat.reduceBEq, Nat.reduceMul, Nat.reduceSub, Nat.reduceDiv, Int.reduceNeg, Int.reduceLT, Int.reduceLE, Int.reduceEq, Int.reduceToNat, tt3, tt4, tt5, tt22, tt24, tt29, tt26, tt30, tt36, tt59, tt62, tt63, tt87, tt88, tt89, ti3, ti22, ti29, ti26, eq26, eq62, eq63, l3, l4, show 1 + 2 * (k + 1) = 1 + 2 * k + 2 by omega]
  · have hk' : (k : Int) = n := by simp at h; omega
    have e : 1 + 2 * k = 2 * n.toNat + 1 := by omega
    simp only [go_sem, reduceIte, Nat.reduceEqDiff, Nat.reduceAdd, Nat.reduceLT, Nat.reduceLeDiff, Nat.reduceBEq, Nat.reduceMul, Nat.reduceSub, Nat.reduceDiv, Int.reduceNeg, Int.reduceLT, Int.reduceLE, Int.reduceEq, Int.reduceToNat, tt3, tt4, tt5, tt22, tt24, tt29, tt26, tt30, tt36, tt59, tt62, tt63, tt87, tt88, tt89, ti3, ti22, ti29, ti26, eq26, eq62, eq63]
    rw [e]
    exact ⟨2 * n.toNat + 1, Nat.le_refl _, rfl, fun i hi => hall i (by omega), .inl rfl⟩
end Go.Proofs.Ytklmpopomokglaa
