/- Zones: which lamps are valid. -/
import Derived.Test.YtliamojogmlgjaaZ1
set_option linter.unusedSimpArgs false
set_option linter.unusedVariables false
set_option maxRecDepth 100000
namespace Go.Proofs.Ytliamojogmlgjaa
open Go Go.Abs Go.Proofs
def kp19 : List (Nat × List Nat) := [(0, [1]), (1, [1, 3]), (2, [1, 3, 15]), (3, [2]), (4, [1, 3, 4]), (5, [1, 3, 4, 17, 18, 19]), (6, [1, 3, 4, 17, 18, 19, 20]), (7, [1, 3, 4, 6, 17, 18, 19]), (8, [1, 3, 6, 17, 18, 19, 29]), (9, [2]), (10, [1, 3, 4, 17, 18, 19]), (11, [1, 3, 4, 17, 18, 19]), (12, [1, 32]), (13, [2]), (14, [59]), (15, [2]), (16, [2])]
theorem lk19 : lookK kp19 0 = some [1] ∧ lookK kp19 1 = some [1, 3] ∧ lookK kp19 2 = some [1, 3, 15] ∧ lookK kp19 3 = some [2] ∧ lookK kp19 4 = some [1, 3, 4] ∧ lookK kp19 5 = some [1, 3, 4, 17, 18, 19] ∧ lookK kp19 6 = some [1, 3, 4, 17, 18, 19, 20] ∧ lookK kp19 7 = some [1, 3, 4, 6, 17, 18, 19] ∧ lookK kp19 8 = some [1, 3, 6, 17, 18, 19, 29] ∧ lookK kp19 9 = some [2] ∧ lookK kp19 10 = some [1, 3, 4, 17, 18, 19] ∧ lookK kp19 11 = some [1, 3, 4, 17, 18, 19] ∧ lookK kp19 12 = some [1, 32] ∧ lookK kp19 13 = some [2] ∧ lookK kp19 14 = some [59] ∧ lookK kp19 15 = some [2] ∧ lookK kp19 16 = some [2] := ⟨rfl, rfl, rfl, rfl, rfl, rfl, rfl, rfl, rfl, rfl, rfl, rfl, rfl, rfl, rfl, rfl, rfl⟩

theorem prv_succ (l : List Int) (i : Nat) : prv l (i + 1) = gI l i := by simp [prv]
theorem prv_zero (l : List Int) : prv l 0 = -1 := by simp [prv]
theorem okLa_many {l : La} (h : l.an.length < 2 ∨ 10 < l.an.length) : okLa l = 6 := by unfold okLa; rw [if_pos h]
theorem okLa_arg {l : La} (h1 : ¬ l.an.length < 2) (h2 : ¬ 10 < l.an.length) {i : Nat} (hi : i < l.an.length) (hb : badA l.an i = true) (hall : ∀ j, j < i → badA l.an j = false) : okLa l = 2 := by
  unfold okLa; rw [if_neg (by omega), fstN_eq hb hall hi, if_pos hi]
theorem okLa_rest {l : La} (h1 : ¬ l.an.length < 2) (h2 : ¬ 10 < l.an.length) (hall : ∀ j, j < l.an.length → badA l.an j = false) :
    okLa l = if ¬ (l.li.length = l.an.length ∧ l.fa.length + 1 = l.an.length ∧ (l.we.length : Int) = gI l.an (l.an.length - 1) - gI l.an 0 + 1) then 15 else if l.li.all (rgB 200) = true ∧ l.we.any badW = false then 0 else 2 := by
  unfold okLa; rw [if_neg (by omega), fstN_none hall, if_neg (Nat.lt_irrefl _)]
set_option maxHeartbeats 2000000 in
theorem lamp19 (l : La) : Pure Try.prog 19 [laV l] (I (okLa l)) := by
  refine pure_wkE (bad := []) (kp := kp19) (X := tx) (nt := 69) (rs := [.tmp 2]) Try.func19 rfl rfl rfl rfl mo (by kernel_rfl) rfl rfl (fun hf => ?_)
  by_cases h1 : l.an.length < 2
  · have h1' : (l.an.length : Int) < 2 := by omega
    simp (maxSteps := 2000000) only [go_sem, reduceIte, Nat.reduceEqDiff, Nat.reduceAdd, Nat.reduceLeDiff, Nat.reduceBEq, Int.reduceNeg, List.replicate_succ, lk19, laV, laC, h1', okLa_many (.inl h1)]
  have h1' : ¬ (l.an.length : Int) < 2 := by omega
  by_cases h2 : 10 < l.an.length
  · have h2' : (10 : Int) < l.an.length := by omega
    simp (maxSteps := 2000000) only [go_sem, reduceIte, Nat.reduceEqDiff, Nat.reduceAdd, Nat.reduceLeDiff, Nat.reduceBEq, Int.reduceNeg, List.replicate_succ, lk19, laV, laC, h1', h2', okLa_many (.inr h2)]
  have h2' : ¬ (10 : Int) < l.an.length := by omega
  simp (maxSteps := 2000000) only [go_sem, reduceIte, Nat.reduceEqDiff, Nat.reduceAdd, Nat.reduceLeDiff, Nat.reduceBEq, Int.reduceNeg, List.replicate_succ, lk19, laV, laC, h1', h2']
  refine goE_loop (bad := []) (kp := kp19) (fun i : Nat => { slots := [(1, .c (.ptr 0 0)), (3, I l.an.length), (4, I (prv l.an i)), (17, ints l.an), (18, I l.an.length), (19, I i)], heap := [.cells (laC l)], marks := [] }) (fun i => i ≤ l.an.length ∧ ∀ j, j < i → badA l.an j = false) (fun i => l.an.length - i) 0 mo (by kernel_rfl) ?_ ⟨Nat.zero_le _, by intro j h; omega⟩ ?_
  · refine ent_weaken [] rfl rfl (Nat.zero_le _) rfl rfl ?_
    simp (maxSteps := 2000000) only [go_sem, reduceIte, Nat.reduceEqDiff, Nat.reduceLT, Int.reduceNeg, List.replicate_succ, lk19, laC, ints, prv_zero]
    all_goals first | exact .refl _ | exact ⟨.refl _, .refl _⟩ | exact ⟨.refl _, .refl _, .refl _⟩ | exact ⟨.refl _, _, rfl⟩ | exact ⟨_, rfl⟩ | exact ⟨.refl _, [], by simp⟩ | exact ⟨[], by simp⟩
  rintro i ⟨hi, hall⟩
  simp (maxSteps := 2000000) only [go_sem, reduceIte, Nat.reduceEqDiff, Nat.reduceAdd, List.replicate_succ, lk19, laC, ints]
  by_cases hlt : i < l.an.length
  · have hlt' : (i : Int) < l.an.length := by omega
    have g1 := gI_lt hlt
    cases hb : badA l.an i with
    | true =>
      have e := okLa_arg h1 h2 hlt hb hall
      by_cases hc : gI l.an i ≤ prv l.an i
      · simp (maxSteps := 2000000) only [go_sem, reduceIte, Nat.reduceEqDiff, Nat.reduceAdd, List.replicate_succ, lk19, hlt', nn, g1, iD, hc, e]
      · have hc2 : 90 < gI l.an i := by simpa [badA, hc] using hb
        simp (maxSteps := 2000000) only [go_sem, reduceIte, Nat.reduceEqDiff, Nat.reduceAdd, List.replicate_succ, lk19, hlt', nn, g1, iD, hc, hc2, e]
    | false =>
      have hc : ¬ gI l.an i ≤ prv l.an i := by intro h; simp [badA, h] at hb
      have hc2 : ¬ 90 < gI l.an i := by intro h; simp [badA, h] at hb
      have w7 := wr_succ hlt (show l.an.length ≤ 140737488355328 by omega)
      have m1 : l.an.length - (i + 1) < l.an.length - i := by omega
      simp (maxSteps := 2000000) only [go_sem, reduceIte, Nat.reduceEqDiff, Nat.reduceAdd, List.replicate_succ, lk19, hlt', nn, g1, iD, hc, hc2, w7]
      refine ⟨i + 1, ⟨hlt, fun j hj => ?_⟩, m1, ?_⟩
      · by_cases e : j = i
        · subst e; exact hb
        · exact hall j (by omega)
      refine ent_weaken [] rfl rfl (Nat.zero_le _) rfl rfl ?_
      simp (maxSteps := 2000000) only [go_sem, reduceIte, Nat.reduceEqDiff, Nat.reduceLT, List.replicate_succ, lk19, laC, ints, prv_succ]
      all_goals first | exact .refl _ | exact ⟨.refl _, .refl _⟩ | exact ⟨.refl _, .refl _, .refl _⟩ | exact ⟨.refl _, _, rfl⟩ | exact ⟨_, rfl⟩ | exact ⟨.refl _, [], by simp⟩ | exact ⟨[], by simp⟩
  · have hlt' : ¬ (i : Int) < l.an.length := by omega
    have ei : i = l.an.length := by omega
    subst ei
    have e := okLa_rest h1 h2 hall
    obtain ⟨c1, c2⟩ := an_of_good hall
    have z0 := c1 0 (by omega)
    have zn := c1 (l.an.length - 1) (by omega)
    have g0 := gI_lt (l := l.an) (i := 0) (by omega)
    have p0 : (0 : Int) < l.an.length := by omega
    have ep : prv l.an l.an.length = gI l.an (l.an.length - 1) := by unfold prv; rw [if_neg (by omega)]
    have hw := within48 200 l.li
    have hb := has49 l.we 50 [] badW [.cells (laC l)] rfl rfl (fun x _ => (badw50 x).at _)
    by_cases k1 : l.li.length = l.an.length
    case neg =>
      have k1' : ¬ (l.li.length : Int) = l.an.length := by omega
      rw [if_pos (fun h => k1 h.1)] at e
      simp (maxSteps := 2000000) only [go_sem, reduceIte, Nat.reduceEqDiff, Nat.reduceAdd, Nat.reduceLeDiff, Nat.reduceBEq, List.replicate_succ, lk19, hlt', k1', e]
    have k1' : (l.li.length : Int) = l.an.length := by omega
    by_cases k2 : l.fa.length + 1 = l.an.length
    case neg =>
      have k2' : ¬ (l.fa.length : Int) = (l.an.length : Int) - 1 := by omega
      rw [if_pos (fun h => k2 h.2.1)] at e
      have w1 : wr .i64 ((l.an.length : Int) - 1) = (l.an.length : Int) - 1 := wr_in (by omega)
      simp (maxSteps := 2000000) only [go_sem, reduceIte, Nat.reduceEqDiff, Nat.reduceAdd, Nat.reduceLeDiff, Nat.reduceBEq, List.replicate_succ, lk19, hlt', k1', w1, k2', e]
    have k2' : (l.fa.length : Int) = (l.an.length : Int) - 1 := by omega
    have w1 : wr .i64 ((l.an.length : Int) - 1) = (l.an.length : Int) - 1 := wr_in (by omega)
    have w2 : wr .i64 (gI l.an (l.an.length - 1) - gI l.an 0) = gI l.an (l.an.length - 1) - gI l.an 0 := wr_in (by clear w1; omega)
    have w3 : wr .i64 (gI l.an (l.an.length - 1) - gI l.an 0 + 1) = gI l.an (l.an.length - 1) - gI l.an 0 + 1 := wr_in (by clear w1 w2; omega)
    by_cases k3 : (l.we.length : Int) = gI l.an (l.an.length - 1) - gI l.an 0 + 1
    case neg =>
      rw [if_pos (fun h => k3 h.2.2)] at e
      simp (maxSteps := 2000000) only [go_sem, reduceIte, Nat.reduceEqDiff, Nat.reduceAdd, Nat.reduceLeDiff, Nat.reduceBEq, Int.reduceLE, Int.reduceToNat, List.replicate_succ, lk19, hlt', k1', w1, k2', g0, iD, p0, ep, w2, w3, k3, e]
    rw [if_neg (fun h => h ⟨k1, k2, k3⟩)] at e
    simp (maxSteps := 2000000) only [go_sem, List.replicate_succ, lk19, laC, ints] at hb
    simp (maxSteps := 2000000) only [go_sem, reduceIte, Nat.reduceEqDiff, Nat.reduceAdd, Nat.reduceLeDiff, Nat.reduceBEq, Int.reduceLE, Int.reduceToNat, List.replicate_succ, lk19, hlt', k1', w1, k2', g0, iD, p0, ep, w2, w3, k3]
    refine aops_pure' (hw) rfl rfl (by first | exact wk_refls _ | (repeat constructor)) ?_
    cases hr : l.li.all (rgB 200) with
    | false =>
      rw [hr, if_neg (fun h => (by cases h.1))] at e
      simp (maxSteps := 2000000) only [go_sem, reduceIte, Nat.reduceEqDiff, Nat.reduceAdd, List.replicate_succ, lk19, e]
    | true =>
      simp (maxSteps := 2000000) only [go_sem, reduceIte, Nat.reduceEqDiff, Nat.reduceAdd, Nat.reduceBEq, List.replicate_succ, lk19]
      refine aops_at (hb) rfl rfl (by first | exact wk_refls _ | (repeat constructor)) ?_
      cases hq : l.we.any badW with
      | false =>
        rw [hr, hq, if_pos ⟨rfl, rfl⟩] at e
        simp (maxSteps := 2000000) only [go_sem, reduceIte, Nat.reduceEqDiff, Nat.reduceAdd, List.replicate_succ, lk19, e]
      | true =>
        rw [hr, hq, if_neg (fun h => (by cases h.2))] at e
        simp (maxSteps := 2000000) only [go_sem, reduceIte, Nat.reduceEqDiff, Nat.reduceAdd, List.replicate_succ, lk19, e]
end Go.Proofs.Ytliamojogmlgjaa
