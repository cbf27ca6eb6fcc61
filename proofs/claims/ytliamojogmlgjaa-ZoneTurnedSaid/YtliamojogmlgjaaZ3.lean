/- Zones: which lamps are valid, by the document's answer. -/
import Derived.Test.YtliamojogmlgjaaZ2
set_option linter.unusedSimpArgs false
set_option linter.unusedVariables false
set_option maxRecDepth 100000
namespace Go.Proofs.Ytliamojogmlgjaa
open Go Go.Abs Go.Proofs
def kp20 : List (Nat × List Nat) := [(0, [1]), (1, [1, 3]), (2, [1, 3, 15]), (3, [2]), (4, [1, 3, 4]), (5, [1, 3, 4, 18]), (6, [1, 3, 4]), (7, [1, 3, 4, 52]), (8, [2]), (9, [1, 3, 83]), (10, [2]), (11, [1, 3, 5]), (12, [1, 3, 5, 86]), (13, [1, 3, 5]), (14, [1, 3, 5, 95]), (15, [2]), (16, [1, 6]), (17, [1, 6, 100]), (18, [1, 6]), (19, [1, 6, 116]), (20, [2]), (21, [2])]
theorem lk20 : lookK kp20 0 = some [1] ∧ lookK kp20 1 = some [1, 3] ∧ lookK kp20 2 = some [1, 3, 15] ∧ lookK kp20 3 = some [2] ∧ lookK kp20 4 = some [1, 3, 4] ∧ lookK kp20 5 = some [1, 3, 4, 18] ∧ lookK kp20 6 = some [1, 3, 4] ∧ lookK kp20 7 = some [1, 3, 4, 52] ∧ lookK kp20 8 = some [2] ∧ lookK kp20 9 = some [1, 3, 83] ∧ lookK kp20 10 = some [2] ∧ lookK kp20 11 = some [1, 3, 5] ∧ lookK kp20 12 = some [1, 3, 5, 86] ∧ lookK kp20 13 = some [1, 3, 5] ∧ lookK kp20 14 = some [1, 3, 5, 95] ∧ lookK kp20 15 = some [2] ∧ lookK kp20 16 = some [1, 6] ∧ lookK kp20 17 = some [1, 6, 100] ∧ lookK kp20 18 = some [1, 6] ∧ lookK kp20 19 = some [1, 6, 116] ∧ lookK kp20 20 = some [2] ∧ lookK kp20 21 = some [2] := ⟨rfl, rfl, rfl, rfl, rfl, rfl, rfl, rfl, rfl, rfl, rfl, rfl, rfl, rfl, rfl, rfl, rfl, rfl, rfl, rfl, rfl, rfl⟩

theorem wr_pred (j : Nat) (h : j < 1000) : wr .i64 (((j + 1 : Nat) : Int) - 1) = (j : Int) := by rw [wr_in (by omega)]; omega
theorem wr_len1 {n : Nat} (h : 1 ≤ n) (h2 : n ≤ 1000) : wr .i64 ((n : Int) - 1) = ((n - 1 : Nat) : Int) := by rw [wr_in (by omega)]; omega
set_option maxHeartbeats 4000000 in
theorem lamp20 (l : La) : Pure Try.prog 20 [laV l] (I (okLa l)) := by
  refine pure_wkE (bad := []) (kp := kp20) (X := tx) (nt := 117) (rs := [.tmp 2]) Try.func20 rfl rfl rfl rfl mo (by kernel_rfl) rfl rfl (fun hf => ?_)
  by_cases h1 : l.an.length < 2
  · have h1' : (l.an.length : Int) < 2 := by omega
    simp (maxSteps := 2000000) only [go_sem, reduceIte, Nat.reduceEqDiff, Nat.reduceAdd, Nat.reduceLeDiff, Nat.reduceBEq, List.replicate_succ, lk20, laV, laC, h1', okLa_many (.inl h1)]
  have h1' : ¬ (l.an.length : Int) < 2 := by omega
  by_cases h2 : 10 < l.an.length
  · have h2' : (10 : Int) < l.an.length := by omega
    simp (maxSteps := 2000000) only [go_sem, reduceIte, Nat.reduceEqDiff, Nat.reduceAdd, Nat.reduceLeDiff, Nat.reduceBEq, List.replicate_succ, lk20, laV, laC, h1', h2', okLa_many (.inr h2)]
  have h2' : ¬ (10 : Int) < l.an.length := by omega
  simp (maxSteps := 2000000) only [go_sem, reduceIte, Nat.reduceEqDiff, Nat.reduceAdd, Nat.reduceLeDiff, Nat.reduceBEq, List.replicate_succ, lk20, laV, laC, h1', h2']
  refine goE_loop (bad := []) (kp := kp20) (fun i : Nat => { slots := [(1, .c (.ptr 0 0)), (3, I l.an.length), (4, I i)], heap := [.cells (laC l)], marks := [] }) (fun i => i ≤ l.an.length ∧ ∀ j, j < i → badA l.an j = false) (fun i => l.an.length - i) 0 mo (by kernel_rfl) ?_ ⟨Nat.zero_le _, by intro j h; omega⟩ ?_
  · refine ent_weaken [] rfl rfl (Nat.zero_le _) rfl rfl ?_
    simp (maxSteps := 2000000) only [go_sem, reduceIte, Nat.reduceEqDiff, Nat.reduceLT, List.replicate_succ, lk20, laC]
    all_goals first | exact .refl _ | exact ⟨.refl _, .refl _⟩ | exact ⟨.refl _, .refl _, .refl _⟩ | exact ⟨.refl _, _, rfl⟩ | exact ⟨_, rfl⟩ | exact ⟨.refl _, [], by simp⟩ | exact ⟨[], by simp⟩
  rintro i ⟨hi, hall⟩
  simp (maxSteps := 2000000) only [go_sem, reduceIte, Nat.reduceEqDiff, Nat.reduceAdd, List.replicate_succ, lk20, laC]
  by_cases hlt : i < l.an.length
  · have hlt' : (i : Int) < l.an.length := by omega
    have g1 := gI_lt hlt
    cases hb : badA l.an i with
    | true =>
      have e := okLa_arg h1 h2 hlt hb hall
      by_cases q1 : gI l.an i < 0
      · simp (maxSteps := 2000000) only [go_sem, reduceIte, Nat.reduceEqDiff, Nat.reduceAdd, Nat.reduceLeDiff, Nat.reduceBEq, List.replicate_succ, lk20, hlt', nn, g1, iD, q1, e]
      by_cases q2 : 90 < gI l.an i
      · simp (maxSteps := 2000000) only [go_sem, reduceIte, Nat.reduceEqDiff, Nat.reduceAdd, Nat.reduceLeDiff, Nat.reduceBEq, List.replicate_succ, lk20, hlt', nn, g1, iD, q1, q2, e]
      have hc : gI l.an i ≤ prv l.an i := by simpa [badA, q2] using hb
      cases i with
      | zero => rw [prv_zero] at hc; omega
      | succ j =>
        rw [prv_succ] at hc
        have g2 := gI_lt (l := l.an) (i := j) (by omega)
        have p1 : (0 : Int) < ((j + 1 : Nat) : Int) := by omega
        have hj' : (j : Int) < l.an.length := by omega
        have w1 := wr_pred j (show j < 1000 by omega)
        simp (maxSteps := 2000000) only [go_sem, reduceIte, Nat.reduceEqDiff, Nat.reduceAdd, Nat.reduceLeDiff, Nat.reduceBEq, List.replicate_succ, lk20, hlt', nn, g1, iD, q1, q2, p1, w1, hj', g2, hc, e]
    | false =>
      have hc : ¬ gI l.an i ≤ prv l.an i := by intro h; simp [badA, h] at hb
      have hc2 : ¬ 90 < gI l.an i := by intro h; simp [badA, h] at hb
      have hall2 : ∀ j, j < i + 1 → badA l.an j = false := fun j hj => by
        by_cases e : j = i
        · subst e; exact hb
        · exact hall j (by omega)
      have m1 : l.an.length - (i + 1) < l.an.length - i := by omega
      have hbig : l.an.length ≤ 140737488355328 := by omega
      cases i with
      | zero =>
        rw [prv_zero] at hc
        have q1 : ¬ gI l.an 0 < 0 := by omega
        have p00 : (0 : Int) < l.an.length := hlt'
        have w7 := wr_succ hlt hbig
        simp (maxSteps := 2000000) only [go_sem, reduceIte, Nat.reduceEqDiff, Nat.reduceAdd, Nat.reduceLeDiff, Nat.reduceBEq, Int.reduceLT, Int.reduceLE, Int.reduceToNat, List.replicate_succ, lk20, p00, nn, g1, iD, q1, hc2, w7]
        refine ⟨1, ⟨hlt, hall2⟩, m1, ?_⟩
        refine ent_weaken [] rfl rfl (Nat.zero_le _) rfl rfl ?_
        simp (maxSteps := 2000000) only [go_sem, reduceIte, Nat.reduceEqDiff, Nat.reduceLT, List.replicate_succ, lk20, laC]
        all_goals first | exact .refl _ | exact ⟨.refl _, .refl _⟩ | exact ⟨.refl _, .refl _, .refl _⟩ | exact ⟨.refl _, _, rfl⟩ | exact ⟨_, rfl⟩ | exact ⟨.refl _, [], by simp⟩ | exact ⟨[], by simp⟩
      | succ j =>
        rw [prv_succ] at hc
        have g2 := gI_lt (l := l.an) (i := j) (by omega)
        have p1 : (0 : Int) < ((j + 1 : Nat) : Int) := by omega
        have hj' : (j : Int) < l.an.length := by omega
        have hj3 : j < 1000 := by omega
        have q1 : ¬ gI l.an (j + 1) < 0 := by
          have : 0 ≤ gI l.an j := (an_of_good (l := l.an.take (j + 1)) (fun i hi => by
            rw [List.length_take] at hi
            have := hall i (by omega)
            have e1 : gI (l.an.take (j + 1)) i = gI l.an i := by simp [gI, List.getD, List.getElem?_take, show i < j + 1 by omega]
            have e2 : prv (l.an.take (j + 1)) i = prv l.an i := by
              unfold prv
              split
              · rfl
              · simp [gI, List.getD, List.getElem?_take, show i - 1 < j + 1 by omega]
            unfold badA at this ⊢
            rw [e1, e2]; exact this)).1 j (by rw [List.length_take]; omega) |>.1 |> fun h => by
              have e1 : gI (l.an.take (j + 1)) j = gI l.an j := by simp [gI, List.getD, List.getElem?_take]
              rwa [e1] at h
          omega
        have w1 := wr_pred j hj3
        have w7 := wr_succ hlt hbig
        simp (maxSteps := 2000000) only [go_sem, reduceIte, Nat.reduceEqDiff, Nat.reduceAdd, Nat.reduceLeDiff, Nat.reduceBEq, List.replicate_succ, lk20, hlt', nn, g1, iD, q1, hc2, p1, w1, hj', g2, hc, w7]
        refine ⟨j + 1 + 1, ⟨hlt, hall2⟩, m1, ?_⟩
        refine ent_weaken [] rfl rfl (Nat.zero_le _) rfl rfl ?_
        simp (maxSteps := 2000000) only [go_sem, reduceIte, Nat.reduceEqDiff, Nat.reduceLT, List.replicate_succ, lk20, laC]
        all_goals first | exact .refl _ | exact ⟨.refl _, .refl _⟩ | exact ⟨.refl _, .refl _, .refl _⟩ | exact ⟨.refl _, _, rfl⟩ | exact ⟨_, rfl⟩ | exact ⟨.refl _, [], by simp⟩ | exact ⟨[], by simp⟩
  · have hlt' : ¬ (i : Int) < l.an.length := by omega
    have ei : i = l.an.length := by omega
    subst ei
    have e := okLa_rest h1 h2 hall
    obtain ⟨c1, c2⟩ := an_of_good hall
    have z0 := c1 0 (by omega)
    have zn := c1 (l.an.length - 1) (by omega)
    have g0 := gI_lt (l := l.an) (i := 0) (by omega)
    have gn := gI_lt (l := l.an) (i := l.an.length - 1) (by omega)
    have p0 : (0 : Int) < l.an.length := by omega
    have n1 : ((l.an.length - 1 : Nat) : Int) < l.an.length := by omega
    by_cases k1 : l.li.length = l.an.length
    case neg =>
      have k1' : ¬ (l.li.length : Int) = l.an.length := by omega
      rw [if_pos (fun h => k1 h.1)] at e
      simp (maxSteps := 2000000) only [go_sem, reduceIte, Nat.reduceEqDiff, Nat.reduceAdd, Nat.reduceLeDiff, Nat.reduceBEq, List.replicate_succ, lk20, hlt', k1', e]
    have k1' : (l.li.length : Int) = l.an.length := by omega
    by_cases k2 : l.fa.length + 1 = l.an.length
    case neg =>
      have k2' : ¬ (l.fa.length : Int) = ((l.an.length - 1 : Nat) : Int) := by omega
      rw [if_pos (fun h => k2 h.2.1)] at e
      have w1 : wr .i64 ((l.an.length : Int) - 1) = ((l.an.length - 1 : Nat) : Int) := wr_len1 (by omega) (by omega)
      simp (maxSteps := 2000000) only [go_sem, reduceIte, Nat.reduceEqDiff, Nat.reduceAdd, Nat.reduceLeDiff, Nat.reduceBEq, List.replicate_succ, lk20, hlt', k1', w1, k2', e]
    have k2' : (l.fa.length : Int) = ((l.an.length - 1 : Nat) : Int) := by omega
    have w1 : wr .i64 ((l.an.length : Int) - 1) = ((l.an.length - 1 : Nat) : Int) := wr_len1 (by omega) (by omega)
    have w2 : wr .i64 (gI l.an (l.an.length - 1) - gI l.an 0) = gI l.an (l.an.length - 1) - gI l.an 0 := wr_in (by clear w1; omega)
    have w3 : wr .i64 (gI l.an (l.an.length - 1) - gI l.an 0 + 1) = gI l.an (l.an.length - 1) - gI l.an 0 + 1 := wr_in (by clear w1 w2; omega)
    by_cases k3 : (l.we.length : Int) = gI l.an (l.an.length - 1) - gI l.an 0 + 1
    case neg =>
      rw [if_pos (fun h => k3 h.2.2)] at e
      simp (maxSteps := 2000000) only [go_sem, reduceIte, Nat.reduceEqDiff, Nat.reduceAdd, Nat.reduceLeDiff, Nat.reduceBEq, Int.reduceLE, Int.reduceToNat, List.replicate_succ, lk20, hlt', k1', w1, k2', nn, n1, g0, gn, iD, p0, w2, w3, k3, e]
    rw [if_neg (fun h => h ⟨k1, k2, k3⟩)] at e
    simp (maxSteps := 2000000) only [go_sem, reduceIte, Nat.reduceEqDiff, Nat.reduceAdd, Nat.reduceLeDiff, Nat.reduceBEq, Int.reduceLE, Int.reduceToNat, List.replicate_succ, lk20, hlt', k1', w1, k2', nn, n1, g0, gn, iD, p0, w2, w3, k3]
    clear w1 w2 w3
    refine goE_loop (bad := []) (kp := kp20) (fun i : Nat => { slots := [(1, .c (.ptr 0 0)), (3, I l.an.length), (5, I i)], heap := [.cells (laC l)], marks := [] }) (fun i => i ≤ l.an.length ∧ ∀ j x, j < i → l.li[j]? = some x → (!rgB 200 x) = false) (fun i => l.an.length - i) 0 mo (by kernel_rfl) ?_ ⟨Nat.zero_le _, by intro j x h; omega⟩ ?_
    · refine ent_weaken [] rfl rfl (Nat.zero_le _) rfl rfl ?_
      simp (maxSteps := 2000000) only [go_sem, reduceIte, Nat.reduceEqDiff, Nat.reduceLT, List.replicate_succ, lk20, laC]
      all_goals first | exact .refl _ | exact ⟨.refl _, .refl _⟩ | exact ⟨.refl _, .refl _, .refl _⟩ | exact ⟨.refl _, _, rfl⟩ | exact ⟨_, rfl⟩ | exact ⟨.refl _, [], by simp⟩ | exact ⟨[], by simp⟩
    clear hlt hlt' hi
    rintro i ⟨hi, hal⟩
    simp (maxSteps := 2000000) only [go_sem, reduceIte, Nat.reduceEqDiff, Nat.reduceAdd, List.replicate_succ, lk20, laC]
    by_cases hlt : i < l.an.length
    · have hlt' : (i : Int) < l.an.length := by omega
      have g1 := gR_lt (l := l.li) (i := i) (by omega)
      have hlr : (i : Int) < l.li.length := by omega
      have hw := within51 200 (gR l.li i)
      unfold rgV rgC at hw
      have m1 : l.an.length - (i + 1) < l.an.length - i := by omega
      have w7 := wr_succ hlt (show l.an.length ≤ 140737488355328 by omega)
      simp (maxSteps := 2000000) only [go_sem, reduceIte, Nat.reduceEqDiff, Nat.reduceAdd, Nat.reduceLeDiff, Nat.reduceBEq, List.replicate_succ, lk20, hlt', nn, hlr, g1, rgD]
      refine aops_pure' (hw) rfl rfl (by first | exact wk_refls _ | (repeat constructor)) ?_
      cases hb : rgB 200 (gR l.li i) with
      | true =>
        simp (maxSteps := 2000000) only [go_sem, reduceIte, Nat.reduceEqDiff, Nat.reduceAdd, List.replicate_succ, lk20, w7]
        refine ⟨i + 1, ⟨hlt, upto_succ hal g1 (by rw [hb]; rfl)⟩, m1, ?_⟩
        refine ent_weaken [] rfl rfl (Nat.zero_le _) rfl rfl ?_
        simp (maxSteps := 2000000) only [go_sem, reduceIte, Nat.reduceEqDiff, Nat.reduceLT, List.replicate_succ, lk20, laC]
        all_goals first | exact .refl _ | exact ⟨.refl _, .refl _⟩ | exact ⟨.refl _, .refl _, .refl _⟩ | exact ⟨.refl _, _, rfl⟩ | exact ⟨_, rfl⟩ | exact ⟨.refl _, [], by simp⟩ | exact ⟨[], by simp⟩
      | false =>
        have hr : ¬ l.li.all (rgB 200) = true := fun h => by
          have := List.all_eq_true.1 h _ (List.mem_of_getElem? g1)
          rw [hb] at this; cases this
        rw [if_neg (fun h => hr h.1)] at e
        simp (maxSteps := 2000000) only [go_sem, reduceIte, Nat.reduceEqDiff, Nat.reduceAdd, List.replicate_succ, lk20, e]
    · have hlt' : ¬ (i : Int) < l.an.length := by omega
      have ei : i = l.an.length := by omega
      subst ei
      have hr : l.li.all (rgB 200) = true := List.all_eq_true.2 fun x hx => by
        obtain ⟨j, hj⟩ := List.getElem?_of_mem hx
        have := hal j x (by have := (List.getElem?_eq_some_iff.1 hj).1; omega) hj
        simpa using this
      simp (maxSteps := 2000000) only [go_sem, reduceIte, Nat.reduceEqDiff, Nat.reduceAdd, List.replicate_succ, lk20, hlt']
      refine goE_loop (bad := []) (kp := kp20) (fun i : Nat => { slots := [(1, .c (.ptr 0 0)), (6, I i)], heap := [.cells (laC l)], marks := [] }) (fun i => i ≤ l.we.length ∧ ∀ j x, j < i → l.we[j]? = some x → badW x = false) (fun i => l.we.length - i) 0 mo (by kernel_rfl) ?_ ⟨Nat.zero_le _, by intro j x h; omega⟩ ?_
      · refine ent_weaken [] rfl rfl (Nat.zero_le _) rfl rfl ?_
        simp (maxSteps := 2000000) only [go_sem, reduceIte, Nat.reduceEqDiff, Nat.reduceLT, List.replicate_succ, lk20, laC]
        all_goals first | exact .refl _ | exact ⟨.refl _, .refl _⟩ | exact ⟨.refl _, .refl _, .refl _⟩ | exact ⟨.refl _, _, rfl⟩ | exact ⟨_, rfl⟩ | exact ⟨.refl _, [], by simp⟩ | exact ⟨[], by simp⟩
      clear hlt hlt' hi
      rintro i ⟨hi, haw⟩
      simp (maxSteps := 2000000) only [go_sem, reduceIte, Nat.reduceEqDiff, Nat.reduceAdd, Nat.reduceBEq, List.replicate_succ, lk20, laC]
      by_cases hlt : i < l.we.length
      · have hlt' : (i : Int) < l.we.length := by omega
        have g1 := gI_lt (l := l.we) (i := i) (by omega)
        have m1 : l.we.length - (i + 1) < l.we.length - i := by omega
        have w7 := wr_succ hlt (show l.we.length ≤ 140737488355328 by omega)
        cases hb : badW (gI l.we i) with
        | true =>
          have hq : ¬ l.we.any badW = false := fun h => by
            have := List.any_eq_false.1 h _ (List.mem_of_getElem? g1)
            exact this hb
          rw [if_neg (fun h => hq h.2)] at e
          by_cases q1 : gI l.we i < 0
          · simp (maxSteps := 2000000) only [go_sem, reduceIte, Nat.reduceEqDiff, Nat.reduceAdd, Nat.reduceBEq, List.replicate_succ, lk20, hlt', nn, g1, iD, q1, e]
          · have q2 : 1000 < gI l.we i := by simpa [badW, q1] using hb
            simp (maxSteps := 2000000) only [go_sem, reduceIte, Nat.reduceEqDiff, Nat.reduceAdd, Nat.reduceBEq, List.replicate_succ, lk20, hlt', nn, g1, iD, q1, q2, e]
        | false =>
          have q1 : ¬ gI l.we i < 0 := by intro h; simp [badW, h] at hb
          have q2 : ¬ 1000 < gI l.we i := by intro h; simp [badW, h] at hb
          simp (maxSteps := 2000000) only [go_sem, reduceIte, Nat.reduceEqDiff, Nat.reduceAdd, Nat.reduceBEq, List.replicate_succ, lk20, hlt', nn, g1, iD, q1, q2, w7]
          refine ⟨i + 1, ⟨hlt, upto_succ haw g1 hb⟩, m1, ?_⟩
          refine ent_weaken [] rfl rfl (Nat.zero_le _) rfl rfl ?_
          simp (maxSteps := 2000000) only [go_sem, reduceIte, Nat.reduceEqDiff, Nat.reduceLT, List.replicate_succ, lk20, laC]
          all_goals first | exact .refl _ | exact ⟨.refl _, .refl _⟩ | exact ⟨.refl _, .refl _, .refl _⟩ | exact ⟨.refl _, _, rfl⟩ | exact ⟨_, rfl⟩ | exact ⟨.refl _, [], by simp⟩ | exact ⟨[], by simp⟩
      · have hlt' : ¬ (i : Int) < l.we.length := by omega
        have ei : i = l.we.length := by omega
        subst ei
        have hq : l.we.any badW = false := List.any_eq_false.2 fun x hx => by
          obtain ⟨j, hj⟩ := List.getElem?_of_mem hx
          rw [haw j x (List.getElem?_eq_some_iff.1 hj).1 hj]; simp
        rw [if_pos ⟨hr, hq⟩] at e
        simp (maxSteps := 2000000) only [go_sem, reduceIte, Nat.reduceEqDiff, Nat.reduceAdd, List.replicate_succ, lk20, hlt', e]
end Go.Proofs.Ytliamojogmlgjaa
