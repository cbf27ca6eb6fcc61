/- Zones: the statement Held. -/
import Derived.Test.YtliamojogmlgjaaZ30
set_option linter.unusedSimpArgs false
set_option linter.unusedVariables false
set_option maxRecDepth 100000
namespace Go.Proofs.Ytliamojogmlgjaa
open Go Go.Abs Go.Proofs
def kp7 : List (Nat × List Nat) := [(0, [1, 2, 3, 5, 9]), (1, [1, 2, 3, 5, 9, 38]), (2, [10]), (3, [1, 2, 3, 5, 9, 11, 12]), (4, [1, 2, 3, 5, 9, 11, 12, 13, 14]), (5, [1, 2, 3, 5, 9, 11, 12, 13, 14, 15, 16]), (6, [1, 2, 3, 5, 9, 11, 94]), (7, [10]), (8, [1, 2, 5, 9, 11, 17]), (9, [1, 2, 5, 9, 11, 17, 18, 19]), (10, [1, 2, 5, 9, 11, 17, 18, 113]), (11, [10]), (12, [5, 9, 11, 17, 18, 20]), (13, [5, 9, 11, 17, 18, 20, 21]), (14, [5, 9, 11, 17, 18, 20, 21, 120]), (15, [5, 9, 11, 17, 18, 20, 21]), (16, [5, 9, 11, 17, 18, 20, 21, 22]), (17, [5, 9, 11, 17, 18, 20, 21, 22, 23, 24]), (18, [5, 9, 11, 17, 18, 20, 21, 22, 23, 24, 147]), (19, [10]), (20, [5, 9, 11, 17, 18, 20, 21, 22, 23, 149]), (21, [5, 9, 11, 17, 18, 20, 21, 22, 185]), (22, [10]), (23, [5, 9, 11, 17, 18, 20, 21, 22, 24, 25]), (24, [5, 9, 11, 17, 18, 20, 21, 22, 24, 25, 206]), (25, [5, 9, 11, 17, 18, 20, 21, 208]), (26, [10]), (27, [5, 9, 11, 17, 18, 20, 21, 230]), (28, [10]), (29, [10])]
theorem lk7 : lookK kp7 0 = some [1, 2, 3, 5, 9] ∧ lookK kp7 1 = some [1, 2, 3, 5, 9, 38] ∧ lookK kp7 2 = some [10] ∧ lookK kp7 3 = some [1, 2, 3, 5, 9, 11, 12] ∧ lookK kp7 4 = some [1, 2, 3, 5, 9, 11, 12, 13, 14] ∧ lookK kp7 5 = some [1, 2, 3, 5, 9, 11, 12, 13, 14, 15, 16] ∧ lookK kp7 6 = some [1, 2, 3, 5, 9, 11, 94] ∧ lookK kp7 7 = some [10] ∧ lookK kp7 8 = some [1, 2, 5, 9, 11, 17] ∧ lookK kp7 9 = some [1, 2, 5, 9, 11, 17, 18, 19] ∧ lookK kp7 10 = some [1, 2, 5, 9, 11, 17, 18, 113] ∧ lookK kp7 11 = some [10] ∧ lookK kp7 12 = some [5, 9, 11, 17, 18, 20] ∧ lookK kp7 13 = some [5, 9, 11, 17, 18, 20, 21] ∧ lookK kp7 14 = some [5, 9, 11, 17, 18, 20, 21, 120] ∧ lookK kp7 15 = some [5, 9, 11, 17, 18, 20, 21] ∧ lookK kp7 16 = some [5, 9, 11, 17, 18, 20, 21, 22] ∧ lookK kp7 17 = some [5, 9, 11, 17, 18, 20, 21, 22, 23, 24] ∧ lookK kp7 18 = some [5, 9, 11, 17, 18, 20, 21, 22, 23, 24, 147] ∧ lookK kp7 19 = some [10] ∧ lookK kp7 20 = some [5, 9, 11, 17, 18, 20, 21, 22, 23, 149] ∧ lookK kp7 21 = some [5, 9, 11, 17, 18, 20, 21, 22, 185] ∧ lookK kp7 22 = some [10] ∧ lookK kp7 23 = some [5, 9, 11, 17, 18, 20, 21, 22, 24, 25] ∧ lookK kp7 24 = some [5, 9, 11, 17, 18, 20, 21, 22, 24, 25, 206] ∧ lookK kp7 25 = some [5, 9, 11, 17, 18, 20, 21, 208] ∧ lookK kp7 26 = some [10] ∧ lookK kp7 27 = some [5, 9, 11, 17, 18, 20, 21, 230] ∧ lookK kp7 28 = some [10] ∧ lookK kp7 29 = some [10] := ⟨rfl, rfl, rfl, rfl, rfl, rfl, rfl, rfl, rfl, rfl, rfl, rfl, rfl, rfl, rfl, rfl, rfl, rfl, rfl, rfl, rfl, rfl, rfl, rfl, rfl, rfl, rfl, rfl, rfl, rfl⟩

theorem ct_le {f g : Nat → Int} {s : Int} {k : Nat} (s0 : 0 ≤ s) (h : f k ≤ g k) : ctF f s k ≤ ctF g s k := by
  have := Int.mul_le_mul_of_nonneg_right h s0
  unfold ctF; omega
/-- What holds of a true lantern. -/
structure HF (l : La) (x : List Int) (K : Nat) : Prop where
  len : x.length = l.we.length
  f1 : spLo l ≤ fxN l x
  f2 : fxN l x ≤ spHi l
  sum : Pure Try.prog 38 [ints l.we, ints x] (I (fxN l x))
  k1 : bl l K ≤ gI x K
  k2 : gI x K ≤ bh l K
  c : ∀ s t, 0 ≤ s → s ≤ t → t ≤ 1000 → ∃ a b, Pure Try.prog 40 [laV l, ints x, I s] (I a) ∧ Pure Try.prog 40 [laV l, ints x, I t] (I b) ∧ coLo l ⟨s, t⟩ ≤ a ∧ b ≤ coHi l ⟨s, t⟩
theorem held_facts {l : La} {x : List Int} {K : Nat} (h : ctE l x = 0) (hK : K < l.we.length) : HF l x K := by
  obtain ⟨h0, hx, h2, h3⟩ := ctE_true h
  have ok := okLa_n h0
  have tr := fun k hk => true_range h (k := k) hk
  have t2 := fun k hk => true_200 h (k := k) hk
  obtain ⟨n2, n91⟩ := ok.n91
  have ef : fxN l x = sumW (gI l.we) (gI x) l.we.length := by unfold fxN; rw [if_pos h]
  refine ⟨hx, ?_, ?_, ?_, (tr K hK).1, (tr K hK).2, fun s t s0 st t1 => ⟨_, _, cflux40 l ok x hx t2 s s0 (Int.le_trans st t1), cflux40 l ok x hx t2 t (Int.le_trans s0 st) t1, ?_, ?_⟩⟩
  · rw [ef]; exact sumW_le (fun k hk => (ok.wr k hk).1) (fun k hk => (tr k hk).1)
  · rw [ef]; exact sumW_le (fun k hk => (ok.wr k hk).1) (fun k hk => (tr k hk).2)
  · rw [ef]; exact sum38 l.we x (by omega) (by omega) ok.wr (fun k hk => by have := t2 k hk; omega)
  · exact sumW_le (fun k hk => (ok.wr k hk).1) (fun k hk => ct_le s0 (tr k hk).1)
  · exact sumW_le (fun k hk => (ok.wr k hk).1) (fun k hk => ct_le (Int.le_trans s0 st) (tr k hk).2)
set_option maxHeartbeats 8000000 in
theorem heldLaw (l : La) (y : List Int) (hy : U8 y) (g : List Int) (at' : Int) (hat : 0 ≤ at' ∧ at' < 256) (r : Rg) : Pure Try.prog 7 [laV l, u8s y, ints g, .c (.d (.int .u8 at')), rgV r] (B true) := by
  refine pure_wkE (bad := [9]) (kp := kp7) (X := tx) (nt := 232) (rs := [.tmp 10]) Try.func7 rfl rfl rfl rfl mo (by kernel_rfl) rfl rfl (fun hf => ?_)
  have hfn := fine37 l
  unfold laV laC at hfn
  obtain ⟨rl, rh⟩ := r
  simp (config := { maxSteps := 2000000 }) only [go_sem, reduceIte, Nat.reduceEqDiff, Nat.reduceAdd, Nat.reduceLT, Nat.reduceLeDiff, Nat.reduceBEq, Nat.reduceMul, Nat.reduceSub, Nat.reduceDiv, Int.reduceNeg, Int.reduceLT, Int.reduceLE, Int.reduceEq, Int.reduceToNat, List.replicate_succ, lk7, laV, laC, u8s, ints, rgV, rgC]
  refine aops_pure' (hfn) rfl rfl (by first | exact wk_refls _ | (repeat constructor)) ?_
  cases hfb : fineB l with
  | false =>
    simp (config := { maxSteps := 2000000 }) only [go_sem, reduceIte, Nat.reduceEqDiff, Nat.reduceAdd, Nat.reduceLT, Nat.reduceLeDiff, Nat.reduceBEq, Nat.reduceMul, Nat.reduceSub, Nat.reduceDiv, Int.reduceNeg, Int.reduceLT, Int.reduceLE, Int.reduceEq, Int.reduceToNat, List.replicate_succ, lk7]
    refine aops_pure' (works16) rfl rfl (by first | exact wk_refls _ | (repeat constructor)) ?_
    simp (config := { maxSteps := 2000000 }) only [go_sem, reduceIte, Nat.reduceEqDiff, Nat.reduceAdd, Nat.reduceLT, Nat.reduceLeDiff, Nat.reduceBEq, Nat.reduceMul, Nat.reduceSub, Nat.reduceDiv, Int.reduceNeg, Int.reduceLT, Int.reduceLE, Int.reduceEq, Int.reduceToNat, List.replicate_succ, lk7]
  | true =>
  by_cases hy1 : 100 < y.length
  · have hy1' : (100 : Int) < y.length := by omega
    simp (config := { maxSteps := 2000000 }) only [go_sem, reduceIte, Nat.reduceEqDiff, Nat.reduceAdd, Nat.reduceLT, Nat.reduceLeDiff, Nat.reduceBEq, Nat.reduceMul, Nat.reduceSub, Nat.reduceDiv, Int.reduceNeg, Int.reduceLT, Int.reduceLE, Int.reduceEq, Int.reduceToNat, List.replicate_succ, lk7, hy1']
    refine aops_pure' (works16) rfl rfl (by first | exact wk_refls _ | (repeat constructor)) ?_
    simp (config := { maxSteps := 2000000 }) only [go_sem, reduceIte, Nat.reduceEqDiff, Nat.reduceAdd, Nat.reduceLT, Nat.reduceLeDiff, Nat.reduceBEq, Nat.reduceMul, Nat.reduceSub, Nat.reduceDiv, Int.reduceNeg, Int.reduceLT, Int.reduceLE, Int.reduceEq, Int.reduceToNat, List.replicate_succ, lk7]
  have hy1' : ¬ (100 : Int) < y.length := by omega
  by_cases hg1 : 100 < g.length
  · have hg1' : (100 : Int) < g.length := by omega
    simp (config := { maxSteps := 2000000 }) only [go_sem, reduceIte, Nat.reduceEqDiff, Nat.reduceAdd, Nat.reduceLT, Nat.reduceLeDiff, Nat.reduceBEq, Nat.reduceMul, Nat.reduceSub, Nat.reduceDiv, Int.reduceNeg, Int.reduceLT, Int.reduceLE, Int.reduceEq, Int.reduceToNat, List.replicate_succ, lk7, hy1', hg1']
    refine aops_pure' (works16) rfl rfl (by first | exact wk_refls _ | (repeat constructor)) ?_
    simp (config := { maxSteps := 2000000 }) only [go_sem, reduceIte, Nat.reduceEqDiff, Nat.reduceAdd, Nat.reduceLT, Nat.reduceLeDiff, Nat.reduceBEq, Nat.reduceMul, Nat.reduceSub, Nat.reduceDiv, Int.reduceNeg, Int.reduceLT, Int.reduceLE, Int.reduceEq, Int.reduceToNat, List.replicate_succ, lk7]
  have hg1' : ¬ (100 : Int) < g.length := by omega
  obtain ⟨h0, hd⟩ := (fine_iff l).1 hfb
  have ok := okLa_n h0
  obtain ⟨n2, n91⟩ := ok.n91
  have m2 := ok.m2
  have hsp := spE_0 h0 hd
  have p0 : (0 : Int) < l.an.length := by omega
  have a0 := gI_lt (l := l.an) (i := 0) (by omega)
  have b0 := ok.a0 0 (by omega)
  have hs := span27 l
  rw [hsp, spR_0 hsp] at hs
  have e1 := end33 l false
  have e2 := end33 l true
  rw [hsp] at e1 e2
  obtain ⟨c1, c1'⟩ := enL_true hsp false
  obtain ⟨c2, c2'⟩ := enL_true hsp true
  have t1 := true22 l (enL l false)
  have t2 := true22 l (enL l true)
  rw [c1] at t1
  rw [c2] at t2
  have k1 := (held_facts (K := 0) c1 (by omega)).sum
  have k2 := (held_facts (K := 0) c2 (by omega)).sum
  rw [c1'] at k1
  rw [c2'] at k2
  have k1 : Pure Try.prog 38 [ints l.we, ints (enL l false)] (I (spLo l)) := k1
  have k2 : Pure Try.prog 38 [ints l.we, ints (enL l true)] (I (spHi l)) := k2
  obtain ⟨K, hK, eK⟩ : ∃ K : Nat, K < l.we.length ∧ at'.tmod l.we.length = (K : Int) := by
    have q0 : 0 ≤ at'.tmod l.we.length := Int.tmod_nonneg _ hat.1
    have q1 : at'.tmod l.we.length < l.we.length := by rw [Int.tmod_eq_emod_of_nonneg hat.1]; exact Int.emod_lt_of_pos _ (by omega)
    exact ⟨(at'.tmod l.we.length).toNat, by omega, by omega⟩
  have hne : ¬ (l.we.length : Int) = 0 := by omega
  obtain ⟨at1, at2⟩ := at_k h0 hd hK
  have ha := at29 l (gI l.an 0 + K)
  rw [at1, at2] at ha
  have hl := lan39 l h0 hd y hy (by omega)
  have hlt := ct_of h0 (ln_true hd y)
  generalize fl l.we.length (lnF l y) = X0 at *
  have hfl := fun x => flux17 l x
  have h22 := fun x => true22 l x
  have hcoA := coated31 l ⟨rl, rh⟩
  have hcoB := hcoA
  have HF0 := held_facts hlt hK
  have HF1 := fun h => held_facts (x := g) h hK
  have hco3 : rgB 1000 ⟨rl, rh⟩ = false → coE l ⟨rl, rh⟩ = 3 ∧ coR l ⟨rl, rh⟩ = ⟨0, 0⟩ := fun h => by
    have e := coE_3 h0 h
    exact ⟨e, coR_bad (by rw [e]; decide)⟩
  have hco0 : 0 ≤ rl → rl ≤ rh → rh ≤ 1000 → coE l ⟨rl, rh⟩ = 0 ∧ coR l ⟨rl, rh⟩ = ⟨coLo l ⟨rl, rh⟩, coHi l ⟨rl, rh⟩⟩ := fun a b c => by
    have e := coE_0 (r := ⟨rl, rh⟩) h0 ((rgB_iff _ _).2 ⟨a, b, c⟩) hd
    exact ⟨e, coR_0 e⟩
  have hKx : ∀ x : List Int, x.length = l.we.length → (K : Int) < x.length ∧ x[K]? = some (gI x K) := fun x h => ⟨by omega, gI_lt (by omega)⟩
  unfold laV laC rgV rgC at hs ha hcoA
  unfold laV laC ints at e1 e2 t1 t2 hfl h22
  unfold laV laC u8s ints at hl
  unfold ints at k1 k2
  have v1 : wr .i64 at' = at' := wr_in (by omega)
  have w1 : wr .i64 (gI l.an 0 + (K : Int)) = gI l.an 0 + (K : Int) := wr_in (by clear v1; omega)
  simp (config := { maxSteps := 2000000 }) only [go_sem, reduceIte, Nat.reduceEqDiff, Nat.reduceAdd, Nat.reduceLT, Nat.reduceLeDiff, Nat.reduceBEq, Nat.reduceMul, Nat.reduceSub, Nat.reduceDiv, Int.reduceNeg, Int.reduceLT, Int.reduceLE, Int.reduceEq, Int.reduceToNat, List.replicate_succ, lk7, hy1', hg1']
  refine aops_pure' (hs) rfl rfl (by first | exact wk_refls _ | (repeat constructor)) ?_
  simp (config := { maxSteps := 2000000 }) only [go_sem, reduceIte, Nat.reduceEqDiff, Nat.reduceAdd, Nat.reduceLT, Nat.reduceLeDiff, Nat.reduceBEq, Nat.reduceMul, Nat.reduceSub, Nat.reduceDiv, Int.reduceNeg, Int.reduceLT, Int.reduceLE, Int.reduceEq, Int.reduceToNat, List.replicate_succ, lk7]
  refine aops_pure' (e1) rfl rfl (by first | exact wk_refls _ | (repeat constructor)) ?_
  simp (config := { maxSteps := 2000000 }) only [go_sem, reduceIte, Nat.reduceEqDiff, Nat.reduceAdd, Nat.reduceLT, Nat.reduceLeDiff, Nat.reduceBEq, Nat.reduceMul, Nat.reduceSub, Nat.reduceDiv, Int.reduceNeg, Int.reduceLT, Int.reduceLE, Int.reduceEq, Int.reduceToNat, List.replicate_succ, lk7]
  refine aops_pure' (e2) rfl rfl (by first | exact wk_refls _ | (repeat constructor)) ?_
  simp (config := { maxSteps := 2000000 }) only [go_sem, reduceIte, Nat.reduceEqDiff, Nat.reduceAdd, Nat.reduceLT, Nat.reduceLeDiff, Nat.reduceBEq, Nat.reduceMul, Nat.reduceSub, Nat.reduceDiv, Int.reduceNeg, Int.reduceLT, Int.reduceLE, Int.reduceEq, Int.reduceToNat, List.replicate_succ, lk7]
  refine dops_pure' (t1) rfl rfl (by first | exact wk_refls _ | (repeat constructor)) (by kernel_rfl) ?_
  simp (config := { maxSteps := 2000000 }) only [go_sem, reduceIte, Nat.reduceEqDiff, Nat.reduceAdd, Nat.reduceLT, Nat.reduceLeDiff, Nat.reduceBEq, Nat.reduceMul, Nat.reduceSub, Nat.reduceDiv, Int.reduceNeg, Int.reduceLT, Int.reduceLE, Int.reduceEq, Int.reduceToNat, List.replicate_succ, lk7]
  refine dops_pure' (t2) rfl rfl (by first | exact wk_refls _ | (repeat constructor)) (by kernel_rfl) ?_
  simp (config := { maxSteps := 2000000 }) only [go_sem, reduceIte, Nat.reduceEqDiff, Nat.reduceAdd, Nat.reduceLT, Nat.reduceLeDiff, Nat.reduceBEq, Nat.reduceMul, Nat.reduceSub, Nat.reduceDiv, Int.reduceNeg, Int.reduceLT, Int.reduceLE, Int.reduceEq, Int.reduceToNat, List.replicate_succ, lk7]
  refine dops_pure' (k1) rfl rfl (by first | exact wk_refls _ | (repeat constructor)) (by kernel_rfl) ?_
  simp (config := { maxSteps := 2000000 }) only [go_sem, reduceIte, Nat.reduceEqDiff, Nat.reduceAdd, Nat.reduceLT, Nat.reduceLeDiff, Nat.reduceBEq, Nat.reduceMul, Nat.reduceSub, Nat.reduceDiv, Int.reduceNeg, Int.reduceLT, Int.reduceLE, Int.reduceEq, Int.reduceToNat, List.replicate_succ, lk7]
  refine dops_pure' (k2) rfl rfl (by first | exact wk_refls _ | (repeat constructor)) (by kernel_rfl) ?_
  simp (config := { maxSteps := 2000000 }) only [go_sem, reduceIte, Nat.reduceEqDiff, Nat.reduceAdd, Nat.reduceLT, Nat.reduceLeDiff, Nat.reduceBEq, Nat.reduceMul, Nat.reduceSub, Nat.reduceDiv, Int.reduceNeg, Int.reduceLT, Int.reduceLE, Int.reduceEq, Int.reduceToNat, List.replicate_succ, lk7, v1, hne, eK, p0, a0, nn, iD, w1]
  refine de_pure (ha) rfl rfl (by first | exact wk_refls _ | (repeat constructor)) ?_
  simp (config := { maxSteps := 2000000 }) only [go_sem, reduceIte, Nat.reduceEqDiff, Nat.reduceAdd, Nat.reduceLT, Nat.reduceLeDiff, Nat.reduceBEq, Nat.reduceMul, Nat.reduceSub, Nat.reduceDiv, Int.reduceNeg, Int.reduceLT, Int.reduceLE, Int.reduceEq, Int.reduceToNat, List.replicate_succ, lk7]
  refine ⟨pairsOk_ord (by kernel_rfl), ?_⟩
  refine aops_pure' (hl) rfl rfl (by first | exact wk_refls _ | (repeat constructor)) ?_
  simp (config := { maxSteps := 2000000 }) only [go_sem, reduceIte, Nat.reduceEqDiff, Nat.reduceAdd, Nat.reduceLT, Nat.reduceLeDiff, Nat.reduceBEq, Nat.reduceMul, Nat.reduceSub, Nat.reduceDiv, Int.reduceNeg, Int.reduceLT, Int.reduceLE, Int.reduceEq, Int.reduceToNat, List.replicate_succ, lk7]
  clear v1 w1
  refine goE_loop (bad := [9]) (kp := kp7) (fun i : Nat => { slots := [(5, .c (.ptr 0 0)), (9, .c (.ptr 1 0)), (11, .c (.ptr 2 0)), (17, I K), (18, .c (.ptr 3 0)), (20, .c (.full [[.sl (X0.map iD)], [.sl (g.map iD)]])), (21, I i)], heap := [.cells (laC l), .cells [.d (.int .i64 rl), .d (.int .i64 rh)], .cells [.d (.int .i64 (spLo l)), .d (.int .i64 (spHi l))], .cells [.d (.int .i64 (bl l K)), .d (.int .i64 (bh l K))]], marks := [] }) (fun i => i ≤ 2) (fun i => 2 - i) 0 mo (by kernel_rfl) ?_ (Nat.zero_le _) ?_
  · refine ent_weaken [] rfl rfl (Nat.zero_le _) rfl rfl ?_
    simp (config := { maxSteps := 2000000 }) only [go_sem, reduceIte, Nat.reduceEqDiff, Nat.reduceAdd, Nat.reduceLT, Nat.reduceLeDiff, Nat.reduceBEq, Nat.reduceMul, Nat.reduceSub, Nat.reduceDiv, Int.reduceNeg, Int.reduceLT, Int.reduceLE, Int.reduceEq, Int.reduceToNat, List.replicate_succ, lk7, laC]
    all_goals first | exact .refl _ | exact ⟨.refl _, .refl _⟩ | exact ⟨.refl _, .refl _, .refl _⟩ | exact ⟨.refl _, _, rfl⟩ | exact ⟨_, rfl⟩ | exact ⟨.refl _, [], by simp⟩ | exact ⟨[], by simp⟩
  rintro i hi
  match i, hi with
  | 0, _ =>
    have hc := hlt
    have hh := HF0
    simp (config := { maxSteps := 2000000 }) only [go_sem, reduceIte, Nat.reduceEqDiff, Nat.reduceAdd, Nat.reduceLT, Nat.reduceLeDiff, Nat.reduceBEq, Nat.reduceMul, Nat.reduceSub, Nat.reduceDiv, Int.reduceNeg, Int.reduceLT, Int.reduceLE, Int.reduceEq, Int.reduceToNat, List.replicate_succ, lk7, laC]
    refine aops_pure' (hfl X0) rfl rfl (by first | exact wk_refls _ | (repeat constructor)) ?_
    have hkx := hKx X0 hh.len
    have f1 : ¬ fxN l X0 < spLo l := Int.not_lt.2 hh.f1
    have f2 : ¬ spHi l < fxN l X0 := Int.not_lt.2 hh.f2
    have q1 : ¬ gI X0 K < bl l K := Int.not_lt.2 hh.k1
    have q2 : ¬ bh l K < gI X0 K := Int.not_lt.2 hh.k2
    have hsum := hh.sum
    have hcc := hh.c rl rh
    unfold ints at hsum
    simp (config := { maxSteps := 2000000 }) only [go_sem, reduceIte, Nat.reduceEqDiff, Nat.reduceAdd, Nat.reduceLT, Nat.reduceLeDiff, Nat.reduceBEq, Nat.reduceMul, Nat.reduceSub, Nat.reduceDiv, Int.reduceNeg, Int.reduceLT, Int.reduceLE, Int.reduceEq, Int.reduceToNat, List.replicate_succ, lk7, laC, hc]
    refine aops_pure' (h22 X0) rfl rfl (by first | exact wk_refls _ | (repeat constructor)) ?_
    simp (config := { maxSteps := 2000000 }) only [go_sem, reduceIte, Nat.reduceEqDiff, Nat.reduceAdd, Nat.reduceLT, Nat.reduceLeDiff, Nat.reduceBEq, Nat.reduceMul, Nat.reduceSub, Nat.reduceDiv, Int.reduceNeg, Int.reduceLT, Int.reduceLE, Int.reduceEq, Int.reduceToNat, List.replicate_succ, lk7, hc, f1, f2, bne_self_eq_false]
    refine dops_pure' (hsum) rfl rfl (by first | exact wk_refls _ | (repeat constructor)) (by kernel_rfl) ?_
    simp (config := { maxSteps := 2000000 }) only [go_sem, reduceIte, Nat.reduceEqDiff, Nat.reduceAdd, Nat.reduceLT, Nat.reduceLeDiff, Nat.reduceBEq, Nat.reduceMul, Nat.reduceSub, Nat.reduceDiv, Int.reduceNeg, Int.reduceLT, Int.reduceLE, Int.reduceEq, Int.reduceToNat, List.replicate_succ, lk7, nn, hkx.1, hkx.2, iD, q1, q2]
    by_cases d1 : rl < 0
    · obtain ⟨z1, z2⟩ := hco3 (by simp [rgB, d1])
      rw [z1, z2] at hcoA
      refine aops_pure' (hcoA) rfl rfl (by first | exact wk_refls _ | (repeat constructor)) ?_
      simp (config := { maxSteps := 2000000 }) only [go_sem, reduceIte, Nat.reduceEqDiff, Nat.reduceAdd, Nat.reduceLT, Nat.reduceLeDiff, Nat.reduceBEq, Nat.reduceMul, Nat.reduceSub, Nat.reduceDiv, Int.reduceNeg, Int.reduceLT, Int.reduceLE, Int.reduceEq, Int.reduceToNat, List.replicate_succ, lk7, d1, Bool.not_true]
      refine ⟨1, by decide, by decide, ?_⟩
      refine ent_weaken [_] rfl rfl (Nat.zero_le _) rfl rfl ?_
      simp (config := { maxSteps := 2000000 }) only [go_sem, reduceIte, Nat.reduceEqDiff, Nat.reduceAdd, Nat.reduceLT, Nat.reduceLeDiff, Nat.reduceBEq, Nat.reduceMul, Nat.reduceSub, Nat.reduceDiv, Int.reduceNeg, Int.reduceLT, Int.reduceLE, Int.reduceEq, Int.reduceToNat, List.replicate_succ, lk7, laC]
      all_goals first | exact .refl _ | exact ⟨.refl _, .refl _⟩ | exact ⟨.refl _, .refl _, .refl _⟩ | exact ⟨.refl _, _, rfl⟩ | exact ⟨_, rfl⟩ | exact ⟨.refl _, [], by simp⟩ | exact ⟨[], by simp⟩
    by_cases d2 : rh < rl
    · obtain ⟨z1, z2⟩ := hco3 (by simp [rgB, d2])
      rw [z1, z2] at hcoA
      refine aops_pure' (hcoA) rfl rfl (by first | exact wk_refls _ | (repeat constructor)) ?_
      simp (config := { maxSteps := 2000000 }) only [go_sem, reduceIte, Nat.reduceEqDiff, Nat.reduceAdd, Nat.reduceLT, Nat.reduceLeDiff, Nat.reduceBEq, Nat.reduceMul, Nat.reduceSub, Nat.reduceDiv, Int.reduceNeg, Int.reduceLT, Int.reduceLE, Int.reduceEq, Int.reduceToNat, List.replicate_succ, lk7, d1, d2, Bool.not_true]
      refine ⟨1, by decide, by decide, ?_⟩
      refine ent_weaken [_] rfl rfl (Nat.zero_le _) rfl rfl ?_
      simp (config := { maxSteps := 2000000 }) only [go_sem, reduceIte, Nat.reduceEqDiff, Nat.reduceAdd, Nat.reduceLT, Nat.reduceLeDiff, Nat.reduceBEq, Nat.reduceMul, Nat.reduceSub, Nat.reduceDiv, Int.reduceNeg, Int.reduceLT, Int.reduceLE, Int.reduceEq, Int.reduceToNat, List.replicate_succ, lk7, laC]
      all_goals first | exact .refl _ | exact ⟨.refl _, .refl _⟩ | exact ⟨.refl _, .refl _, .refl _⟩ | exact ⟨.refl _, _, rfl⟩ | exact ⟨_, rfl⟩ | exact ⟨.refl _, [], by simp⟩ | exact ⟨[], by simp⟩
    by_cases d3 : 1000 < rh
    · obtain ⟨z1, z2⟩ := hco3 (by simp [rgB, d3])
      rw [z1, z2] at hcoA
      refine aops_pure' (hcoA) rfl rfl (by first | exact wk_refls _ | (repeat constructor)) ?_
      simp (config := { maxSteps := 2000000 }) only [go_sem, reduceIte, Nat.reduceEqDiff, Nat.reduceAdd, Nat.reduceLT, Nat.reduceLeDiff, Nat.reduceBEq, Nat.reduceMul, Nat.reduceSub, Nat.reduceDiv, Int.reduceNeg, Int.reduceLT, Int.reduceLE, Int.reduceEq, Int.reduceToNat, List.replicate_succ, lk7, d1, d2, d3, Bool.not_true]
      refine ⟨1, by decide, by decide, ?_⟩
      refine ent_weaken [_] rfl rfl (Nat.zero_le _) rfl rfl ?_
      simp (config := { maxSteps := 2000000 }) only [go_sem, reduceIte, Nat.reduceEqDiff, Nat.reduceAdd, Nat.reduceLT, Nat.reduceLeDiff, Nat.reduceBEq, Nat.reduceMul, Nat.reduceSub, Nat.reduceDiv, Int.reduceNeg, Int.reduceLT, Int.reduceLE, Int.reduceEq, Int.reduceToNat, List.replicate_succ, lk7, laC]
      all_goals first | exact .refl _ | exact ⟨.refl _, .refl _⟩ | exact ⟨.refl _, .refl _, .refl _⟩ | exact ⟨.refl _, _, rfl⟩ | exact ⟨_, rfl⟩ | exact ⟨.refl _, [], by simp⟩ | exact ⟨[], by simp⟩
    obtain ⟨z1, z2⟩ := hco0 (Int.not_lt.1 d1) (Int.not_lt.1 d2) (Int.not_lt.1 d3)
    obtain ⟨A, Bv, u1, u2, u3, u4⟩ := hcc (Int.not_lt.1 d1) (Int.not_lt.1 d2) (Int.not_lt.1 d3)
    have u3 : ¬ A < coLo l ⟨rl, rh⟩ := Int.not_lt.2 u3
    have u4 : ¬ coHi l ⟨rl, rh⟩ < Bv := Int.not_lt.2 u4
    rw [z1, z2] at hcoA
    unfold laV laC ints at u1 u2
    refine aops_pure' (hcoA) rfl rfl (by first | exact wk_refls _ | (repeat constructor)) ?_
    simp (config := { maxSteps := 2000000 }) only [go_sem, reduceIte, Nat.reduceEqDiff, Nat.reduceAdd, Nat.reduceLT, Nat.reduceLeDiff, Nat.reduceBEq, Nat.reduceMul, Nat.reduceSub, Nat.reduceDiv, Int.reduceNeg, Int.reduceLT, Int.reduceLE, Int.reduceEq, Int.reduceToNat, List.replicate_succ, lk7, d1, d2, d3]
    refine dops_pure' (u1) rfl rfl (by first | exact wk_refls _ | (repeat constructor)) (by kernel_rfl) ?_
    simp (config := { maxSteps := 2000000 }) only [go_sem, reduceIte, Nat.reduceEqDiff, Nat.reduceAdd, Nat.reduceLT, Nat.reduceLeDiff, Nat.reduceBEq, Nat.reduceMul, Nat.reduceSub, Nat.reduceDiv, Int.reduceNeg, Int.reduceLT, Int.reduceLE, Int.reduceEq, Int.reduceToNat, List.replicate_succ, lk7, u3]
    refine dops_pure' (u2) rfl rfl (by first | exact wk_refls _ | (repeat constructor)) (by kernel_rfl) ?_
    simp (config := { maxSteps := 2000000 }) only [go_sem, reduceIte, Nat.reduceEqDiff, Nat.reduceAdd, Nat.reduceLT, Nat.reduceLeDiff, Nat.reduceBEq, Nat.reduceMul, Nat.reduceSub, Nat.reduceDiv, Int.reduceNeg, Int.reduceLT, Int.reduceLE, Int.reduceEq, Int.reduceToNat, List.replicate_succ, lk7, u4]
    refine ⟨1, by decide, by decide, ?_⟩
    refine ent_weaken [_] rfl rfl (Nat.zero_le _) rfl rfl ?_
    simp (config := { maxSteps := 2000000 }) only [go_sem, reduceIte, Nat.reduceEqDiff, Nat.reduceAdd, Nat.reduceLT, Nat.reduceLeDiff, Nat.reduceBEq, Nat.reduceMul, Nat.reduceSub, Nat.reduceDiv, Int.reduceNeg, Int.reduceLT, Int.reduceLE, Int.reduceEq, Int.reduceToNat, List.replicate_succ, lk7, laC]
    all_goals first | exact .refl _ | exact ⟨.refl _, .refl _⟩ | exact ⟨.refl _, .refl _, .refl _⟩ | exact ⟨.refl _, _, rfl⟩ | exact ⟨_, rfl⟩ | exact ⟨.refl _, [], by simp⟩ | exact ⟨[], by simp⟩
  | 1, _ =>
    simp (config := { maxSteps := 2000000 }) only [go_sem, reduceIte, Nat.reduceEqDiff, Nat.reduceAdd, Nat.reduceLT, Nat.reduceLeDiff, Nat.reduceBEq, Nat.reduceMul, Nat.reduceSub, Nat.reduceDiv, Int.reduceNeg, Int.reduceLT, Int.reduceLE, Int.reduceEq, Int.reduceToNat, List.replicate_succ, lk7, laC]
    refine aops_pure' (hfl g) rfl rfl (by first | exact wk_refls _ | (repeat constructor)) ?_
    by_cases hc : ctE l g = 0
    case neg =>
      simp (config := { maxSteps := 2000000 }) only [go_sem, reduceIte, Nat.reduceEqDiff, Nat.reduceAdd, Nat.reduceLT, Nat.reduceLeDiff, Nat.reduceBEq, Nat.reduceMul, Nat.reduceSub, Nat.reduceDiv, Int.reduceNeg, Int.reduceLT, Int.reduceLE, Int.reduceEq, Int.reduceToNat, List.replicate_succ, lk7, laC, hc]
      refine aops_pure' (h22 g) rfl rfl (by first | exact wk_refls _ | (repeat constructor)) ?_
      simp (config := { maxSteps := 2000000 }) only [go_sem, reduceIte, Nat.reduceEqDiff, Nat.reduceAdd, Nat.reduceLT, Nat.reduceLeDiff, Nat.reduceBEq, Nat.reduceMul, Nat.reduceSub, Nat.reduceDiv, Int.reduceNeg, Int.reduceLT, Int.reduceLE, Int.reduceEq, Int.reduceToNat, List.replicate_succ, lk7, hc, bne_self_eq_false]
      refine ⟨2, by decide, by decide, ?_⟩
      refine ent_weaken [] rfl rfl (Nat.zero_le _) rfl rfl ?_
      simp (config := { maxSteps := 2000000 }) only [go_sem, reduceIte, Nat.reduceEqDiff, Nat.reduceAdd, Nat.reduceLT, Nat.reduceLeDiff, Nat.reduceBEq, Nat.reduceMul, Nat.reduceSub, Nat.reduceDiv, Int.reduceNeg, Int.reduceLT, Int.reduceLE, Int.reduceEq, Int.reduceToNat, List.replicate_succ, lk7, laC]
      all_goals first | exact .refl _ | exact ⟨.refl _, .refl _⟩ | exact ⟨.refl _, .refl _, .refl _⟩ | exact ⟨.refl _, _, rfl⟩ | exact ⟨_, rfl⟩ | exact ⟨.refl _, [], by simp⟩ | exact ⟨[], by simp⟩
    have hh := HF1 hc
    have hkx := hKx g hh.len
    have f1 : ¬ fxN l g < spLo l := Int.not_lt.2 hh.f1
    have f2 : ¬ spHi l < fxN l g := Int.not_lt.2 hh.f2
    have q1 : ¬ gI g K < bl l K := Int.not_lt.2 hh.k1
    have q2 : ¬ bh l K < gI g K := Int.not_lt.2 hh.k2
    have hsum := hh.sum
    have hcc := hh.c rl rh
    unfold ints at hsum
    simp (config := { maxSteps := 2000000 }) only [go_sem, reduceIte, Nat.reduceEqDiff, Nat.reduceAdd, Nat.reduceLT, Nat.reduceLeDiff, Nat.reduceBEq, Nat.reduceMul, Nat.reduceSub, Nat.reduceDiv, Int.reduceNeg, Int.reduceLT, Int.reduceLE, Int.reduceEq, Int.reduceToNat, List.replicate_succ, lk7, laC, hc]
    refine aops_pure' (h22 g) rfl rfl (by first | exact wk_refls _ | (repeat constructor)) ?_
    simp (config := { maxSteps := 2000000 }) only [go_sem, reduceIte, Nat.reduceEqDiff, Nat.reduceAdd, Nat.reduceLT, Nat.reduceLeDiff, Nat.reduceBEq, Nat.reduceMul, Nat.reduceSub, Nat.reduceDiv, Int.reduceNeg, Int.reduceLT, Int.reduceLE, Int.reduceEq, Int.reduceToNat, List.replicate_succ, lk7, hc, f1, f2, bne_self_eq_false]
    refine dops_pure' (hsum) rfl rfl (by first | exact wk_refls _ | (repeat constructor)) (by kernel_rfl) ?_
    simp (config := { maxSteps := 2000000 }) only [go_sem, reduceIte, Nat.reduceEqDiff, Nat.reduceAdd, Nat.reduceLT, Nat.reduceLeDiff, Nat.reduceBEq, Nat.reduceMul, Nat.reduceSub, Nat.reduceDiv, Int.reduceNeg, Int.reduceLT, Int.reduceLE, Int.reduceEq, Int.reduceToNat, List.replicate_succ, lk7, nn, hkx.1, hkx.2, iD, q1, q2]
    by_cases d1 : rl < 0
    · obtain ⟨z1, z2⟩ := hco3 (by simp [rgB, d1])
      rw [z1, z2] at hcoA
      refine aops_pure' (hcoA) rfl rfl (by first | exact wk_refls _ | (repeat constructor)) ?_
      simp (config := { maxSteps := 2000000 }) only [go_sem, reduceIte, Nat.reduceEqDiff, Nat.reduceAdd, Nat.reduceLT, Nat.reduceLeDiff, Nat.reduceBEq, Nat.reduceMul, Nat.reduceSub, Nat.reduceDiv, Int.reduceNeg, Int.reduceLT, Int.reduceLE, Int.reduceEq, Int.reduceToNat, List.replicate_succ, lk7, d1, Bool.not_true]
      refine ⟨2, by decide, by decide, ?_⟩
      refine ent_weaken [_] rfl rfl (Nat.zero_le _) rfl rfl ?_
      simp (config := { maxSteps := 2000000 }) only [go_sem, reduceIte, Nat.reduceEqDiff, Nat.reduceAdd, Nat.reduceLT, Nat.reduceLeDiff, Nat.reduceBEq, Nat.reduceMul, Nat.reduceSub, Nat.reduceDiv, Int.reduceNeg, Int.reduceLT, Int.reduceLE, Int.reduceEq, Int.reduceToNat, List.replicate_succ, lk7, laC]
      all_goals first | exact .refl _ | exact ⟨.refl _, .refl _⟩ | exact ⟨.refl _, .refl _, .refl _⟩ | exact ⟨.refl _, _, rfl⟩ | exact ⟨_, rfl⟩ | exact ⟨.refl _, [], by simp⟩ | exact ⟨[], by simp⟩
    by_cases d2 : rh < rl
    · obtain ⟨z1, z2⟩ := hco3 (by simp [rgB, d2])
      rw [z1, z2] at hcoA
      refine aops_pure' (hcoA) rfl rfl (by first | exact wk_refls _ | (repeat constructor)) ?_
      simp (config := { maxSteps := 2000000 }) only [go_sem, reduceIte, Nat.reduceEqDiff, Nat.reduceAdd, Nat.reduceLT, Nat.reduceLeDiff, Nat.reduceBEq, Nat.reduceMul, Nat.reduceSub, Nat.reduceDiv, Int.reduceNeg, Int.reduceLT, Int.reduceLE, Int.reduceEq, Int.reduceToNat, List.replicate_succ, lk7, d1, d2, Bool.not_true]
      refine ⟨2, by decide, by decide, ?_⟩
      refine ent_weaken [_] rfl rfl (Nat.zero_le _) rfl rfl ?_
      simp (config := { maxSteps := 2000000 }) only [go_sem, reduceIte, Nat.reduceEqDiff, Nat.reduceAdd, Nat.reduceLT, Nat.reduceLeDiff, Nat.reduceBEq, Nat.reduceMul, Nat.reduceSub, Nat.reduceDiv, Int.reduceNeg, Int.reduceLT, Int.reduceLE, Int.reduceEq, Int.reduceToNat, List.replicate_succ, lk7, laC]
      all_goals first | exact .refl _ | exact ⟨.refl _, .refl _⟩ | exact ⟨.refl _, .refl _, .refl _⟩ | exact ⟨.refl _, _, rfl⟩ | exact ⟨_, rfl⟩ | exact ⟨.refl _, [], by simp⟩ | exact ⟨[], by simp⟩
    by_cases d3 : 1000 < rh
    · obtain ⟨z1, z2⟩ := hco3 (by simp [rgB, d3])
      rw [z1, z2] at hcoA
      refine aops_pure' (hcoA) rfl rfl (by first | exact wk_refls _ | (repeat constructor)) ?_
      simp (config := { maxSteps := 2000000 }) only [go_sem, reduceIte, Nat.reduceEqDiff, Nat.reduceAdd, Nat.reduceLT, Nat.reduceLeDiff, Nat.reduceBEq, Nat.reduceMul, Nat.reduceSub, Nat.reduceDiv, Int.reduceNeg, Int.reduceLT, Int.reduceLE, Int.reduceEq, Int.reduceToNat, List.replicate_succ, lk7, d1, d2, d3, Bool.not_true]
      refine ⟨2, by decide, by decide, ?_⟩
      refine ent_weaken [_] rfl rfl (Nat.zero_le _) rfl rfl ?_
      simp (config := { maxSteps := 2000000 }) only [go_sem, reduceIte, Nat.reduceEqDiff, Nat.reduceAdd, Nat.reduceLT, Nat.reduceLeDiff, Nat.reduceBEq, Nat.reduceMul, Nat.reduceSub, Nat.reduceDiv, Int.reduceNeg, Int.reduceLT, Int.reduceLE, Int.reduceEq, Int.reduceToNat, List.replicate_succ, lk7, laC]
      all_goals first | exact .refl _ | exact ⟨.refl _, .refl _⟩ | exact ⟨.refl _, .refl _, .refl _⟩ | exact ⟨.refl _, _, rfl⟩ | exact ⟨_, rfl⟩ | exact ⟨.refl _, [], by simp⟩ | exact ⟨[], by simp⟩
    obtain ⟨z1, z2⟩ := hco0 (Int.not_lt.1 d1) (Int.not_lt.1 d2) (Int.not_lt.1 d3)
    obtain ⟨A, Bv, u1, u2, u3, u4⟩ := hcc (Int.not_lt.1 d1) (Int.not_lt.1 d2) (Int.not_lt.1 d3)
    have u3 : ¬ A < coLo l ⟨rl, rh⟩ := Int.not_lt.2 u3
    have u4 : ¬ coHi l ⟨rl, rh⟩ < Bv := Int.not_lt.2 u4
    rw [z1, z2] at hcoA
    unfold laV laC ints at u1 u2
    refine aops_pure' (hcoA) rfl rfl (by first | exact wk_refls _ | (repeat constructor)) ?_
    simp (config := { maxSteps := 2000000 }) only [go_sem, reduceIte, Nat.reduceEqDiff, Nat.reduceAdd, Nat.reduceLT, Nat.reduceLeDiff, Nat.reduceBEq, Nat.reduceMul, Nat.reduceSub, Nat.reduceDiv, Int.reduceNeg, Int.reduceLT, Int.reduceLE, Int.reduceEq, Int.reduceToNat, List.replicate_succ, lk7, d1, d2, d3]
    refine dops_pure' (u1) rfl rfl (by first | exact wk_refls _ | (repeat constructor)) (by kernel_rfl) ?_
    simp (config := { maxSteps := 2000000 }) only [go_sem, reduceIte, Nat.reduceEqDiff, Nat.reduceAdd, Nat.reduceLT, Nat.reduceLeDiff, Nat.reduceBEq, Nat.reduceMul, Nat.reduceSub, Nat.reduceDiv, Int.reduceNeg, Int.reduceLT, Int.reduceLE, Int.reduceEq, Int.reduceToNat, List.replicate_succ, lk7, u3]
    refine dops_pure' (u2) rfl rfl (by first | exact wk_refls _ | (repeat constructor)) (by kernel_rfl) ?_
    simp (config := { maxSteps := 2000000 }) only [go_sem, reduceIte, Nat.reduceEqDiff, Nat.reduceAdd, Nat.reduceLT, Nat.reduceLeDiff, Nat.reduceBEq, Nat.reduceMul, Nat.reduceSub, Nat.reduceDiv, Int.reduceNeg, Int.reduceLT, Int.reduceLE, Int.reduceEq, Int.reduceToNat, List.replicate_succ, lk7, u4]
    refine ⟨2, by decide, by decide, ?_⟩
    refine ent_weaken [_] rfl rfl (Nat.zero_le _) rfl rfl ?_
    simp (config := { maxSteps := 2000000 }) only [go_sem, reduceIte, Nat.reduceEqDiff, Nat.reduceAdd, Nat.reduceLT, Nat.reduceLeDiff, Nat.reduceBEq, Nat.reduceMul, Nat.reduceSub, Nat.reduceDiv, Int.reduceNeg, Int.reduceLT, Int.reduceLE, Int.reduceEq, Int.reduceToNat, List.replicate_succ, lk7, laC]
    all_goals first | exact .refl _ | exact ⟨.refl _, .refl _⟩ | exact ⟨.refl _, .refl _, .refl _⟩ | exact ⟨.refl _, _, rfl⟩ | exact ⟨_, rfl⟩ | exact ⟨.refl _, [], by simp⟩ | exact ⟨[], by simp⟩
  | 2, _ =>
    simp (config := { maxSteps := 2000000 }) only [go_sem, reduceIte, Nat.reduceEqDiff, Nat.reduceAdd, Nat.reduceLT, Nat.reduceLeDiff, Nat.reduceBEq, Nat.reduceMul, Nat.reduceSub, Nat.reduceDiv, Int.reduceNeg, Int.reduceLT, Int.reduceLE, Int.reduceEq, Int.reduceToNat, List.replicate_succ, lk7]
    refine aops_pure' (works16) rfl rfl (by first | exact wk_refls _ | (repeat constructor)) ?_
    simp (config := { maxSteps := 2000000 }) only [go_sem, reduceIte, Nat.reduceEqDiff, Nat.reduceAdd, Nat.reduceLT, Nat.reduceLeDiff, Nat.reduceBEq, Nat.reduceMul, Nat.reduceSub, Nat.reduceDiv, Int.reduceNeg, Int.reduceLT, Int.reduceLE, Int.reduceEq, Int.reduceToNat, List.replicate_succ, lk7]
  | i + 3, h => exact absurd h (by omega)
end Go.Proofs.Ytliamojogmlgjaa
