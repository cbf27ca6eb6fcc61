/- Zones: the statement Turned, walked. -/
import Derived.Test.YtliamojogmlgjaaZ34
set_option linter.unusedSimpArgs false
set_option linter.unusedVariables false
set_option maxRecDepth 100000
namespace Go.Proofs.Ytliamojogmlgjaa
open Go Go.Abs Go.Proofs

theorem take_nx {α : Type} {l : List α} {i : Nat} {y : α} (h : l[i]? = some y) : l.take (i + 1) = l.take i ++ [y] := by
  rw [List.take_add_one, h]; rfl
set_option maxHeartbeats 8000000 in
theorem turnedLaw (l : La) (at' : Int) (hat : 0 ≤ at' ∧ at' < 256) : Pure Try.prog 10 [laV l, .c (.d (.int .u8 at'))] (B true) := by
  refine pure_wkE (bad := [7, 11, 15]) (kp := kp10) (X := tx) (nt := 177) (rs := [.tmp 4]) Try.func10 rfl rfl rfl rfl mo (by kernel_rfl) rfl rfl (fun hf => ?_)
  have hg := great15 l
  have hl := lamp20 l
  unfold laV laC at hg hl
  simp only [go_sem, reduceIte, Nat.reduceEqDiff, Nat.reduceAdd, Nat.reduceLT, Nat.reduceLeDiff, Nat.reduceBEq, Nat.reduceMul, Nat.reduceSub, Nat.reduceDiv, Int.reduceNeg, Int.reduceLT, Int.reduceLE, Int.reduceEq, Int.reduceToNat, List.replicate_succ, lk10, laV, laC]
  refine aops_pure' (hg) rfl rfl (by first | exact wk_refls _ | (repeat constructor)) ?_
  cases hgb : greatB l with
  | true =>
    simp only [go_sem, reduceIte, Nat.reduceEqDiff, Nat.reduceAdd, Nat.reduceLT, Nat.reduceLeDiff, Nat.reduceBEq, Nat.reduceMul, Nat.reduceSub, Nat.reduceDiv, Int.reduceNeg, Int.reduceLT, Int.reduceLE, Int.reduceEq, Int.reduceToNat, List.replicate_succ, lk10]
    refine aops_pure' (works16) rfl rfl (by first | exact wk_refls _ | (repeat constructor)) ?_
    simp only [go_sem, reduceIte, Nat.reduceEqDiff, Nat.reduceAdd, Nat.reduceLT, Nat.reduceLeDiff, Nat.reduceBEq, Nat.reduceMul, Nat.reduceSub, Nat.reduceDiv, Int.reduceNeg, Int.reduceLT, Int.reduceLE, Int.reduceEq, Int.reduceToNat, List.replicate_succ, lk10]
  | false =>
  simp only [go_sem, reduceIte, Nat.reduceEqDiff, Nat.reduceAdd, Nat.reduceLT, Nat.reduceLeDiff, Nat.reduceBEq, Nat.reduceMul, Nat.reduceSub, Nat.reduceDiv, Int.reduceNeg, Int.reduceLT, Int.reduceLE, Int.reduceEq, Int.reduceToNat, List.replicate_succ, lk10]
  refine aops_pure' (hl) rfl rfl (by first | exact wk_refls _ | (repeat constructor)) ?_
  by_cases h0 : okLa l = 0
  case neg =>
    simp only [go_sem, reduceIte, Nat.reduceEqDiff, Nat.reduceAdd, Nat.reduceLT, Nat.reduceLeDiff, Nat.reduceBEq, Nat.reduceMul, Nat.reduceSub, Nat.reduceDiv, Int.reduceNeg, Int.reduceLT, Int.reduceLE, Int.reduceEq, Int.reduceToNat, List.replicate_succ, lk10, h0]
    refine aops_pure' (works16) rfl rfl (by first | exact wk_refls _ | (repeat constructor)) ?_
    simp only [go_sem, reduceIte, Nat.reduceEqDiff, Nat.reduceAdd, Nat.reduceLT, Nat.reduceLeDiff, Nat.reduceBEq, Nat.reduceMul, Nat.reduceSub, Nat.reduceDiv, Int.reduceNeg, Int.reduceLT, Int.reduceLE, Int.reduceEq, Int.reduceToNat, List.replicate_succ, lk10]
  obtain ⟨ok, h10⟩ := (okLa_iff l).1 h0
  obtain ⟨n2, n91⟩ := ok.n91
  have m2 := ok.m2
  have hli := ok.li
  have hfa := ok.fa
  have hwe := ok.we
  obtain ⟨e1, e2, e3, e4⟩ := rv_len l
  have okr := rv_ok ok
  have h0r : okLa (rvL l) = 0 := (okLa_iff _).2 ⟨okr, by rw [e1]; exact h10⟩
  have p0 : (0 : Int) < l.an.length := by omega
  have a0 := gI_lt (l := l.an) (i := 0) (by omega)
  have b0 := ok.a0 0 (by omega)
  obtain ⟨K, hK, eK⟩ : ∃ K : Nat, K < l.we.length ∧ at'.tmod l.we.length = (K : Int) := by
    have q0 : 0 ≤ at'.tmod l.we.length := Int.tmod_nonneg _ hat.1
    have q1 : at'.tmod l.we.length < l.we.length := by rw [Int.tmod_eq_emod_of_nonneg hat.1]; exact Int.emod_lt_of_pos _ (by omega)
    exact ⟨(at'.tmod l.we.length).toNat, by omega, by omega⟩
  have hne : ¬ (l.we.length : Int) = 0 := by omega
  have gan : ∀ k, k < l.an.length → (rvL l).an[k]? = some (90 - gI l.an (l.an.length - 1 - k)) := fun k hk => (rv_an hk).2
  have gli : ∀ k, k < l.li.length → (rvL l).li[k]? = some (gR l.li (l.li.length - 1 - k)) := fun k hk => (rv_li hk).2
  have gfa : ∀ k, k < l.fa.length → (rvL l).fa[k]? = some (!gB l.fa (l.fa.length - 1 - k)) := fun k hk => (rv_fa hk).2
  have gwe : ∀ k, k < l.we.length → (rvL l).we[k]? = some (gI l.we (l.we.length - 1 - k)) := fun k hk => (rv_we hk).2
  have hs := span27 l
  have ht := span27 (rvL l)
  have ha := at29 l (gI l.an 0 + K)
  have hb := at29 (rvL l) (90 - (gI l.an 0 + K))
  have hd1 := doubt25 l
  have hd2 := doubt25 (rvL l)
  have r0 : gI (rvL l).an 0 = 90 - gI l.an (l.an.length - 1) := by have := (rv_an (l := l) (k := 0) (by omega)).1; rwa [Nat.sub_zero] at this
  have rn : gI (rvL l).an ((rvL l).an.length - 1) = 90 - gI l.an 0 := by
    rw [e1]
    have := (rv_an (l := l) (k := l.an.length - 1) (by omega)).1
    rwa [Nat.sub_self] at this
  have hres : spE l = spE (rvL l) ∧ spR l = spR (rvL l) ∧ atE l (gI l.an 0 + K) = atE (rvL l) (90 - (gI l.an 0 + K)) ∧ atR l (gI l.an 0 + K) = atR (rvL l) (90 - (gI l.an 0 + K)) ∧ dtE l = dtE (rvL l) ∧ ((decide (spE l = 0) == decide (dtE l = 5)) = true) := by
    have hdb := rv_db ok
    cases hd : dbB l with
    | true =>
      rw [hd] at hdb
      have s1 := spE_21 h0 hd
      have s2 := spE_21 h0r hdb
      have t1 : atE l (gI l.an 0 + K) = 21 := atE_21 h0 (by omega) hd
      have t2 : atE (rvL l) (90 - (gI l.an 0 + K)) = 21 := atE_21 h0r (by rw [r0, rn]; omega) hdb
      have u1 : dtE l = 0 := by unfold dtE; rw [if_pos h0, hd]; rfl
      have u2 : dtE (rvL l) = 0 := by unfold dtE; rw [if_pos h0r, hdb]; rfl
      refine ⟨by rw [s1, s2], by rw [spR_bad (by rw [s1]; decide), spR_bad (by rw [s2]; decide)], by rw [t1, t2], by rw [atR_bad (by rw [t1]; decide), atR_bad (by rw [t2]; decide)], by rw [u1, u2], by rw [s1, u1]; rfl⟩
    | false =>
      rw [hd] at hdb
      have s1 := spE_0 h0 hd
      have s2 := spE_0 h0r hdb
      obtain ⟨t1, t2⟩ := at_k h0 hd hK
      obtain ⟨t3, t4⟩ := at_k h0r hdb (k := l.we.length - 1 - K) (by rw [e4]; omega)
      have ed : gI (rvL l).an 0 + ((l.we.length - 1 - K : Nat) : Int) = 90 - (gI l.an 0 + K) := by rw [r0]; omega
      rw [ed] at t3 t4
      obtain ⟨v1, v2⟩ := rv_bl ok (k := l.we.length - 1 - K) (by omega)
      rw [show l.we.length - 1 - (l.we.length - 1 - K) = K by omega] at v1 v2
      have u1 : dtE l = 5 := by unfold dtE; rw [if_pos h0, hd]; rfl
      have u2 : dtE (rvL l) = 5 := by unfold dtE; rw [if_pos h0r, hdb]; rfl
      obtain ⟨x1, x2⟩ := rv_sp ok
      refine ⟨by rw [s1, s2], by rw [spR_0 s1, spR_0 s2, x1, x2], by rw [t1, t3], by rw [t2, t4, v1, v2], by rw [u1, u2], by rw [s1, u1]; rfl⟩
  obtain ⟨y1, y2, y3, y4, y5, y6⟩ := hres
  rw [← y1, ← y2] at ht
  rw [← y3, ← y4] at hb
  rw [← y5] at hd2
  unfold laV laC at hs ht ha hb hd1 hd2
  unfold rgV rgC at hs ht ha hb
  generalize hAN : (rvL l).an = AN at *
  generalize hLI : (rvL l).li = LI at *
  generalize hFA : (rvL l).fa = FA at *
  generalize hWE : (rvL l).we = WE at *
  have z1 := rI_zero (m := l.an.length) (by omega)
  have z2 := rI_zero (m := l.fa.length) (by clear z1; omega)
  have z3 := rI_zero (m := l.we.length) (by clear z1 z2; omega)
  simp only [go_sem, reduceIte, Nat.reduceEqDiff, Nat.reduceAdd, Nat.reduceLT, Nat.reduceLeDiff, Nat.reduceBEq, Nat.reduceMul, Nat.reduceSub, Nat.reduceDiv, Int.reduceNeg, Int.reduceLT, Int.reduceLE, Int.reduceEq, Int.reduceToNat, List.replicate_succ, lk10, h0, z1]
  clear z1
  refine goE_loop (bad := [7, 11, 15]) (kp := kp10) (fun k : Nat => { slots := [(1, .c (.d (.int .u8 at'))), (2, .c (.ptr 0 0)), (5, .c (.ptr 1 0)), (6, I (rI l.an.length k))], heap := [.cells (laC l), .cells [.own 2 ((AN.take k).map iD), .own 3 ((LI.take k).map rgD), .full [], .full []], .grow (AN.take k).length 1, .grow (LI.take k).length 2], marks := [] }) (fun k => k ≤ l.an.length) (fun k => l.an.length - k) 0 mo (by kernel_rfl) ?_ (Nat.zero_le _) ?_
  · refine Ent.trans (ent_own_cell 1 0 1 rfl rfl) ?_
    refine Ent.trans (ent_own_cell 1 1 2 rfl rfl) ?_
    refine ent_weaken [] rfl rfl (Nat.zero_le _) rfl rfl ?_
    simp only [go_sem, reduceIte, Nat.reduceEqDiff, Nat.reduceAdd, Nat.reduceLT, Nat.reduceLeDiff, Nat.reduceBEq, Nat.reduceMul, Nat.reduceSub, Nat.reduceDiv, Int.reduceNeg, Int.reduceLT, Int.reduceLE, Int.reduceEq, Int.reduceToNat, List.replicate_succ, lk10, laC]
    all_goals first | exact .refl _ | exact ⟨.refl _, .refl _⟩ | exact ⟨.refl _, .refl _, .refl _⟩ | exact ⟨.refl _, _, rfl⟩ | exact ⟨_, rfl⟩ | exact ⟨.refl _, [], by simp⟩ | exact ⟨[], by simp⟩
  rintro k hk
  by_cases hlt : k < l.an.length
  · have ei := rI_lt hlt
    have q0 : ((l.an.length - 1 - k : Nat) : Int) < l.an.length := by clear z2 z3; omega
    have q1 : ((l.an.length - 1 - k : Nat) : Int) < l.li.length := by clear z2 z3; omega
    have g1 := gI_lt (l := l.an) (i := l.an.length - 1 - k) (by clear z2 z3; omega)
    have g2 := gR_lt (l := l.li) (i := l.an.length - 1 - k) (by clear z2 z3; omega)
    have br := ok.a0 (l.an.length - 1 - k) (by clear z2 z3; omega)
    have n1 := take_nx (gan k hlt)
    have n2' := gli k (by clear z2 z3; omega)
    rw [hli] at n2'
    have n2' := take_nx n2'
    have l1 : (AN.take k).length = k := by rw [List.length_take, e1]; clear z2 z3; omega
    have l2 : (LI.take k).length = k := by rw [List.length_take, e2]; clear z2 z3; omega
    have m1 : l.an.length - (k + 1) < l.an.length - k := by clear z2 z3; omega
    have wn := rI_next hlt (by clear z2 z3; omega)
    generalize l.an.length - 1 - k = j at *
    have w9 : wr .i64 (90 - gI l.an j) = 90 - gI l.an j := wr_in (by clear z2 z3 wn; omega)
    rw [ei]
    generalize AN.take k = A at *
    generalize LI.take k = L at *
    simp only [go_sem, reduceIte, Nat.reduceEqDiff, Nat.reduceAdd, Nat.reduceLT, Nat.reduceLeDiff, Nat.reduceBEq, Nat.reduceMul, Nat.reduceSub, Nat.reduceDiv, Int.reduceNeg, Int.reduceLT, Int.reduceLE, Int.reduceEq, Int.reduceToNat, List.replicate_succ, lk10, laC, nn, q0, q1, g1, g2, iD, rgD, w9, wn, List.length_map, List.length_append]
    refine ⟨by clear w9 wn z2 z3; simp; omega, by clear w9 wn z2 z3; simp; omega, pairsOk_ord (by kernel_rfl), k + 1, hlt, m1, ?_⟩
    refine ent_weaken [.gone, .gone] (by rw [n1, n2']; simp [laC, iD, rgD]) rfl (Nat.zero_le _) rfl rfl ?_
    simp only [go_sem, reduceIte, Nat.reduceEqDiff, Nat.reduceAdd, Nat.reduceLT, Nat.reduceLeDiff, Nat.reduceBEq, Nat.reduceMul, Nat.reduceSub, Nat.reduceDiv, Int.reduceNeg, Int.reduceLT, Int.reduceLE, Int.reduceEq, Int.reduceToNat, List.replicate_succ, lk10, laC]
    all_goals first | exact .refl _ | exact ⟨.refl _, .refl _⟩ | exact ⟨.refl _, .refl _, .refl _⟩ | exact ⟨.refl _, _, rfl⟩ | exact ⟨_, rfl⟩ | exact ⟨.refl _, [], by simp⟩ | exact ⟨[], by simp⟩
  have ek : k = l.an.length := by clear z2 z3; omega
  subst ek
  have hneg := rI_end l.an.length
  have t1 : AN.take l.an.length = AN := List.take_of_length_le (by rw [e1]; exact Nat.le_refl _)
  have t2 : LI.take l.an.length = LI := List.take_of_length_le (by rw [e2, hli]; exact Nat.le_refl _)
  rw [t1, t2]
  simp only [go_sem, reduceIte, Nat.reduceEqDiff, Nat.reduceAdd, Nat.reduceLT, Nat.reduceLeDiff, Nat.reduceBEq, Nat.reduceMul, Nat.reduceSub, Nat.reduceDiv, Int.reduceNeg, Int.reduceLT, Int.reduceLE, Int.reduceEq, Int.reduceToNat, List.replicate_succ, lk10, laC, hneg, z2]
  clear z2 hneg hlt hk
  refine goE_loop (bad := [7, 11, 15]) (kp := kp10) (fun k : Nat => { slots := [(1, .c (.d (.int .u8 at'))), (2, .c (.ptr 0 0)), (5, .c (.ptr 1 0)), (7, I (rI l.fa.length k))], heap := [.cells (laC l), .cells [.own 2 (AN.map iD), .own 3 (LI.map rgD), .own 4 ((FA.take k).map bD), .full []], .grow AN.length 1, .grow LI.length 2, .grow (FA.take k).length 1], marks := [] }) (fun k => k ≤ l.fa.length) (fun k => l.fa.length - k) 0 mo (by kernel_rfl) ?_ (Nat.zero_le _) ?_
  · refine Ent.trans (ent_own_cell 1 2 1 rfl rfl) ?_
    refine ent_weaken [] rfl rfl (Nat.zero_le _) rfl rfl ?_
    simp only [go_sem, reduceIte, Nat.reduceEqDiff, Nat.reduceAdd, Nat.reduceLT, Nat.reduceLeDiff, Nat.reduceBEq, Nat.reduceMul, Nat.reduceSub, Nat.reduceDiv, Int.reduceNeg, Int.reduceLT, Int.reduceLE, Int.reduceEq, Int.reduceToNat, List.replicate_succ, lk10, laC]
    all_goals first | exact .refl _ | exact ⟨.refl _, .refl _⟩ | exact ⟨.refl _, .refl _, .refl _⟩ | exact ⟨.refl _, _, rfl⟩ | exact ⟨_, rfl⟩ | exact ⟨.refl _, [], by simp⟩ | exact ⟨[], by simp⟩
  rintro k hk
  by_cases hlt : k < l.fa.length
  · have ei := rI_lt hlt
    have q0 : ((l.fa.length - 1 - k : Nat) : Int) < l.fa.length := by clear z3; omega
    have g1 := gB_lt (l := l.fa) (i := l.fa.length - 1 - k) (by clear z3; omega)
    have n1 := take_nx (gfa k hlt)
    have l1 : (FA.take k).length = k := by rw [List.length_take, e3]; clear z3; omega
    have m1 : l.fa.length - (k + 1) < l.fa.length - k := by clear z3; omega
    have wn := rI_next hlt (by clear z3; omega)
    generalize l.fa.length - 1 - k = j at *
    rw [ei]
    generalize FA.take k = F at *
    simp only [go_sem, reduceIte, Nat.reduceEqDiff, Nat.reduceAdd, Nat.reduceLT, Nat.reduceLeDiff, Nat.reduceBEq, Nat.reduceMul, Nat.reduceSub, Nat.reduceDiv, Int.reduceNeg, Int.reduceLT, Int.reduceLE, Int.reduceEq, Int.reduceToNat, List.replicate_succ, lk10, laC, nn, q0, g1, bD, wn, List.length_map, List.length_append]
    refine ⟨by clear wn z3; simp; omega, pairsOk_ord (by kernel_rfl), k + 1, hlt, m1, ?_⟩
    refine ent_weaken [.gone] (by rw [n1]; simp [laC, bD]) rfl (Nat.zero_le _) rfl rfl ?_
    simp only [go_sem, reduceIte, Nat.reduceEqDiff, Nat.reduceAdd, Nat.reduceLT, Nat.reduceLeDiff, Nat.reduceBEq, Nat.reduceMul, Nat.reduceSub, Nat.reduceDiv, Int.reduceNeg, Int.reduceLT, Int.reduceLE, Int.reduceEq, Int.reduceToNat, List.replicate_succ, lk10, laC]
    all_goals first | exact .refl _ | exact ⟨.refl _, .refl _⟩ | exact ⟨.refl _, .refl _, .refl _⟩ | exact ⟨.refl _, _, rfl⟩ | exact ⟨_, rfl⟩ | exact ⟨.refl _, [], by simp⟩ | exact ⟨[], by simp⟩
  have ek : k = l.fa.length := by clear z3; omega
  subst ek
  have hneg := rI_end l.fa.length
  have t3 : FA.take l.fa.length = FA := List.take_of_length_le (by rw [e3]; exact Nat.le_refl _)
  rw [t3]
  simp only [go_sem, reduceIte, Nat.reduceEqDiff, Nat.reduceAdd, Nat.reduceLT, Nat.reduceLeDiff, Nat.reduceBEq, Nat.reduceMul, Nat.reduceSub, Nat.reduceDiv, Int.reduceNeg, Int.reduceLT, Int.reduceLE, Int.reduceEq, Int.reduceToNat, List.replicate_succ, lk10, laC, hneg, z3]
  clear z3 hneg hlt hk
  refine goE_loop (bad := [7, 11, 15]) (kp := kp10) (fun k : Nat => { slots := [(1, .c (.d (.int .u8 at'))), (2, .c (.ptr 0 0)), (5, .c (.ptr 1 0)), (8, I (rI l.we.length k))], heap := [.cells (laC l), .cells [.own 2 (AN.map iD), .own 3 (LI.map rgD), .own 4 (FA.map bD), .own 5 ((WE.take k).map iD)], .grow AN.length 1, .grow LI.length 2, .grow FA.length 1, .grow (WE.take k).length 1], marks := [] }) (fun k => k ≤ l.we.length) (fun k => l.we.length - k) 0 mo (by kernel_rfl) ?_ (Nat.zero_le _) ?_
  · refine Ent.trans (ent_own_cell 1 3 1 rfl rfl) ?_
    refine ent_weaken [] rfl rfl (Nat.zero_le _) rfl rfl ?_
    simp only [go_sem, reduceIte, Nat.reduceEqDiff, Nat.reduceAdd, Nat.reduceLT, Nat.reduceLeDiff, Nat.reduceBEq, Nat.reduceMul, Nat.reduceSub, Nat.reduceDiv, Int.reduceNeg, Int.reduceLT, Int.reduceLE, Int.reduceEq, Int.reduceToNat, List.replicate_succ, lk10, laC]
    all_goals first | exact .refl _ | exact ⟨.refl _, .refl _⟩ | exact ⟨.refl _, .refl _, .refl _⟩ | exact ⟨.refl _, _, rfl⟩ | exact ⟨_, rfl⟩ | exact ⟨.refl _, [], by simp⟩ | exact ⟨[], by simp⟩
  rintro k hk
  by_cases hlt : k < l.we.length
  · have ei := rI_lt hlt
    have q0 : ((l.we.length - 1 - k : Nat) : Int) < l.we.length := by omega
    have g1 := gI_lt (l := l.we) (i := l.we.length - 1 - k) (by omega)
    have n1 := take_nx (gwe k hlt)
    have l1 : (WE.take k).length = k := by rw [List.length_take, e4]; omega
    have m1 : l.we.length - (k + 1) < l.we.length - k := by omega
    have wn := rI_next hlt (by omega)
    generalize l.we.length - 1 - k = j at *
    rw [ei]
    generalize WE.take k = F at *
    simp only [go_sem, reduceIte, Nat.reduceEqDiff, Nat.reduceAdd, Nat.reduceLT, Nat.reduceLeDiff, Nat.reduceBEq, Nat.reduceMul, Nat.reduceSub, Nat.reduceDiv, Int.reduceNeg, Int.reduceLT, Int.reduceLE, Int.reduceEq, Int.reduceToNat, List.replicate_succ, lk10, laC, nn, q0, g1, iD, wn, List.length_map, List.length_append]
    refine ⟨by clear wn; simp; omega, pairsOk_ord (by kernel_rfl), k + 1, hlt, m1, ?_⟩
    refine ent_weaken [.gone] (by rw [n1]; simp [laC, iD]) rfl (Nat.zero_le _) rfl rfl ?_
    simp only [go_sem, reduceIte, Nat.reduceEqDiff, Nat.reduceAdd, Nat.reduceLT, Nat.reduceLeDiff, Nat.reduceBEq, Nat.reduceMul, Nat.reduceSub, Nat.reduceDiv, Int.reduceNeg, Int.reduceLT, Int.reduceLE, Int.reduceEq, Int.reduceToNat, List.replicate_succ, lk10, laC]
    all_goals first | exact .refl _ | exact ⟨.refl _, .refl _⟩ | exact ⟨.refl _, .refl _, .refl _⟩ | exact ⟨.refl _, _, rfl⟩ | exact ⟨_, rfl⟩ | exact ⟨.refl _, [], by simp⟩ | exact ⟨[], by simp⟩
  have ek : k = l.we.length := by omega
  subst ek
  have hneg := rI_end l.we.length
  have t4 : WE.take l.we.length = WE := List.take_of_length_le (by rw [e4]; exact Nat.le_refl _)
  rw [t4]
  have w1 : wr .i64 at' = at' := wr_in (by omega)
  have w2 : wr .i64 (gI l.an 0 + (K : Int)) = gI l.an 0 + (K : Int) := wr_in (by clear w1; omega)
  have w3 : wr .i64 (90 - (gI l.an 0 + (K : Int))) = 90 - (gI l.an 0 + (K : Int)) := wr_in (by clear w1 w2; omega)
  simp only [go_sem, reduceIte, Nat.reduceEqDiff, Nat.reduceAdd, Nat.reduceLT, Nat.reduceLeDiff, Nat.reduceBEq, Nat.reduceMul, Nat.reduceSub, Nat.reduceDiv, Int.reduceNeg, Int.reduceLT, Int.reduceLE, Int.reduceEq, Int.reduceToNat, List.replicate_succ, lk10, laC, hneg, p0, a0, nn, iD, w1, hne, eK, w2]
  refine aops_pure' (hs) rfl rfl (by first | exact wk_refls _ | (repeat constructor)) ?_
  simp only [go_sem, reduceIte, Nat.reduceEqDiff, Nat.reduceAdd, Nat.reduceLT, Nat.reduceLeDiff, Nat.reduceBEq, Nat.reduceMul, Nat.reduceSub, Nat.reduceDiv, Int.reduceNeg, Int.reduceLT, Int.reduceLE, Int.reduceEq, Int.reduceToNat, List.replicate_succ, lk10]
  refine aops_pure' (ht) rfl rfl (by first | exact wk_refls _ | (repeat constructor)) ?_
  simp only [go_sem, reduceIte, Nat.reduceEqDiff, Nat.reduceAdd, Nat.reduceLT, Nat.reduceLeDiff, Nat.reduceBEq, Nat.reduceMul, Nat.reduceSub, Nat.reduceDiv, Int.reduceNeg, Int.reduceLT, Int.reduceLE, Int.reduceEq, Int.reduceToNat, List.replicate_succ, lk10]
  refine aops_pure' (ha) rfl rfl (by first | exact wk_refls _ | (repeat constructor)) ?_
  simp only [go_sem, reduceIte, Nat.reduceEqDiff, Nat.reduceAdd, Nat.reduceLT, Nat.reduceLeDiff, Nat.reduceBEq, Nat.reduceMul, Nat.reduceSub, Nat.reduceDiv, Int.reduceNeg, Int.reduceLT, Int.reduceLE, Int.reduceEq, Int.reduceToNat, List.replicate_succ, lk10, w3]
  refine aops_pure' (hb) rfl rfl (by first | exact wk_refls _ | (repeat constructor)) ?_
  simp only [go_sem, reduceIte, Nat.reduceEqDiff, Nat.reduceAdd, Nat.reduceLT, Nat.reduceLeDiff, Nat.reduceBEq, Nat.reduceMul, Nat.reduceSub, Nat.reduceDiv, Int.reduceNeg, Int.reduceLT, Int.reduceLE, Int.reduceEq, Int.reduceToNat, List.replicate_succ, lk10]
  refine aops_pure' (hd1) rfl rfl (by first | exact wk_refls _ | (repeat constructor)) ?_
  simp only [go_sem, reduceIte, Nat.reduceEqDiff, Nat.reduceAdd, Nat.reduceLT, Nat.reduceLeDiff, Nat.reduceBEq, Nat.reduceMul, Nat.reduceSub, Nat.reduceDiv, Int.reduceNeg, Int.reduceLT, Int.reduceLE, Int.reduceEq, Int.reduceToNat, List.replicate_succ, lk10]
  refine aops_pure' (hd2) rfl rfl (by first | exact wk_refls _ | (repeat constructor)) ?_
  simp only [go_sem, reduceIte, Nat.reduceEqDiff, Nat.reduceAdd, Nat.reduceLT, Nat.reduceLeDiff, Nat.reduceBEq, Nat.reduceMul, Nat.reduceSub, Nat.reduceDiv, Int.reduceNeg, Int.reduceLT, Int.reduceLE, Int.reduceEq, Int.reduceToNat, List.replicate_succ, lk10, y6]
  refine aops_pure' (works16) rfl rfl (by first | exact wk_refls _ | (repeat constructor)) ?_
  simp only [go_sem, reduceIte, Nat.reduceEqDiff, Nat.reduceAdd, Nat.reduceLT, Nat.reduceLeDiff, Nat.reduceBEq, Nat.reduceMul, Nat.reduceSub, Nat.reduceDiv, Int.reduceNeg, Int.reduceLT, Int.reduceLE, Int.reduceEq, Int.reduceToNat, List.replicate_succ, lk10]
end Go.Proofs.Ytliamojogmlgjaa
