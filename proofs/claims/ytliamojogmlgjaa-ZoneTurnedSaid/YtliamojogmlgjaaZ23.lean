/- Zones: a lamp with a test, by the document's answer: at an angle. -/
import Derived.Test.YtliamojogmlgjaaZ22
set_option linter.unusedSimpArgs false
set_option linter.unusedVariables false
set_option maxRecDepth 100000
namespace Go.Proofs.Ytliamojogmlgjaa
open Go Go.Abs Go.Proofs

theorem take_next {α : Type} {l : List α} {i : Nat} {y : α} (h : l[i]? = some y) : l.take (i + 1) = l.take i ++ [y] := by
  rw [List.take_add_one, h]; rfl
set_option maxHeartbeats 8000000 in
theorem ref42a (l : La) (ok : OkLa l) (k : Nat) (hk : k < l.we.length) (r : Rg) (ha : angN l k < l.an.length) :
    Pure Try.prog 42 [laV l, I (gI l.an 0 + k), rgV r] (.tup [laV (tfL l k r), B (tsO l k r)]) := by
  refine pure_wkE (bad := [7, 10, 13, 15, 17, 10010, 10013, 10015, 10017, 10018, 10009]) (kp := kp42) (X := tx) (nt := 140) (rs := [.cell 6 26, .tmp 7]) Try.func42 rfl rfl rfl rfl mo (by kernel_rfl) rfl rfl (fun hf => ?_)
  have m2 := ok.m2
  have m11 := ok.m11
  have hli := ok.li
  have hfa := ok.fa
  have hto := tsO_a ha r
  have ets := tsL_a ha r
  have hPa := ang_at ok ha
  have hpa := ok.p ha
  have hda : gI l.an (angN l k) = gI l.an 0 + k := by omega
  have hlt : ∀ j, j < angN l k → gI l.an j < gI l.an 0 + k := fun j hj => by have := ok.lt hj ha; omega
  have efin : tsO l k r = true → tfL l k r = tsA l k r := fun h => by unfold tfL; rw [h, if_pos rfl, ets]
  have efal : tsO l k r = false → tfL l k r = ⟨l.an.take (angN l k), l.li.take (angN l k), l.fa.take (angN l k), l.we⟩ := fun h => by unfold tfL; rw [h]; rfl
  have eli : (tsA l k r).li = l.li.set (angN l k) (inter (gR l.li (angN l k)) r) := rfl
  have ean : (tsA l k r).an = l.an ∧ (tsA l k r).fa = l.fa ∧ (tsA l k r).we = l.we := ⟨rfl, rfl, rfl⟩
  have gns : ∀ i, i < l.li.length → (tsA l k r).li[i]? = some (if i = angN l k then inter (gR l.li (angN l k)) r else gR l.li i) := fun i hi => by
    rw [eli, gR_lt (by rw [List.length_set]; exact hi), gR_set (by omega)]
  have gtk : (tsA l k r).li.take (angN l k) = l.li.take (angN l k) := by rw [eli]; exact List.take_set_of_le (Nat.le_refl _)
  have enl : (tsA l k r).li.length = l.li.length := by rw [eli, List.length_set]
  obtain ⟨rl, rh⟩ := r
  have eit : inter (gR l.li (angN l k)) ⟨rl, rh⟩ = ⟨max (gR l.li (angN l k)).lo rl, min (gR l.li (angN l k)).hi rh⟩ := rfl
  generalize inter (gR l.li (angN l k)) ⟨rl, rh⟩ = y at *
  generalize gI l.an 0 + (k : Int) = d at *
  simp only [go_sem, reduceIte, Nat.reduceEqDiff, Nat.reduceAdd, Nat.reduceBEq, List.replicate_succ, lk42, laV, laC, rgV, rgC]
  refine goE_loop (bad := [7, 10, 13, 15, 17, 10010, 10013, 10015, 10017, 10018, 10009]) (kp := kp42) (fun i : Nat => { slots := [(1, I d), (3, .c (.ptr 0 0)), (5, .c (.ptr 1 0)), (6, .c (.ptr 2 0)), (8, .c (.ptr 3 0)), (9, B (decide (angN l k < i))), (10, I i)], heap := H42 l ⟨rl, rh⟩ (l.an.take i) ((tsA l k ⟨rl, rh⟩).li.take i) (l.fa.take i), marks := [] }) (fun i => i ≤ l.an.length ∧ (angN l k < i → tsO l k ⟨rl, rh⟩ = true)) (fun i => l.an.length - i) 0 mo (by kernel_rfl) ?_ ⟨Nat.zero_le _, fun h => by omega⟩ ?_
  · refine Ent.trans (ent_own_cell 3 0 1 rfl rfl) ?_
    refine Ent.trans (ent_own_cell 3 1 2 rfl rfl) ?_
    refine Ent.trans (ent_own_cell 3 2 1 rfl rfl) ?_
    refine ent_weaken [] rfl rfl (Nat.zero_le _) (H42_low _ _ _ _ _) rfl ?_
    simp only [go_sem, reduceIte, Nat.reduceEqDiff, Nat.reduceLT, List.replicate_succ, lk42, H42_len]
    all_goals first | exact .refl _ | exact ⟨.refl _, .refl _⟩ | exact ⟨.refl _, .refl _, .refl _⟩ | exact ⟨.refl _, _, rfl⟩ | exact ⟨_, rfl⟩ | exact ⟨.refl _, [], by simp⟩ | exact ⟨[], by simp⟩
  rintro i ⟨hi, hok⟩
  by_cases hli' : i < l.an.length
  case neg =>
    have hlt' : ¬ (i : Int) < l.an.length := by omega
    have ei : i = l.an.length := by omega
    have hto1 := hok (by omega)
    have efin := efin hto1
    have f1 : l.an.take i = l.an := List.take_of_length_le (by omega)
    have f2 : (tsA l k ⟨rl, rh⟩).li.take i = (tsA l k ⟨rl, rh⟩).li := List.take_of_length_le (by omega)
    have f3 : l.fa.take i = l.fa := List.take_of_length_le (by omega)
    rw [f1, f2, f3]
    obtain ⟨x1, x2, x3⟩ := ean
    simp only [go_sem, reduceIte, Nat.reduceEqDiff, Nat.reduceAdd, Nat.reduceLeDiff, Nat.reduceBEq, List.replicate_succ, lk42, H42, laC, zLa, rgC, hlt']
    refine stop_mk { slots := [(6, .c (.ptr 2 0)), (7, B true)], heap := [.cells (laC l), .cells [.d (.int .i64 rl), .d (.int .i64 rh)], .cells [.d (.sl (l.an.map iD)), .d (.sl ((tsA l k ⟨rl, rh⟩).li.map rgD)), .d (.sl (l.fa.map bD)), .d (.sl (l.we.map iD))]], marks := [] } ((ent_cells 2 rfl (by repeat constructor)).trans (ent_weaken [_, _, _, _] rfl rfl (Nat.zero_le _) rfl rfl ?_)) ?_
    · simp only [go_sem, reduceIte, Nat.reduceEqDiff, Nat.reduceAdd, Nat.reduceLT, List.replicate_succ]
      all_goals first | exact .refl _ | exact ⟨.refl _, .refl _⟩ | exact ⟨.refl _, .refl _, .refl _⟩ | exact ⟨.refl _, _, rfl⟩ | exact ⟨_, rfl⟩ | exact ⟨.refl _, [], by simp⟩ | exact ⟨[], by simp⟩
    simp only [go_sem, reduceIte, Nat.reduceEqDiff, Nat.reduceAdd, List.replicate_succ, lk42, efin, x1, x2, x3, hto1]
    all_goals first | exact .refl _ | exact ⟨.refl _, .refl _⟩ | exact ⟨.refl _, .refl _, .refl _⟩ | exact ⟨.refl _, _, rfl⟩ | exact ⟨_, rfl⟩ | exact ⟨.refl _, [], by simp⟩ | exact ⟨[], by simp⟩
  have hli2 : (i : Int) < l.an.length := by omega
  have hli3 : (i : Int) < l.li.length := by omega
  have g1 := gI_lt hli'
  have g2 := gR_lt (l := l.li) (i := i) (by omega)
  have gs := gns i (by omega)
  have mi : l.an.length - (i + 1) < l.an.length - i := by omega
  have ln1 : (l.an.take i).length ≤ 20 := by rw [List.length_take]; omega
  have ln2 : ((tsA l k ⟨rl, rh⟩).li.take i).length ≤ 20 := by rw [List.length_take]; omega
  have ln3 : (l.fa.take i).length ≤ 20 := by rw [List.length_take]; omega
  have n1 := take_next g1
  have n2 := take_next gs
  by_cases c1 : i = angN l k
  · rw [if_pos c1] at n2
    have dn : ¬ angN l k < i := by omega
    have dn2 : angN l k < i + 1 := by omega
    have hed : gI l.an i = d := by rw [c1]; exact hda
    rw [hed] at n1
    rw [← c1] at eit
    by_cases c2 : y.hi < y.lo
    · have hto0 : tsO l k ⟨rl, rh⟩ = false := by rw [hto, decide_eq_false (by omega)]
      have efal := efal hto0
      have c2' : min (gR l.li i).hi rh < max (gR l.li i).lo rl := by rw [eit] at c2; exact c2
      rw [← c1] at gtk efal
      rw [gtk]
      simp only [go_sem, reduceIte, Nat.reduceEqDiff, Nat.reduceAdd, Nat.reduceLT, Nat.reduceLeDiff, Nat.reduceBEq, List.replicate_succ, lk42, H42, laC, zLa, rgC, hli2, hli3, dn, decide_false, Bool.not_false, nn, g1, g2, iD, rgD, hed, maxL1, minL1, c2']
      refine ⟨pairsOk_ord (by kernel_rfl), ?_⟩
      refine stop_mk { slots := [(6, .c (.ptr 2 0)), (7, B false)], heap := [.cells (laC l), .cells [.d (.int .i64 rl), .d (.int .i64 rh)], .cells [.d (.sl ((l.an.take i).map iD)), .d (.sl ((l.li.take i).map rgD)), .d (.sl ((l.fa.take i).map bD)), .d (.sl (l.we.map iD))]], marks := [] } ((ent_cells 2 rfl (by repeat constructor)).trans (ent_weaken [_, _, _, _, _] rfl rfl (Nat.zero_le _) rfl rfl ?_)) ?_
      · simp only [go_sem, reduceIte, Nat.reduceEqDiff, Nat.reduceAdd, Nat.reduceLT, List.replicate_succ]
        all_goals first | exact .refl _ | exact ⟨.refl _, .refl _⟩ | exact ⟨.refl _, .refl _, .refl _⟩ | exact ⟨.refl _, _, rfl⟩ | exact ⟨_, rfl⟩ | exact ⟨.refl _, [], by simp⟩ | exact ⟨[], by simp⟩
      simp only [go_sem, reduceIte, Nat.reduceEqDiff, Nat.reduceAdd, List.replicate_succ, lk42, efal, hto0]
      all_goals first | exact .refl _ | exact ⟨.refl _, .refl _⟩ | exact ⟨.refl _, .refl _, .refl _⟩ | exact ⟨.refl _, _, rfl⟩ | exact ⟨_, rfl⟩ | exact ⟨.refl _, [], by simp⟩ | exact ⟨[], by simp⟩
    have hto1 : tsO l k ⟨rl, rh⟩ = true := by rw [hto, decide_eq_true (by omega)]
    have hok2 : angN l k < i + 1 → tsO l k ⟨rl, rh⟩ = true := fun _ => hto1
    have c2' : ¬ min (gR l.li i).hi rh < max (gR l.li i).lo rl := by rw [eit] at c2; exact c2
    have eit2 : ([D.int .i64 (max (gR l.li i).lo rl), D.int .i64 (min (gR l.li i).hi rh)] : List D) = rgD y := by rw [eit]; rfl
    by_cases hfl : i < l.fa.length
    · have hf : (i : Int) < l.fa.length := by omega
      have g3 := gB_lt hfl
      have n3 := take_next g3
      generalize l.an.take i = A at *
      generalize (tsA l k ⟨rl, rh⟩).li.take i = L at *
      generalize l.fa.take i = F at *
      have wi := wr_succ hli' (Nat.le_trans m11 (by decide))
      simp only [go_sem, reduceIte, Nat.reduceEqDiff, Nat.reduceAdd, Nat.reduceLT, Nat.reduceLeDiff, Nat.reduceBEq, Nat.reduceMul, List.replicate_succ, lk42, H42, laC, zLa, rgC, hed, maxL1, minL1, c2', hli2, hli3, dn, dn2, decide_false, decide_true, Bool.not_true, Bool.not_false, nn, g1, g2, iD, rgD, bD, List.length_append, List.length_map]
      refine ⟨pairsOk_ord (by kernel_rfl), by clear wi; simp; omega, by clear wi; simp; omega, pairsOk_ord (by kernel_rfl), ?_⟩
      rw [eit2]
      refine stop_mk { slots := [(1, I d), (3, .c (.ptr 0 0)), (5, .c (.ptr 1 0)), (6, .c (.ptr 2 0)), (8, .c (.ptr 3 0)), (10, I ((i : Nat) : Int))], heap := H42 l ⟨rl, rh⟩ (A ++ [d]) (L ++ [y]) F, marks := [] } (ent_weaken [.cells [.d (.int .i64 (max (gR l.li i).lo rl)), .d (.int .i64 (min (gR l.li i).hi rh))], .gone, .gone] (by simp [H42, laC, zLa, rgC, iD, rgD, bD]) rfl (Nat.zero_le _) rfl rfl (by simp only [go_sem, reduceIte, Nat.reduceEqDiff, H42_len, Nat.reduceLT]; first | done | simp)) ?_
      simp only [go_sem, reduceIte, Nat.reduceEqDiff, Nat.reduceAdd, Nat.reduceLT, Nat.reduceLeDiff, Nat.reduceBEq, Nat.reduceMul, List.replicate_succ, lk42, H42, laC, zLa, rgC, hf, g3, hli2, hli3, dn, dn2, decide_false, decide_true, Bool.not_true, Bool.not_false, nn, g1, g2, iD, rgD, bD, List.length_append, List.length_map]
      refine ⟨by clear wi; simp; omega, pairsOk_ord (by kernel_rfl), ?_⟩
      refine stop_mk { slots := [(1, I d), (3, .c (.ptr 0 0)), (5, .c (.ptr 1 0)), (6, .c (.ptr 2 0)), (8, .c (.ptr 3 0)), (9, B true), (10, I ((i : Nat) : Int))], heap := H42 l ⟨rl, rh⟩ (A ++ [d]) (L ++ [y]) (F ++ [gB l.fa i]), marks := [] } (ent_weaken [.gone] (by simp [H42, laC, zLa, rgC, iD, rgD, bD]) rfl (Nat.zero_le _) rfl rfl (by simp only [go_sem, reduceIte, Nat.reduceEqDiff, H42_len, Nat.reduceLT]; first | done | simp)) ?_
      simp only [go_sem, reduceIte, Nat.reduceEqDiff, Nat.reduceAdd, Nat.reduceBEq, List.replicate_succ, lk42, wi]
      refine ⟨i + 1, ⟨hli', hok2⟩, mi, ?_⟩
      refine ent_weaken [] (by rw [n1, n2, n3]; first | rfl | simp [H42, laC, zLa, rgC, iD, rgD, bD]) rfl (Nat.zero_le _) rfl rfl ?_
      simp only [go_sem, reduceIte, Nat.reduceEqDiff, Nat.reduceAdd, Nat.reduceLT, List.replicate_succ, lk42, H42_len, dn2, decide_true, decide_false]
      all_goals first | exact .refl _ | exact ⟨.refl _, .refl _⟩ | exact ⟨.refl _, .refl _, .refl _⟩ | exact ⟨.refl _, _, rfl⟩ | exact ⟨_, rfl⟩ | exact ⟨.refl _, [], by simp⟩ | exact ⟨[], by simp⟩
    · have hf : ¬ (i : Int) < l.fa.length := by omega
      have n3 : l.fa.take (i + 1) = l.fa.take i := by rw [List.take_of_length_le (by omega), List.take_of_length_le (by omega)]
      generalize l.an.take i = A at *
      generalize (tsA l k ⟨rl, rh⟩).li.take i = L at *
      generalize l.fa.take i = F at *
      have wi := wr_succ hli' (Nat.le_trans m11 (by decide))
      simp only [go_sem, reduceIte, Nat.reduceEqDiff, Nat.reduceAdd, Nat.reduceLT, Nat.reduceLeDiff, Nat.reduceBEq, Nat.reduceMul, List.replicate_succ, lk42, H42, laC, zLa, rgC, hed, maxL1, minL1, c2', hli2, hli3, dn, dn2, decide_false, decide_true, Bool.not_true, Bool.not_false, nn, g1, g2, iD, rgD, bD, List.length_append, List.length_map]
      refine ⟨pairsOk_ord (by kernel_rfl), by clear wi; simp; omega, by clear wi; simp; omega, pairsOk_ord (by kernel_rfl), ?_⟩
      rw [eit2]
      refine stop_mk { slots := [(1, I d), (3, .c (.ptr 0 0)), (5, .c (.ptr 1 0)), (6, .c (.ptr 2 0)), (8, .c (.ptr 3 0)), (10, I ((i : Nat) : Int))], heap := H42 l ⟨rl, rh⟩ (A ++ [d]) (L ++ [y]) F, marks := [] } (ent_weaken [.cells [.d (.int .i64 (max (gR l.li i).lo rl)), .d (.int .i64 (min (gR l.li i).hi rh))], .gone, .gone] (by simp [H42, laC, zLa, rgC, iD, rgD, bD]) rfl (Nat.zero_le _) rfl rfl (by simp only [go_sem, reduceIte, Nat.reduceEqDiff, H42_len, Nat.reduceLT]; first | done | simp)) ?_
      simp only [go_sem, reduceIte, Nat.reduceEqDiff, Nat.reduceAdd, Nat.reduceLeDiff, Nat.reduceBEq, List.replicate_succ, lk42, H42, laC, zLa, rgC, hf, wi, hli2, hli3, dn, dn2, decide_false, decide_true, Bool.not_true, Bool.not_false, nn, g1, g2, iD, rgD, bD, List.length_append, List.length_map]
      refine ⟨i + 1, ⟨hli', hok2⟩, mi, ?_⟩
      refine ent_weaken [] (by rw [n1, n2, n3]; first | rfl | simp [H42, laC, zLa, rgC, iD, rgD, bD]) rfl (Nat.zero_le _) rfl rfl ?_
      simp only [go_sem, reduceIte, Nat.reduceEqDiff, Nat.reduceAdd, Nat.reduceLT, List.replicate_succ, lk42, H42_len, dn2, decide_true, decide_false]
      all_goals first | exact .refl _ | exact ⟨.refl _, .refl _⟩ | exact ⟨.refl _, .refl _, .refl _⟩ | exact ⟨.refl _, _, rfl⟩ | exact ⟨_, rfl⟩ | exact ⟨.refl _, [], by simp⟩ | exact ⟨[], by simp⟩
  rw [if_neg c1] at n2
  have hok2 : angN l k < i + 1 → tsO l k ⟨rl, rh⟩ = true := fun h => hok (by omega)
  by_cases c3 : i < angN l k
  · have hd := hlt i c3
    have hne : ¬ gI l.an i = d := by omega
    have hng : ¬ d < gI l.an i := by omega
    have dn : ¬ angN l k < i := by omega
    have dn2 : ¬ angN l k < i + 1 := by omega
    by_cases hfl : i < l.fa.length
    · have hf : (i : Int) < l.fa.length := by omega
      have g3 := gB_lt hfl
      have n3 := take_next g3
      generalize l.an.take i = A at *
      generalize (tsA l k ⟨rl, rh⟩).li.take i = L at *
      generalize l.fa.take i = F at *
      have wi := wr_succ hli' (Nat.le_trans m11 (by decide))
      simp only [go_sem, reduceIte, Nat.reduceEqDiff, Nat.reduceAdd, Nat.reduceLT, Nat.reduceLeDiff, Nat.reduceBEq, Nat.reduceMul, List.replicate_succ, lk42, H42, laC, zLa, rgC, hne, hng, hli2, hli3, dn, dn2, decide_false, decide_true, Bool.not_true, Bool.not_false, nn, g1, g2, iD, rgD, bD, List.length_append, List.length_map]
      refine ⟨by clear wi; simp; omega, by clear wi; simp; omega, pairsOk_ord (by kernel_rfl), ?_⟩
      refine stop_mk { slots := [(1, I d), (3, .c (.ptr 0 0)), (5, .c (.ptr 1 0)), (6, .c (.ptr 2 0)), (8, .c (.ptr 3 0)), (9, B false), (10, I ((i : Nat) : Int))], heap := H42 l ⟨rl, rh⟩ (A ++ [gI l.an i]) (L ++ [gR l.li i]) F, marks := [] } (ent_weaken [.gone, .gone] (by simp [H42, laC, zLa, rgC, iD, rgD, bD]) rfl (Nat.zero_le _) rfl rfl (by simp only [go_sem, reduceIte, Nat.reduceEqDiff, H42_len, Nat.reduceLT]; first | done | simp)) ?_
      simp only [go_sem, reduceIte, Nat.reduceEqDiff, Nat.reduceAdd, Nat.reduceLT, Nat.reduceLeDiff, Nat.reduceBEq, Nat.reduceMul, List.replicate_succ, lk42, H42, laC, zLa, rgC, hf, g3, hli2, hli3, dn, dn2, decide_false, decide_true, Bool.not_true, Bool.not_false, nn, g1, g2, iD, rgD, bD, List.length_append, List.length_map]
      refine ⟨by clear wi; simp; omega, pairsOk_ord (by kernel_rfl), ?_⟩
      refine stop_mk { slots := [(1, I d), (3, .c (.ptr 0 0)), (5, .c (.ptr 1 0)), (6, .c (.ptr 2 0)), (8, .c (.ptr 3 0)), (9, B false), (10, I ((i : Nat) : Int))], heap := H42 l ⟨rl, rh⟩ (A ++ [gI l.an i]) (L ++ [gR l.li i]) (F ++ [gB l.fa i]), marks := [] } (ent_weaken [.gone] (by simp [H42, laC, zLa, rgC, iD, rgD, bD]) rfl (Nat.zero_le _) rfl rfl (by simp only [go_sem, reduceIte, Nat.reduceEqDiff, H42_len, Nat.reduceLT]; first | done | simp)) ?_
      simp only [go_sem, reduceIte, Nat.reduceEqDiff, Nat.reduceAdd, Nat.reduceBEq, List.replicate_succ, lk42, wi]
      refine ⟨i + 1, ⟨hli', hok2⟩, mi, ?_⟩
      refine ent_weaken [] (by rw [n1, n2, n3]; first | rfl | simp [H42, laC, zLa, rgC, iD, rgD, bD]) rfl (Nat.zero_le _) rfl rfl ?_
      simp only [go_sem, reduceIte, Nat.reduceEqDiff, Nat.reduceAdd, Nat.reduceLT, List.replicate_succ, lk42, H42_len, dn2, decide_true, decide_false]
      all_goals first | exact .refl _ | exact ⟨.refl _, .refl _⟩ | exact ⟨.refl _, .refl _, .refl _⟩ | exact ⟨.refl _, _, rfl⟩ | exact ⟨_, rfl⟩ | exact ⟨.refl _, [], by simp⟩ | exact ⟨[], by simp⟩
    · have hf : ¬ (i : Int) < l.fa.length := by omega
      have n3 : l.fa.take (i + 1) = l.fa.take i := by rw [List.take_of_length_le (by omega), List.take_of_length_le (by omega)]
      generalize l.an.take i = A at *
      generalize (tsA l k ⟨rl, rh⟩).li.take i = L at *
      generalize l.fa.take i = F at *
      have wi := wr_succ hli' (Nat.le_trans m11 (by decide))
      simp only [go_sem, reduceIte, Nat.reduceEqDiff, Nat.reduceAdd, Nat.reduceLT, Nat.reduceLeDiff, Nat.reduceBEq, Nat.reduceMul, List.replicate_succ, lk42, H42, laC, zLa, rgC, hne, hng, hli2, hli3, dn, dn2, decide_false, decide_true, Bool.not_true, Bool.not_false, nn, g1, g2, iD, rgD, bD, List.length_append, List.length_map]
      refine ⟨by clear wi; simp; omega, by clear wi; simp; omega, pairsOk_ord (by kernel_rfl), ?_⟩
      refine stop_mk { slots := [(1, I d), (3, .c (.ptr 0 0)), (5, .c (.ptr 1 0)), (6, .c (.ptr 2 0)), (8, .c (.ptr 3 0)), (9, B false), (10, I ((i : Nat) : Int))], heap := H42 l ⟨rl, rh⟩ (A ++ [gI l.an i]) (L ++ [gR l.li i]) F, marks := [] } (ent_weaken [.gone, .gone] (by simp [H42, laC, zLa, rgC, iD, rgD, bD]) rfl (Nat.zero_le _) rfl rfl (by simp only [go_sem, reduceIte, Nat.reduceEqDiff, H42_len, Nat.reduceLT]; first | done | simp)) ?_
      simp only [go_sem, reduceIte, Nat.reduceEqDiff, Nat.reduceAdd, Nat.reduceLeDiff, Nat.reduceBEq, List.replicate_succ, lk42, H42, laC, zLa, rgC, hf, wi, hli2, hli3, dn, dn2, decide_false, decide_true, Bool.not_true, Bool.not_false, nn, g1, g2, iD, rgD, bD, List.length_append, List.length_map]
      refine ⟨i + 1, ⟨hli', hok2⟩, mi, ?_⟩
      refine ent_weaken [] (by rw [n1, n2, n3]; first | rfl | simp [H42, laC, zLa, rgC, iD, rgD, bD]) rfl (Nat.zero_le _) rfl rfl ?_
      simp only [go_sem, reduceIte, Nat.reduceEqDiff, Nat.reduceAdd, Nat.reduceLT, List.replicate_succ, lk42, H42_len, dn2, decide_true, decide_false]
      all_goals first | exact .refl _ | exact ⟨.refl _, .refl _⟩ | exact ⟨.refl _, .refl _, .refl _⟩ | exact ⟨.refl _, _, rfl⟩ | exact ⟨_, rfl⟩ | exact ⟨.refl _, [], by simp⟩ | exact ⟨[], by simp⟩
  · have dn : angN l k < i := by omega
    have dn2 : angN l k < i + 1 := by omega
    by_cases hfl : i < l.fa.length
    · have hf : (i : Int) < l.fa.length := by omega
      have g3 := gB_lt hfl
      have n3 := take_next g3
      generalize l.an.take i = A at *
      generalize (tsA l k ⟨rl, rh⟩).li.take i = L at *
      generalize l.fa.take i = F at *
      have wi := wr_succ hli' (Nat.le_trans m11 (by decide))
      simp only [go_sem, reduceIte, Nat.reduceEqDiff, Nat.reduceAdd, Nat.reduceLT, Nat.reduceLeDiff, Nat.reduceBEq, Nat.reduceMul, List.replicate_succ, lk42, H42, laC, zLa, rgC, lk42, hli2, hli3, dn, dn2, decide_false, decide_true, Bool.not_true, Bool.not_false, nn, g1, g2, iD, rgD, bD, List.length_append, List.length_map]
      refine ⟨by clear wi; simp; omega, by clear wi; simp; omega, pairsOk_ord (by kernel_rfl), ?_⟩
      refine stop_mk { slots := [(1, I d), (3, .c (.ptr 0 0)), (5, .c (.ptr 1 0)), (6, .c (.ptr 2 0)), (8, .c (.ptr 3 0)), (9, B true), (10, I ((i : Nat) : Int))], heap := H42 l ⟨rl, rh⟩ (A ++ [gI l.an i]) (L ++ [gR l.li i]) F, marks := [] } (ent_weaken [.gone, .gone] (by simp [H42, laC, zLa, rgC, iD, rgD, bD]) rfl (Nat.zero_le _) rfl rfl (by simp only [go_sem, reduceIte, Nat.reduceEqDiff, H42_len, Nat.reduceLT]; first | done | simp)) ?_
      simp only [go_sem, reduceIte, Nat.reduceEqDiff, Nat.reduceAdd, Nat.reduceLT, Nat.reduceLeDiff, Nat.reduceBEq, Nat.reduceMul, List.replicate_succ, lk42, H42, laC, zLa, rgC, hf, g3, hli2, hli3, dn, dn2, decide_false, decide_true, Bool.not_true, Bool.not_false, nn, g1, g2, iD, rgD, bD, List.length_append, List.length_map]
      refine ⟨by clear wi; simp; omega, pairsOk_ord (by kernel_rfl), ?_⟩
      refine stop_mk { slots := [(1, I d), (3, .c (.ptr 0 0)), (5, .c (.ptr 1 0)), (6, .c (.ptr 2 0)), (8, .c (.ptr 3 0)), (9, B true), (10, I ((i : Nat) : Int))], heap := H42 l ⟨rl, rh⟩ (A ++ [gI l.an i]) (L ++ [gR l.li i]) (F ++ [gB l.fa i]), marks := [] } (ent_weaken [.gone] (by simp [H42, laC, zLa, rgC, iD, rgD, bD]) rfl (Nat.zero_le _) rfl rfl (by simp only [go_sem, reduceIte, Nat.reduceEqDiff, H42_len, Nat.reduceLT]; first | done | simp)) ?_
      simp only [go_sem, reduceIte, Nat.reduceEqDiff, Nat.reduceAdd, Nat.reduceBEq, List.replicate_succ, lk42, wi]
      refine ⟨i + 1, ⟨hli', hok2⟩, mi, ?_⟩
      refine ent_weaken [] (by rw [n1, n2, n3]; first | rfl | simp [H42, laC, zLa, rgC, iD, rgD, bD]) rfl (Nat.zero_le _) rfl rfl ?_
      simp only [go_sem, reduceIte, Nat.reduceEqDiff, Nat.reduceAdd, Nat.reduceLT, List.replicate_succ, lk42, H42_len, dn2, decide_true, decide_false]
      all_goals first | exact .refl _ | exact ⟨.refl _, .refl _⟩ | exact ⟨.refl _, .refl _, .refl _⟩ | exact ⟨.refl _, _, rfl⟩ | exact ⟨_, rfl⟩ | exact ⟨.refl _, [], by simp⟩ | exact ⟨[], by simp⟩
    · have hf : ¬ (i : Int) < l.fa.length := by omega
      have n3 : l.fa.take (i + 1) = l.fa.take i := by rw [List.take_of_length_le (by omega), List.take_of_length_le (by omega)]
      generalize l.an.take i = A at *
      generalize (tsA l k ⟨rl, rh⟩).li.take i = L at *
      generalize l.fa.take i = F at *
      have wi := wr_succ hli' (Nat.le_trans m11 (by decide))
      simp only [go_sem, reduceIte, Nat.reduceEqDiff, Nat.reduceAdd, Nat.reduceLT, Nat.reduceLeDiff, Nat.reduceBEq, Nat.reduceMul, List.replicate_succ, lk42, H42, laC, zLa, rgC, lk42, hli2, hli3, dn, dn2, decide_false, decide_true, Bool.not_true, Bool.not_false, nn, g1, g2, iD, rgD, bD, List.length_append, List.length_map]
      refine ⟨by clear wi; simp; omega, by clear wi; simp; omega, pairsOk_ord (by kernel_rfl), ?_⟩
      refine stop_mk { slots := [(1, I d), (3, .c (.ptr 0 0)), (5, .c (.ptr 1 0)), (6, .c (.ptr 2 0)), (8, .c (.ptr 3 0)), (9, B true), (10, I ((i : Nat) : Int))], heap := H42 l ⟨rl, rh⟩ (A ++ [gI l.an i]) (L ++ [gR l.li i]) F, marks := [] } (ent_weaken [.gone, .gone] (by simp [H42, laC, zLa, rgC, iD, rgD, bD]) rfl (Nat.zero_le _) rfl rfl (by simp only [go_sem, reduceIte, Nat.reduceEqDiff, H42_len, Nat.reduceLT]; first | done | simp)) ?_
      simp only [go_sem, reduceIte, Nat.reduceEqDiff, Nat.reduceAdd, Nat.reduceLeDiff, Nat.reduceBEq, List.replicate_succ, lk42, H42, laC, zLa, rgC, hf, wi, hli2, hli3, dn, dn2, decide_false, decide_true, Bool.not_true, Bool.not_false, nn, g1, g2, iD, rgD, bD, List.length_append, List.length_map]
      refine ⟨i + 1, ⟨hli', hok2⟩, mi, ?_⟩
      refine ent_weaken [] (by rw [n1, n2, n3]; first | rfl | simp [H42, laC, zLa, rgC, iD, rgD, bD]) rfl (Nat.zero_le _) rfl rfl ?_
      simp only [go_sem, reduceIte, Nat.reduceEqDiff, Nat.reduceAdd, Nat.reduceLT, List.replicate_succ, lk42, H42_len, dn2, decide_true, decide_false]
      all_goals first | exact .refl _ | exact ⟨.refl _, .refl _⟩ | exact ⟨.refl _, .refl _, .refl _⟩ | exact ⟨.refl _, _, rfl⟩ | exact ⟨_, rfl⟩ | exact ⟨.refl _, [], by simp⟩ | exact ⟨[], by simp⟩
end Go.Proofs.Ytliamojogmlgjaa
