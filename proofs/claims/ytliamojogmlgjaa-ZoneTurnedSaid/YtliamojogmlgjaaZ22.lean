/- Zones: a lamp with a test, by the document's answer: between two angles. -/
import Derived.Test.YtliamojogmlgjaaZ20
set_option linter.unusedSimpArgs false
set_option linter.unusedVariables false
set_option maxRecDepth 100000
namespace Go.Proofs.Ytliamojogmlgjaa
open Go Go.Abs Go.Proofs
def kp42 : List (Nat × List Nat) := [(0, [1, 3, 5, 6]), (1, [1, 3, 5, 6, 8]), (2, [1, 3, 5, 6, 8, 9]), (3, [1, 3, 5, 6, 8, 9, 10]), (4, [1, 3, 5, 6, 8, 9, 10, 19]), (5, [1, 3, 5, 6, 8, 9, 10]), (6, [1, 3, 5, 6, 8, 9, 10, 32]), (7, [1, 3, 5, 6, 8, 10, 11]), (8, [1, 3, 5, 6, 8, 10, 11, 56]), (9, [6, 7]), (10, [1, 3, 5, 6, 8, 10]), (11, [1, 3, 5, 6, 8, 9, 10]), (12, [1, 3, 5, 6, 8, 9, 10, 80]), (13, [1, 3, 5, 6, 8, 10]), (14, [1, 3, 5, 6, 8, 9, 10]), (15, [1, 3, 5, 6, 8, 9, 10]), (16, [1, 3, 5, 6, 8, 9, 10, 128]), (17, [1, 3, 5, 6, 8, 9, 10]), (18, [6, 7])]
theorem lk42 : lookK kp42 0 = some [1, 3, 5, 6] ∧ lookK kp42 1 = some [1, 3, 5, 6, 8] ∧ lookK kp42 2 = some [1, 3, 5, 6, 8, 9] ∧ lookK kp42 3 = some [1, 3, 5, 6, 8, 9, 10] ∧ lookK kp42 4 = some [1, 3, 5, 6, 8, 9, 10, 19] ∧ lookK kp42 5 = some [1, 3, 5, 6, 8, 9, 10] ∧ lookK kp42 6 = some [1, 3, 5, 6, 8, 9, 10, 32] ∧ lookK kp42 7 = some [1, 3, 5, 6, 8, 10, 11] ∧ lookK kp42 8 = some [1, 3, 5, 6, 8, 10, 11, 56] ∧ lookK kp42 9 = some [6, 7] ∧ lookK kp42 10 = some [1, 3, 5, 6, 8, 10] ∧ lookK kp42 11 = some [1, 3, 5, 6, 8, 9, 10] ∧ lookK kp42 12 = some [1, 3, 5, 6, 8, 9, 10, 80] ∧ lookK kp42 13 = some [1, 3, 5, 6, 8, 10] ∧ lookK kp42 14 = some [1, 3, 5, 6, 8, 9, 10] ∧ lookK kp42 15 = some [1, 3, 5, 6, 8, 9, 10] ∧ lookK kp42 16 = some [1, 3, 5, 6, 8, 9, 10, 128] ∧ lookK kp42 17 = some [1, 3, 5, 6, 8, 9, 10] ∧ lookK kp42 18 = some [6, 7] := ⟨rfl, rfl, rfl, rfl, rfl, rfl, rfl, rfl, rfl, rfl, rfl, rfl, rfl, rfl, rfl, rfl, rfl, rfl, rfl⟩

theorem insL_app {α : Type} {p : Nat} {x y : α} {l : List α} (h : p ≤ l.length) : insL p x (l ++ [y]) = insL p x l ++ [y] := by
  unfold insL
  rw [List.take_append_of_le_length h, List.drop_append_of_le_length h, ← List.cons_append, ← List.append_assoc]
theorem insL_end {α : Type} {x : α} {l : List α} : insL l.length x l = l ++ [x] := by
  unfold insL
  rw [List.take_length, List.drop_length]
/-- The first elements, with one more. -/
def insG {α : Type} (p : Nat) (x : α) (l : List α) (i : Nat) : List α := if i ≤ p then l.take i else insL p x (l.take i)
theorem insG_lt {α : Type} {p i : Nat} {x y : α} {l : List α} (h : i < p) (hy : l[i]? = some y) : insG p x l (i + 1) = insG p x l i ++ [y] := by
  unfold insG
  rw [if_pos (show i + 1 ≤ p from h), if_pos (show i ≤ p by omega), List.take_add_one, hy]; rfl
theorem insG_at {α : Type} {p : Nat} {x y : α} {l : List α} (hy : l[p]? = some y) : insG p x l (p + 1) = insG p x l p ++ [x] ++ [y] := by
  have hlt := (List.getElem?_eq_some_iff.1 hy).1
  have ht : (l.take p).length = p := by rw [List.length_take]; omega
  unfold insG
  rw [if_neg (by omega), if_pos (Nat.le_refl _), List.take_add_one, hy]
  show insL p x (l.take p ++ [y]) = _
  rw [insL_app (by omega)]
  have e := insL_end (x := x) (l := l.take p)
  rw [ht] at e
  rw [e]
theorem insG_end {α : Type} {x : α} {l : List α} : insG l.length x l (l.length + 1) = insG l.length x l l.length ++ [x] := by
  unfold insG
  rw [if_neg (by omega), if_pos (Nat.le_refl _), List.take_of_length_le (by omega), insL_end, List.take_length]
theorem insG_gt {α : Type} {p i : Nat} {x y : α} {l : List α} (h : p < i) (hy : l[i]? = some y) : insG p x l (i + 1) = insG p x l i ++ [y] := by
  have hlt := (List.getElem?_eq_some_iff.1 hy).1
  unfold insG
  rw [if_neg (by omega), if_neg (by omega), List.take_add_one, hy]
  exact insL_app (by rw [List.length_take]; omega)
theorem insG_out {α : Type} {p i : Nat} {x : α} {l : List α} (h : p < i) (hl : l.length ≤ i) : insG p x l (i + 1) = insG p x l i := by
  unfold insG
  rw [if_neg (by omega), if_neg (by omega), List.take_of_length_le (by omega), List.take_of_length_le hl]
theorem insG_full {α : Type} {p i : Nat} {x : α} {l : List α} (h : p < i) (hl : l.length ≤ i) : insG p x l i = insL p x l := by
  unfold insG
  rw [if_neg (by omega), List.take_of_length_le hl]
theorem insG_len {α : Type} {p i : Nat} {x : α} {l : List α} : (insG p x l i).length ≤ l.length + 1 := by
  unfold insG insL
  split <;> simp <;> omega
/-- What a test gives by the document's answer. -/
def tfL (l : La) (k : Nat) (r : Rg) : La := if tsO l k r then tsL l k r else ⟨l.an.take (angN l k), l.li.take (angN l k), l.fa.take (angN l k), l.we⟩
def H42 (l : La) (r : Rg) (A : List Int) (L : List Rg) (F : List Bool) : List AB :=
  [.cells (laC l), .cells (rgC r), .cells zLa, .cells [.own 4 (A.map iD), .own 5 (L.map rgD), .own 6 (F.map bD), .d (.sl (l.we.map iD))], .grow A.length 1, .grow L.length 2, .grow F.length 1]
theorem H42_low (l : La) (r : Rg) (A : List Int) (L : List Rg) (F : List Bool) : (H42 l r A L F).all (AB.low 7) = true := by rfl
theorem H42_len (l : La) (r : Rg) (A : List Int) (L : List Rg) (F : List Bool) : (H42 l r A L F).length = 7 := by rfl
set_option maxHeartbeats 8000000 in
theorem ref42i (l : La) (ok : OkLa l) (k : Nat) (hk : k < l.we.length) (r : Rg) (ha : ¬ angN l k < l.an.length) :
    Pure Try.prog 42 [laV l, I (gI l.an 0 + k), rgV r] (.tup [laV (tfL l k r), B (tsO l k r)]) := by
  refine pure_wkE (bad := [7, 10, 13, 15, 17, 10010, 10013, 10015, 10017, 10018, 10009]) (kp := kp42) (X := tx) (nt := 140) (rs := [.cell 6 26, .tmp 7]) Try.func42 rfl rfl rfl rfl mo (by kernel_rfl) rfl rfl (fun hf => ?_)
  have m2 := ok.m2
  have m11 := ok.m11
  have hli := ok.li
  have hfa := ok.fa
  obtain ⟨i0, hi0, q1, q2, ep⟩ := ins_gap ok hk ha
  have hto := tsO_i ha r
  have ets := tsL_i ha r
  have eT : (tsI l k r) = ⟨insL (i0 + 1) (gI l.an 0 + k) l.an, insL (i0 + 1) r l.li, insL (i0 + 1) (gB l.fa i0) l.fa, l.we⟩ := by unfold tsI; rw [ep]; rfl
  have efin : tfL l k r = tsI l k r := by unfold tfL; rw [hto, if_pos rfl, ets]
  have hlt : ∀ j, j ≤ i0 → gI l.an j < gI l.an 0 + k := fun j hj => by have := ok.le hj (by omega); omega
  have hgt : ∀ j, i0 < j → j < l.an.length → gI l.an 0 + k < gI l.an j := fun j hj h2 => by have := ok.le (i := i0 + 1) hj h2; omega
  generalize gI l.an 0 + (k : Int) = d at *
  obtain ⟨rl, rh⟩ := r
  simp (maxSteps := 2000000) only [go_sem, reduceIte, Nat.reduceEqDiff, Nat.reduceAdd, Nat.reduceBEq, List.replicate_succ, lk42, laV, laC, rgV, rgC]
  refine goE_loop (bad := [7, 10, 13, 15, 17, 10010, 10013, 10015, 10017, 10018, 10009]) (kp := kp42) (fun i : Nat => { slots := [(1, I d), (3, .c (.ptr 0 0)), (5, .c (.ptr 1 0)), (6, .c (.ptr 2 0)), (8, .c (.ptr 3 0)), (9, B (decide (i0 + 1 < i))), (10, I i)], heap := H42 l ⟨rl, rh⟩ (insG (i0 + 1) d l.an i) (insG (i0 + 1) ⟨rl, rh⟩ l.li i) (insG (i0 + 1) (gB l.fa i0) l.fa i), marks := [] }) (fun i => i ≤ l.an.length) (fun i => l.an.length - i) 0 mo (by kernel_rfl) ?_ (Nat.zero_le _) ?_
  · refine Ent.trans (ent_own_cell 3 0 1 rfl rfl) ?_
    refine Ent.trans (ent_own_cell 3 1 2 rfl rfl) ?_
    refine Ent.trans (ent_own_cell 3 2 1 rfl rfl) ?_
    refine ent_weaken [] rfl rfl (Nat.zero_le _) (H42_low _ _ _ _ _) rfl ?_
    simp (maxSteps := 2000000) only [go_sem, reduceIte, Nat.reduceEqDiff, Nat.reduceLT, List.replicate_succ, lk42, H42_len]
    all_goals first | exact .refl _ | exact ⟨.refl _, .refl _⟩ | exact ⟨.refl _, .refl _, .refl _⟩ | exact ⟨.refl _, _, rfl⟩ | exact ⟨_, rfl⟩ | exact ⟨.refl _, [], by simp⟩ | exact ⟨[], by simp⟩
  rintro i hi
  by_cases hli' : i < l.an.length
  case neg =>
    have hlt' : ¬ (i : Int) < l.an.length := by omega
    have ei : i = l.an.length := by omega
    subst ei
    have f1 : insG (i0 + 1) d l.an l.an.length = insL (i0 + 1) d l.an := insG_full (by omega) (Nat.le_refl _)
    have f2 : insG (i0 + 1) ⟨rl, rh⟩ l.li l.an.length = insL (i0 + 1) ⟨rl, rh⟩ l.li := insG_full (by omega) (by omega)
    have f3 : insG (i0 + 1) (gB l.fa i0) l.fa l.an.length = insL (i0 + 1) (gB l.fa i0) l.fa := insG_full (by omega) (by omega)
    simp (maxSteps := 2000000) only [go_sem, reduceIte, Nat.reduceEqDiff, Nat.reduceAdd, Nat.reduceLeDiff, Nat.reduceBEq, List.replicate_succ, lk42, H42, laC, zLa, rgC, hlt']
    refine stop_mk { slots := [(6, .c (.ptr 2 0)), (7, B true)], heap := [.cells (laC l), .cells [.d (.int .i64 rl), .d (.int .i64 rh)], .cells [.d (.sl ((insG (i0 + 1) d l.an l.an.length).map iD)), .d (.sl ((insG (i0 + 1) ⟨rl, rh⟩ l.li l.an.length).map rgD)), .d (.sl ((insG (i0 + 1) (gB l.fa i0) l.fa l.an.length).map bD)), .d (.sl (l.we.map iD))]], marks := [] } ((ent_cells 2 rfl (by repeat constructor)).trans (ent_weaken [_, _, _, _] rfl rfl (Nat.zero_le _) rfl rfl ?_)) ?_
    · simp (maxSteps := 2000000) only [go_sem, reduceIte, Nat.reduceEqDiff, Nat.reduceAdd, Nat.reduceLT, List.replicate_succ, lk42]
      all_goals first | exact .refl _ | exact ⟨.refl _, .refl _⟩ | exact ⟨.refl _, .refl _, .refl _⟩ | exact ⟨.refl _, _, rfl⟩ | exact ⟨_, rfl⟩ | exact ⟨.refl _, [], by simp⟩ | exact ⟨[], by simp⟩
    simp (maxSteps := 2000000) only [go_sem, reduceIte, Nat.reduceEqDiff, Nat.reduceAdd, List.replicate_succ, lk42, efin, eT, f1, f2, f3, hto]
    all_goals first | exact .refl _ | exact ⟨.refl _, .refl _⟩ | exact ⟨.refl _, .refl _, .refl _⟩ | exact ⟨.refl _, _, rfl⟩ | exact ⟨_, rfl⟩ | exact ⟨.refl _, [], by simp⟩ | exact ⟨[], by simp⟩
  have hli2 : (i : Int) < l.an.length := by omega
  have hli3 : (i : Int) < l.li.length := by omega
  have g1 := gI_lt hli'
  have g2 := gR_lt (l := l.li) (i := i) (by omega)
  have mi : l.an.length - (i + 1) < l.an.length - i := by omega
  have ln1 := insG_len (p := i0 + 1) (i := i) (x := d) (l := l.an)
  have ln2 := insG_len (p := i0 + 1) (i := i) (x := (⟨rl, rh⟩ : Rg)) (l := l.li)
  have ln3 := insG_len (p := i0 + 1) (i := i) (x := gB l.fa i0) (l := l.fa)
  by_cases c1 : i < i0 + 1
  · have hd := hlt i (by omega)
    have hne : ¬ gI l.an i = d := by omega
    have hgd : ¬ d < gI l.an i := by omega
    have dn : ¬ i0 + 1 < i := by omega
    have dn2 : ¬ i0 + 1 < i + 1 := by omega
    have hf : (i : Int) < l.fa.length := by omega
    have g3 := gB_lt (l := l.fa) (i := i) (by omega)
    have n1 := insG_lt (x := d) c1 g1
    have n2 := insG_lt (x := (⟨rl, rh⟩ : Rg)) c1 g2
    have n3 := insG_lt (x := gB l.fa i0) c1 g3
    generalize insG (i0 + 1) d l.an i = A at *
    generalize insG (i0 + 1) ⟨rl, rh⟩ l.li i = L at *
    generalize insG (i0 + 1) (gB l.fa i0) l.fa i = F at *
    have wi := wr_succ hli' (Nat.le_trans m11 (by decide))
    simp (maxSteps := 2000000) only [go_sem, reduceIte, Nat.reduceEqDiff, Nat.reduceAdd, Nat.reduceLT, Nat.reduceLeDiff, Nat.reduceBEq, Nat.reduceMul, List.replicate_succ, lk42, H42, laC, zLa, rgC, hli2, hli3, dn, dn2, decide_false, decide_true, Bool.not_true, Bool.not_false, nn, g1, g2, iD, rgD, bD, hne, hgd, List.length_append, List.length_map]
    refine ⟨by clear wi; simp; omega, by clear wi; simp; omega, pairsOk_ord (by kernel_rfl), ?_⟩
    refine stop_mk { slots := [(1, I d), (3, .c (.ptr 0 0)), (5, .c (.ptr 1 0)), (6, .c (.ptr 2 0)), (8, .c (.ptr 3 0)), (9, B false), (10, I ((i : Nat) : Int))], heap := H42 l ⟨rl, rh⟩ (A ++ [gI l.an i]) (L ++ [gR l.li i]) F, marks := [] } (ent_weaken [.gone, .gone] (by simp [H42, laC, zLa, rgC, iD, rgD, bD]) rfl (Nat.zero_le _) rfl rfl (by simp only [go_sem, reduceIte, Nat.reduceEqDiff, H42_len, Nat.reduceLT]; first | done | simp)) ?_
    simp (maxSteps := 2000000) only [go_sem, reduceIte, Nat.reduceEqDiff, Nat.reduceAdd, Nat.reduceLT, Nat.reduceLeDiff, Nat.reduceBEq, Nat.reduceMul, List.replicate_succ, lk42, H42, laC, zLa, rgC, hf, g3, hli2, hli3, dn, dn2, decide_false, decide_true, Bool.not_true, Bool.not_false, nn, g1, g2, iD, rgD, bD, hne, hgd, List.length_append, List.length_map]
    refine ⟨by clear wi; simp; omega, pairsOk_ord (by kernel_rfl), ?_⟩
    refine stop_mk { slots := [(1, I d), (3, .c (.ptr 0 0)), (5, .c (.ptr 1 0)), (6, .c (.ptr 2 0)), (8, .c (.ptr 3 0)), (9, B false), (10, I ((i : Nat) : Int))], heap := H42 l ⟨rl, rh⟩ (A ++ [gI l.an i]) (L ++ [gR l.li i]) (F ++ [gB l.fa i]), marks := [] } (ent_weaken [.gone] (by simp [H42, laC, zLa, rgC, iD, rgD, bD]) rfl (Nat.zero_le _) rfl rfl (by simp only [go_sem, reduceIte, Nat.reduceEqDiff, H42_len, Nat.reduceLT]; first | done | simp)) ?_
    simp (maxSteps := 2000000) only [go_sem, reduceIte, Nat.reduceEqDiff, Nat.reduceAdd, Nat.reduceBEq, List.replicate_succ, lk42, wi]
    refine ⟨i + 1, hli', mi, ?_⟩
    refine ent_weaken [] (by rw [n1, n2, n3]; first | rfl | simp [H42, laC, zLa, rgC, iD, rgD, bD]) rfl (Nat.zero_le _) rfl rfl ?_
    simp (maxSteps := 2000000) only [go_sem, reduceIte, Nat.reduceEqDiff, Nat.reduceAdd, Nat.reduceLT, List.replicate_succ, lk42, H42_len, dn2, decide_true, decide_false]
    all_goals first | exact .refl _ | exact ⟨.refl _, .refl _⟩ | exact ⟨.refl _, .refl _, .refl _⟩ | exact ⟨.refl _, _, rfl⟩ | exact ⟨_, rfl⟩ | exact ⟨.refl _, [], by simp⟩ | exact ⟨[], by simp⟩
  by_cases c2 : i = i0 + 1
  · subst c2
    have hgd := hgt (i0 + 1) (by omega) hi0
    have hne : ¬ gI l.an (i0 + 1) = d := by omega
    have dn : ¬ i0 + 1 < i0 + 1 := by omega
    have dn2 : i0 + 1 < i0 + 1 + 1 := by omega
    have hf0 : (i0 : Int) < l.fa.length := by omega
    have g0 := gB_lt (l := l.fa) (i := i0) (by omega)
    have n1 := insG_at (x := d) g1
    have n2 := insG_at (x := (⟨rl, rh⟩ : Rg)) g2
    have i1000 : i0 < 1000 := by omega
    by_cases hfl : i0 + 1 < l.fa.length
    · have hf : ((i0 + 1 : Nat) : Int) < l.fa.length := by omega
      have g3 := gB_lt (l := l.fa) (i := i0 + 1) hfl
      have n3 := insG_at (x := gB l.fa i0) g3
      generalize insG (i0 + 1) d l.an (i0 + 1) = A at *
      generalize insG (i0 + 1) ⟨rl, rh⟩ l.li (i0 + 1) = L at *
      generalize insG (i0 + 1) (gB l.fa i0) l.fa (i0 + 1) = F at *
      have wi := wr_succ hli' (Nat.le_trans m11 (by decide))
      have wp : wr .i64 (((i0 + 1 : Nat) : Int) - 1) = (i0 : Int) := wr_pred i0 i1000
      simp (maxSteps := 2000000) only [go_sem, reduceIte, Nat.reduceEqDiff, Nat.reduceAdd, Nat.reduceLT, Nat.reduceLeDiff, Nat.reduceBEq, Nat.reduceMul, List.replicate_succ, lk42, H42, laC, zLa, rgC, hf0, g0, wp, hli2, hli3, dn, dn2, decide_false, decide_true, Bool.not_true, Bool.not_false, nn, g1, g2, iD, rgD, bD, hne, hgd, List.length_append, List.length_map]
      refine ⟨by clear wi wp; simp; omega, by clear wi wp; simp; omega, by clear wi wp; simp; omega, pairsOk_ord (by kernel_rfl), ?_⟩
      refine stop_mk { slots := [(1, I d), (3, .c (.ptr 0 0)), (5, .c (.ptr 1 0)), (6, .c (.ptr 2 0)), (8, .c (.ptr 3 0)), (10, I ((i0 + 1 : Nat) : Int))], heap := H42 l ⟨rl, rh⟩ (A ++ [d]) (L ++ [⟨rl, rh⟩]) (F ++ [gB l.fa i0]), marks := [] } (ent_weaken [.gone, .gone, .gone] (by simp [H42, laC, zLa, rgC, iD, rgD, bD]) rfl (Nat.zero_le _) rfl rfl (by simp only [go_sem, reduceIte, Nat.reduceEqDiff, H42_len, Nat.reduceLT]; first | done | simp)) ?_
      simp (maxSteps := 2000000) only [go_sem, reduceIte, Nat.reduceEqDiff, Nat.reduceAdd, Nat.reduceLT, Nat.reduceLeDiff, Nat.reduceBEq, Nat.reduceMul, List.replicate_succ, lk42, H42, laC, zLa, rgC, hli2, hli3, dn, dn2, decide_false, decide_true, Bool.not_true, Bool.not_false, nn, g1, g2, iD, rgD, bD, hne, hgd, List.length_append, List.length_map]
      refine ⟨by clear wi wp; simp; omega, by clear wi wp; simp; omega, pairsOk_ord (by kernel_rfl), ?_⟩
      refine stop_mk { slots := [(1, I d), (3, .c (.ptr 0 0)), (5, .c (.ptr 1 0)), (6, .c (.ptr 2 0)), (8, .c (.ptr 3 0)), (9, B true), (10, I (((i0 + 1) : Nat) : Int))], heap := H42 l ⟨rl, rh⟩ ((A ++ [d]) ++ [gI l.an (i0 + 1)]) ((L ++ [⟨rl, rh⟩]) ++ [gR l.li (i0 + 1)]) (F ++ [gB l.fa i0]), marks := [] } (ent_weaken [.gone, .gone] (by simp [H42, laC, zLa, rgC, iD, rgD, bD]) rfl (Nat.zero_le _) rfl rfl (by simp only [go_sem, reduceIte, Nat.reduceEqDiff, H42_len, Nat.reduceLT]; first | done | simp)) ?_
      simp (maxSteps := 2000000) only [go_sem, reduceIte, Nat.reduceEqDiff, Nat.reduceAdd, Nat.reduceLT, Nat.reduceLeDiff, Nat.reduceBEq, Nat.reduceMul, List.replicate_succ, lk42, H42, laC, zLa, rgC, hf, g3, hli2, hli3, dn, dn2, decide_false, decide_true, Bool.not_true, Bool.not_false, nn, g1, g2, iD, rgD, bD, hne, hgd, List.length_append, List.length_map]
      refine ⟨by clear wi wp; simp; omega, pairsOk_ord (by kernel_rfl), ?_⟩
      refine stop_mk { slots := [(1, I d), (3, .c (.ptr 0 0)), (5, .c (.ptr 1 0)), (6, .c (.ptr 2 0)), (8, .c (.ptr 3 0)), (9, B true), (10, I (((i0 + 1) : Nat) : Int))], heap := H42 l ⟨rl, rh⟩ ((A ++ [d]) ++ [gI l.an (i0 + 1)]) ((L ++ [⟨rl, rh⟩]) ++ [gR l.li (i0 + 1)]) ((F ++ [gB l.fa i0]) ++ [gB l.fa (i0 + 1)]), marks := [] } (ent_weaken [.gone] (by simp [H42, laC, zLa, rgC, iD, rgD, bD]) rfl (Nat.zero_le _) rfl rfl (by simp only [go_sem, reduceIte, Nat.reduceEqDiff, H42_len, Nat.reduceLT]; first | done | simp)) ?_
      simp (maxSteps := 2000000) only [go_sem, reduceIte, Nat.reduceEqDiff, Nat.reduceAdd, Nat.reduceBEq, List.replicate_succ, lk42, wi]
      refine ⟨(i0 + 1) + 1, hli', mi, ?_⟩
      refine ent_weaken [] (by rw [n1, n2, n3]; first | rfl | simp [H42, laC, zLa, rgC, iD, rgD, bD]) rfl (Nat.zero_le _) rfl rfl ?_
      simp (maxSteps := 2000000) only [go_sem, reduceIte, Nat.reduceEqDiff, Nat.reduceAdd, Nat.reduceLT, List.replicate_succ, lk42, H42_len, dn2, decide_true, decide_false]
      all_goals first | exact .refl _ | exact ⟨.refl _, .refl _⟩ | exact ⟨.refl _, .refl _, .refl _⟩ | exact ⟨.refl _, _, rfl⟩ | exact ⟨_, rfl⟩ | exact ⟨.refl _, [], by simp⟩ | exact ⟨[], by simp⟩
    · have hf : ¬ ((i0 + 1 : Nat) : Int) < l.fa.length := by omega
      have efl : i0 + 1 = l.fa.length := by omega
      have n3 : insG (i0 + 1) (gB l.fa i0) l.fa (i0 + 1 + 1) = insG (i0 + 1) (gB l.fa i0) l.fa (i0 + 1) ++ [gB l.fa i0] := by rw [efl]; exact insG_end
      clear efl
      generalize insG (i0 + 1) d l.an (i0 + 1) = A at *
      generalize insG (i0 + 1) ⟨rl, rh⟩ l.li (i0 + 1) = L at *
      generalize insG (i0 + 1) (gB l.fa i0) l.fa (i0 + 1) = F at *
      have wi := wr_succ hli' (Nat.le_trans m11 (by decide))
      have wp : wr .i64 (((i0 + 1 : Nat) : Int) - 1) = (i0 : Int) := wr_pred i0 i1000
      simp (maxSteps := 2000000) only [go_sem, reduceIte, Nat.reduceEqDiff, Nat.reduceAdd, Nat.reduceLT, Nat.reduceLeDiff, Nat.reduceBEq, Nat.reduceMul, List.replicate_succ, lk42, H42, laC, zLa, rgC, hf0, g0, wp, hli2, hli3, dn, dn2, decide_false, decide_true, Bool.not_true, Bool.not_false, nn, g1, g2, iD, rgD, bD, hne, hgd, List.length_append, List.length_map]
      refine ⟨by clear wi wp; simp; omega, by clear wi wp; simp; omega, by clear wi wp; simp; omega, pairsOk_ord (by kernel_rfl), ?_⟩
      refine stop_mk { slots := [(1, I d), (3, .c (.ptr 0 0)), (5, .c (.ptr 1 0)), (6, .c (.ptr 2 0)), (8, .c (.ptr 3 0)), (10, I ((i0 + 1 : Nat) : Int))], heap := H42 l ⟨rl, rh⟩ (A ++ [d]) (L ++ [⟨rl, rh⟩]) (F ++ [gB l.fa i0]), marks := [] } (ent_weaken [.gone, .gone, .gone] (by simp [H42, laC, zLa, rgC, iD, rgD, bD]) rfl (Nat.zero_le _) rfl rfl (by simp only [go_sem, reduceIte, Nat.reduceEqDiff, H42_len, Nat.reduceLT]; first | done | simp)) ?_
      simp (maxSteps := 2000000) only [go_sem, reduceIte, Nat.reduceEqDiff, Nat.reduceAdd, Nat.reduceLT, Nat.reduceLeDiff, Nat.reduceBEq, Nat.reduceMul, List.replicate_succ, lk42, H42, laC, zLa, rgC, hli2, hli3, dn, dn2, decide_false, decide_true, Bool.not_true, Bool.not_false, nn, g1, g2, iD, rgD, bD, hne, hgd, List.length_append, List.length_map]
      refine ⟨by clear wi wp; simp; omega, by clear wi wp; simp; omega, pairsOk_ord (by kernel_rfl), ?_⟩
      refine stop_mk { slots := [(1, I d), (3, .c (.ptr 0 0)), (5, .c (.ptr 1 0)), (6, .c (.ptr 2 0)), (8, .c (.ptr 3 0)), (9, B true), (10, I (((i0 + 1) : Nat) : Int))], heap := H42 l ⟨rl, rh⟩ ((A ++ [d]) ++ [gI l.an (i0 + 1)]) ((L ++ [⟨rl, rh⟩]) ++ [gR l.li (i0 + 1)]) (F ++ [gB l.fa i0]), marks := [] } (ent_weaken [.gone, .gone] (by simp [H42, laC, zLa, rgC, iD, rgD, bD]) rfl (Nat.zero_le _) rfl rfl (by simp only [go_sem, reduceIte, Nat.reduceEqDiff, H42_len, Nat.reduceLT]; first | done | simp)) ?_
      simp (maxSteps := 2000000) only [go_sem, reduceIte, Nat.reduceEqDiff, Nat.reduceAdd, Nat.reduceLeDiff, Nat.reduceBEq, List.replicate_succ, lk42, H42, laC, zLa, rgC, hf, wi, hli2, hli3, dn, dn2, decide_false, decide_true, Bool.not_true, Bool.not_false, nn, g1, g2, iD, rgD, bD, hne, hgd, List.length_append, List.length_map]
      refine ⟨(i0 + 1) + 1, hli', mi, ?_⟩
      refine ent_weaken [] (by rw [n1, n2, n3]; first | rfl | simp [H42, laC, zLa, rgC, iD, rgD, bD]) rfl (Nat.zero_le _) rfl rfl ?_
      simp (maxSteps := 2000000) only [go_sem, reduceIte, Nat.reduceEqDiff, Nat.reduceAdd, Nat.reduceLT, List.replicate_succ, lk42, H42_len, dn2, decide_true, decide_false]
      all_goals first | exact .refl _ | exact ⟨.refl _, .refl _⟩ | exact ⟨.refl _, .refl _, .refl _⟩ | exact ⟨.refl _, _, rfl⟩ | exact ⟨_, rfl⟩ | exact ⟨.refl _, [], by simp⟩ | exact ⟨[], by simp⟩
  · have c3 : i0 + 1 < i := by omega
    have hgd := hgt i (by omega) hli'
    have hne : ¬ gI l.an i = d := by omega
    have dn : i0 + 1 < i := c3
    have dn2 : i0 + 1 < i + 1 := by omega
    have n1 := insG_gt (x := d) c3 g1
    have n2 := insG_gt (x := (⟨rl, rh⟩ : Rg)) c3 g2
    by_cases hfl : i < l.fa.length
    · have hf : (i : Int) < l.fa.length := by omega
      have g3 := gB_lt hfl
      have n3 := insG_gt (x := gB l.fa i0) c3 g3
      generalize insG (i0 + 1) d l.an i = A at *
      generalize insG (i0 + 1) ⟨rl, rh⟩ l.li i = L at *
      generalize insG (i0 + 1) (gB l.fa i0) l.fa i = F at *
      have wi := wr_succ hli' (Nat.le_trans m11 (by decide))
      simp (maxSteps := 2000000) only [go_sem, reduceIte, Nat.reduceEqDiff, Nat.reduceAdd, Nat.reduceLT, Nat.reduceLeDiff, Nat.reduceBEq, Nat.reduceMul, List.replicate_succ, lk42, H42, laC, zLa, rgC, hli2, hli3, dn, dn2, decide_false, decide_true, Bool.not_true, Bool.not_false, nn, g1, g2, iD, rgD, bD, hne, hgd, List.length_append, List.length_map]
      refine ⟨by clear wi; simp; omega, by clear wi; simp; omega, pairsOk_ord (by kernel_rfl), ?_⟩
      refine stop_mk { slots := [(1, I d), (3, .c (.ptr 0 0)), (5, .c (.ptr 1 0)), (6, .c (.ptr 2 0)), (8, .c (.ptr 3 0)), (9, B true), (10, I ((i : Nat) : Int))], heap := H42 l ⟨rl, rh⟩ (A ++ [gI l.an i]) (L ++ [gR l.li i]) F, marks := [] } (ent_weaken [.gone, .gone] (by simp [H42, laC, zLa, rgC, iD, rgD, bD]) rfl (Nat.zero_le _) rfl rfl (by simp only [go_sem, reduceIte, Nat.reduceEqDiff, H42_len, Nat.reduceLT]; first | done | simp)) ?_
      simp (maxSteps := 2000000) only [go_sem, reduceIte, Nat.reduceEqDiff, Nat.reduceAdd, Nat.reduceLT, Nat.reduceLeDiff, Nat.reduceBEq, Nat.reduceMul, List.replicate_succ, lk42, H42, laC, zLa, rgC, hf, g3, hli2, hli3, dn, dn2, decide_false, decide_true, Bool.not_true, Bool.not_false, nn, g1, g2, iD, rgD, bD, hne, hgd, List.length_append, List.length_map]
      refine ⟨by clear wi; simp; omega, pairsOk_ord (by kernel_rfl), ?_⟩
      refine stop_mk { slots := [(1, I d), (3, .c (.ptr 0 0)), (5, .c (.ptr 1 0)), (6, .c (.ptr 2 0)), (8, .c (.ptr 3 0)), (9, B true), (10, I ((i : Nat) : Int))], heap := H42 l ⟨rl, rh⟩ (A ++ [gI l.an i]) (L ++ [gR l.li i]) (F ++ [gB l.fa i]), marks := [] } (ent_weaken [.gone] (by simp [H42, laC, zLa, rgC, iD, rgD, bD]) rfl (Nat.zero_le _) rfl rfl (by simp only [go_sem, reduceIte, Nat.reduceEqDiff, H42_len, Nat.reduceLT]; first | done | simp)) ?_
      simp (maxSteps := 2000000) only [go_sem, reduceIte, Nat.reduceEqDiff, Nat.reduceAdd, Nat.reduceBEq, List.replicate_succ, lk42, wi]
      refine ⟨i + 1, hli', mi, ?_⟩
      refine ent_weaken [] (by rw [n1, n2, n3]; first | rfl | simp [H42, laC, zLa, rgC, iD, rgD, bD]) rfl (Nat.zero_le _) rfl rfl ?_
      simp (maxSteps := 2000000) only [go_sem, reduceIte, Nat.reduceEqDiff, Nat.reduceAdd, Nat.reduceLT, List.replicate_succ, lk42, H42_len, dn2, decide_true, decide_false]
      all_goals first | exact .refl _ | exact ⟨.refl _, .refl _⟩ | exact ⟨.refl _, .refl _, .refl _⟩ | exact ⟨.refl _, _, rfl⟩ | exact ⟨_, rfl⟩ | exact ⟨.refl _, [], by simp⟩ | exact ⟨[], by simp⟩
    · have hf : ¬ (i : Int) < l.fa.length := by omega
      have n3 := insG_out (x := gB l.fa i0) c3 (show l.fa.length ≤ i by omega)
      generalize insG (i0 + 1) d l.an i = A at *
      generalize insG (i0 + 1) ⟨rl, rh⟩ l.li i = L at *
      generalize insG (i0 + 1) (gB l.fa i0) l.fa i = F at *
      have wi := wr_succ hli' (Nat.le_trans m11 (by decide))
      simp (maxSteps := 2000000) only [go_sem, reduceIte, Nat.reduceEqDiff, Nat.reduceAdd, Nat.reduceLT, Nat.reduceLeDiff, Nat.reduceBEq, Nat.reduceMul, List.replicate_succ, lk42, H42, laC, zLa, rgC, hli2, hli3, dn, dn2, decide_false, decide_true, Bool.not_true, Bool.not_false, nn, g1, g2, iD, rgD, bD, hne, hgd, List.length_append, List.length_map]
      refine ⟨by clear wi; simp; omega, by clear wi; simp; omega, pairsOk_ord (by kernel_rfl), ?_⟩
      refine stop_mk { slots := [(1, I d), (3, .c (.ptr 0 0)), (5, .c (.ptr 1 0)), (6, .c (.ptr 2 0)), (8, .c (.ptr 3 0)), (9, B true), (10, I ((i : Nat) : Int))], heap := H42 l ⟨rl, rh⟩ (A ++ [gI l.an i]) (L ++ [gR l.li i]) F, marks := [] } (ent_weaken [.gone, .gone] (by simp [H42, laC, zLa, rgC, iD, rgD, bD]) rfl (Nat.zero_le _) rfl rfl (by simp only [go_sem, reduceIte, Nat.reduceEqDiff, H42_len, Nat.reduceLT]; first | done | simp)) ?_
      simp (maxSteps := 2000000) only [go_sem, reduceIte, Nat.reduceEqDiff, Nat.reduceAdd, Nat.reduceLeDiff, Nat.reduceBEq, List.replicate_succ, lk42, H42, laC, zLa, rgC, hf, wi, hli2, hli3, dn, dn2, decide_false, decide_true, Bool.not_true, Bool.not_false, nn, g1, g2, iD, rgD, bD, hne, hgd, List.length_append, List.length_map]
      refine ⟨i + 1, hli', mi, ?_⟩
      refine ent_weaken [] (by rw [n1, n2, n3]; first | rfl | simp [H42, laC, zLa, rgC, iD, rgD, bD]) rfl (Nat.zero_le _) rfl rfl ?_
      simp (maxSteps := 2000000) only [go_sem, reduceIte, Nat.reduceEqDiff, Nat.reduceAdd, Nat.reduceLT, List.replicate_succ, lk42, H42_len, dn2, decide_true, decide_false]
      all_goals first | exact .refl _ | exact ⟨.refl _, .refl _⟩ | exact ⟨.refl _, .refl _, .refl _⟩ | exact ⟨.refl _, _, rfl⟩ | exact ⟨_, rfl⟩ | exact ⟨.refl _, [], by simp⟩ | exact ⟨[], by simp⟩
end Go.Proofs.Ytliamojogmlgjaa
