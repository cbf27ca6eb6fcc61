/- Zones: End, Coated. -/
import Derived.Test.YtliamojogmlgjaaZ13
set_option linter.unusedSimpArgs false
set_option linter.unusedVariables false
set_option maxRecDepth 100000
namespace Go.Proofs.Ytliamojogmlgjaa
open Go Go.Abs Go.Proofs
def kp33 : List (Nat × List Nat) := [(0, [1, 2]), (1, [1, 2, 6, 7]), (2, [1, 2, 6, 7, 17]), (3, [4, 5]), (4, [1, 2, 6, 8]), (5, [2, 6, 8, 21]), (6, [2, 8]), (7, [8, 9]), (8, [8, 9, 29, 30]), (9, [8, 9, 29, 30, 31]), (10, [8, 9, 10, 29, 30]), (11, [8, 9, 29, 30]), (12, [8, 9, 29, 30]), (13, [4, 5])]
theorem lk33 : lookK kp33 0 = some [1, 2] ∧ lookK kp33 1 = some [1, 2, 6, 7] ∧ lookK kp33 2 = some [1, 2, 6, 7, 17] ∧ lookK kp33 3 = some [4, 5] ∧ lookK kp33 4 = some [1, 2, 6, 8] ∧ lookK kp33 5 = some [2, 6, 8, 21] ∧ lookK kp33 6 = some [2, 8] ∧ lookK kp33 7 = some [8, 9] ∧ lookK kp33 8 = some [8, 9, 29, 30] ∧ lookK kp33 9 = some [8, 9, 29, 30, 31] ∧ lookK kp33 10 = some [8, 9, 10, 29, 30] ∧ lookK kp33 11 = some [8, 9, 29, 30] ∧ lookK kp33 12 = some [8, 9, 29, 30] ∧ lookK kp33 13 = some [4, 5] := ⟨rfl, rfl, rfl, rfl, rfl, rfl, rfl, rfl, rfl, rfl, rfl, rfl, rfl, rfl⟩

theorem rep_nums2 (n : Nat) : (List.replicate n [C.d (.int .i64 0)]).flatten = numsC n (fun _ => 0) := by
  rw [← zero_nums]
  induction n with
  | zero => rfl
  | succ n ih => rw [List.replicate_succ, List.flatten_cons, ih, List.replicate_succ]; rfl
theorem fz2 {id n : Nat} {f : Nat → Int} (hn : n ≤ 1000) (e : Int) : FzT id (numsD n f) (.tup [.c (.ms id 0 n n), I e]) (.tup [ints (fl n f), I e]) := by
  refine .tup rfl (fun i x y hx hy => ?_)
  match i with
  | 0 =>
    simp at hx hy
    subst hx; subst hy
    have h : FzC id (numsD n f) (.ms id 0 n n) (.d (.sl (chunk 1 n ((numsD n f).drop 0)))) := .ms 0 1 n n (by simp [numsD]) (Nat.le_refl _) (by unfold lim; omega)
    rw [List.drop_zero, chunk_nums] at h
    exact .c h
  | 1 => simp at hx hy; subst hx; subst hy; exact .same _
  | k + 2 => simp at hx
theorem HE2_low (l : La) (n : Nat) (f : Nat → Int) : [AB.cells (laC l), .cells (numsC n f)].all (AB.low 2) = true := by simp only [List.all_cons, List.all_nil, AB.low, numsC_low, laC_low, Bool.and_self]
set_option maxHeartbeats 4000000 in
theorem end33_bad (l : La) (b : Bool) (h : ¬ spE l = 0) : Pure Try.prog 33 [laV l, B b] (.tup [ints (enL l b), I (spE l)]) := by
  refine pure_wkE (bad := []) (kp := kp33) (X := tx) (nt := 41) (rs := [.tmp 4, .tmp 5]) Try.func33 rfl rfl rfl rfl mo (by kernel_rfl) rfl rfl (fun hf => ?_)
  have ho := open57 l
  rw [opV_bad h] at ho
  have e := enL_bad h b
  unfold laV laC at ho
  simp (maxSteps := 2000000) only [go_sem, reduceIte, Nat.reduceEqDiff, Nat.reduceAdd, List.replicate_succ, lk33, laV, laC]
  refine aops_pure' (ho) rfl rfl (by first | exact wk_refls _ | (repeat constructor)) ?_
  simp (maxSteps := 2000000) only [go_sem, reduceIte, Nat.reduceEqDiff, Nat.reduceAdd, List.replicate_succ, lk33, h, e, ints]
  all_goals first | exact .refl _ | exact ⟨.refl _, .refl _⟩ | exact ⟨.refl _, .refl _, .refl _⟩ | exact ⟨.refl _, _, rfl⟩ | exact ⟨_, rfl⟩ | exact ⟨.refl _, [], by simp⟩ | exact ⟨[], by simp⟩
set_option maxHeartbeats 4000000 in
theorem end33_ok (l : La) (b : Bool) (h : spE l = 0) : Pure Try.prog 33 [laV l, B b] (.tup [ints (enL l b), I (spE l)]) := by
  refine pure_fzE (bad := []) (kp := kp33) (X := tx) (nt := 41) (rs := [.tmp 4, .tmp 5]) Try.func33 rfl rfl rfl rfl mo (by kernel_rfl) rfl rfl (fun hf => ?_)
  have ok := okLa_n (sp_ok h).1
  obtain ⟨n2, n91⟩ := ok.n91
  have ho := open57 l
  rw [opV_0 h, h] at ho
  have e := enL_0 h b
  have n0 : (0 : Int) ≤ l.we.length := by omega
  have d1 : (decide ((l.we.length : Int) ≤ (l.we.length : Int)) && decide (8 * (l.we.length : Int) ≤ 140737488355328) && decide ((l.we.length : Int) ≤ 140737488355328)) = true := by simp; omega
  unfold laV laC at ho
  have hz := rep_nums2 l.we.length
  obtain ⟨f, g, hfg, hg⟩ : ∃ (f : Nat → Int) (g : Nat), (if b then bh l else bl l) = f ∧ (∀ k, k < l.we.length → Pure Try.prog g [tbV l, I k] (I (f k))) ∧ g = if b then 63 else 62 := by
    cases b with
    | true => exact ⟨bh l, 63, rfl, fun k hk => high63 l ok k hk, rfl⟩
    | false => exact ⟨bl l, 62, rfl, fun k hk => low62 l ok k hk, rfl⟩
  obtain ⟨hg, hgb⟩ := hg
  rw [hfg] at e
  unfold tbV at hg
  cases b with
  | true =>
    have hg63 : g = 63 := hgb
    subst hg63
    simp (maxSteps := 2000000) only [go_sem, reduceIte, Nat.reduceEqDiff, Nat.reduceAdd, List.replicate_succ, lk33, laV, laC]
    refine aops_pure' (ho) rfl rfl (by first | exact wk_refls _ | (repeat constructor)) ?_
    simp (maxSteps := 2000000) only [go_sem, reduceIte, Nat.reduceEqDiff, Nat.reduceAdd, Nat.reduceBEq, List.replicate_succ, lk33, List.isEmpty_cons, n0, Int.toNat_natCast, hz]
    refine ⟨d1, ?_⟩
    refine goE_loop (bad := []) (kp := kp33) (fun k : Nat => { slots := [(8, .c (.mv (.func 63) (.dp (tbD l)))), (9, .c (.ms 1 0 l.we.length l.we.length)), (29, I l.we.length), (30, I k)], heap := [.cells (laC l), .cells (numsC l.we.length (upto f k))], marks := [] }) (fun k => k ≤ l.we.length) (fun k => l.we.length - k) 0 mo (by kernel_rfl) ?_ (Nat.zero_le _) ?_
    · refine ent_weaken [] (by rw [upto_zero]; rfl) rfl (Nat.zero_le _) (HE2_low l _ _) rfl ?_
      simp (maxSteps := 2000000) only [go_sem, reduceIte, Nat.reduceEqDiff, Nat.reduceAdd, Nat.reduceLT, List.replicate_succ, lk33, laC]
      all_goals first | exact .refl _ | exact ⟨.refl _, .refl _⟩ | exact ⟨.refl _, .refl _, .refl _⟩ | exact ⟨.refl _, _, rfl⟩ | exact ⟨_, rfl⟩ | exact ⟨.refl _, [], by simp⟩ | exact ⟨[], by simp⟩
    rintro k hk
    simp (maxSteps := 2000000) only [go_sem, reduceIte, Nat.reduceEqDiff, Nat.reduceAdd, List.replicate_succ, lk33, laC]
    by_cases hlt : k < l.we.length
    · have hlt' : (k : Int) < l.we.length := by omega
      have hc := hg k hlt
      have m1 : l.we.length - (k + 1) < l.we.length - k := by omega
      have c1 : decide (k + 1 ≤ l.we.length) = true := by simp; omega
      have hu := upto_upd f k
      have w7 := wr_succ hlt (big91 n91)
      simp (maxSteps := 2000000) only [go_sem, reduceIte, Nat.reduceEqDiff, Nat.reduceAdd, List.replicate_succ, lk33, hlt']
      refine aops_pure' (hc) rfl rfl (by first | exact wk_refls _ | (repeat constructor)) ?_
      simp (maxSteps := 2000000) only [go_sem, reduceIte, Nat.reduceEqDiff, List.replicate_succ, lk33, nn, hlt', Int.toNat_natCast, Nat.mul_one, Nat.zero_add, numsC_len, numsC_set, hu, c1, w7]
      refine ⟨k + 1, hlt, m1, ?_⟩
      refine ent_weaken [] rfl rfl (Nat.zero_le _) (HE2_low l _ _) rfl ?_
      simp (maxSteps := 2000000) only [go_sem, reduceIte, Nat.reduceEqDiff, Nat.reduceAdd, Nat.reduceLT, List.replicate_succ, lk33, laC]
      all_goals first | exact .refl _ | exact ⟨.refl _, .refl _⟩ | exact ⟨.refl _, .refl _, .refl _⟩ | exact ⟨.refl _, _, rfl⟩ | exact ⟨_, rfl⟩ | exact ⟨.refl _, [], by simp⟩ | exact ⟨[], by simp⟩
    · have hlt' : ¬ (k : Int) < l.we.length := by omega
      have ek : k = l.we.length := by omega
      subst ek
      have ha := upto_all f l.we.length
      simp (maxSteps := 2000000) only [go_sem, reduceIte, Nat.reduceEqDiff, Nat.reduceAdd, List.replicate_succ, lk33, hlt', ha, h, e]
      exact ⟨1, _, numsD l.we.length f, _, rfl, by rw [numsC_d]; exact toDs_d _, fz2 (by omega) 0, .refl _⟩
  | false =>
    have hg63 : g = 62 := hgb
    subst hg63
    simp (maxSteps := 2000000) only [go_sem, reduceIte, Nat.reduceEqDiff, Nat.reduceAdd, List.replicate_succ, lk33, laV, laC]
    refine aops_pure' (ho) rfl rfl (by first | exact wk_refls _ | (repeat constructor)) ?_
    simp (maxSteps := 2000000) only [go_sem, reduceIte, Nat.reduceEqDiff, Nat.reduceAdd, Nat.reduceBEq, List.replicate_succ, lk33, List.isEmpty_cons, n0, Int.toNat_natCast, hz]
    refine ⟨d1, ?_⟩
    refine goE_loop (bad := []) (kp := kp33) (fun k : Nat => { slots := [(8, .c (.mv (.func 62) (.dp (tbD l)))), (9, .c (.ms 1 0 l.we.length l.we.length)), (29, I l.we.length), (30, I k)], heap := [.cells (laC l), .cells (numsC l.we.length (upto f k))], marks := [] }) (fun k => k ≤ l.we.length) (fun k => l.we.length - k) 0 mo (by kernel_rfl) ?_ (Nat.zero_le _) ?_
    · refine ent_weaken [] (by rw [upto_zero]; rfl) rfl (Nat.zero_le _) (HE2_low l _ _) rfl ?_
      simp (maxSteps := 2000000) only [go_sem, reduceIte, Nat.reduceEqDiff, Nat.reduceAdd, Nat.reduceLT, List.replicate_succ, lk33, laC]
      all_goals first | exact .refl _ | exact ⟨.refl _, .refl _⟩ | exact ⟨.refl _, .refl _, .refl _⟩ | exact ⟨.refl _, _, rfl⟩ | exact ⟨_, rfl⟩ | exact ⟨.refl _, [], by simp⟩ | exact ⟨[], by simp⟩
    rintro k hk
    simp (maxSteps := 2000000) only [go_sem, reduceIte, Nat.reduceEqDiff, Nat.reduceAdd, List.replicate_succ, lk33, laC]
    by_cases hlt : k < l.we.length
    · have hlt' : (k : Int) < l.we.length := by omega
      have hc := hg k hlt
      have m1 : l.we.length - (k + 1) < l.we.length - k := by omega
      have c1 : decide (k + 1 ≤ l.we.length) = true := by simp; omega
      have hu := upto_upd f k
      have w7 := wr_succ hlt (big91 n91)
      simp (maxSteps := 2000000) only [go_sem, reduceIte, Nat.reduceEqDiff, Nat.reduceAdd, List.replicate_succ, lk33, hlt']
      refine aops_pure' (hc) rfl rfl (by first | exact wk_refls _ | (repeat constructor)) ?_
      simp (maxSteps := 2000000) only [go_sem, reduceIte, Nat.reduceEqDiff, List.replicate_succ, lk33, nn, hlt', Int.toNat_natCast, Nat.mul_one, Nat.zero_add, numsC_len, numsC_set, hu, c1, w7]
      refine ⟨k + 1, hlt, m1, ?_⟩
      refine ent_weaken [] rfl rfl (Nat.zero_le _) (HE2_low l _ _) rfl ?_
      simp (maxSteps := 2000000) only [go_sem, reduceIte, Nat.reduceEqDiff, Nat.reduceAdd, Nat.reduceLT, List.replicate_succ, lk33, laC]
      all_goals first | exact .refl _ | exact ⟨.refl _, .refl _⟩ | exact ⟨.refl _, .refl _, .refl _⟩ | exact ⟨.refl _, _, rfl⟩ | exact ⟨_, rfl⟩ | exact ⟨.refl _, [], by simp⟩ | exact ⟨[], by simp⟩
    · have hlt' : ¬ (k : Int) < l.we.length := by omega
      have ek : k = l.we.length := by omega
      subst ek
      have ha := upto_all f l.we.length
      simp (maxSteps := 2000000) only [go_sem, reduceIte, Nat.reduceEqDiff, Nat.reduceAdd, List.replicate_succ, lk33, hlt', ha, h, e]
      exact ⟨1, _, numsD l.we.length f, _, rfl, by rw [numsC_d]; exact toDs_d _, fz2 (by omega) 0, .refl _⟩
theorem end33 (l : La) (b : Bool) : Pure Try.prog 33 [laV l, B b] (.tup [ints (enL l b), I (spE l)]) := by
  by_cases h : spE l = 0
  · exact end33_ok l b h
  · exact end33_bad l b h
end Go.Proofs.Ytliamojogmlgjaa
