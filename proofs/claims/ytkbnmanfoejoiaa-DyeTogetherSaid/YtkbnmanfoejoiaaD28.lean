/- Dyes: the statement Together. -/
import Derived.Test.YtkbnmanfoejoiaaD23
set_option linter.unusedSimpArgs false
set_option linter.unusedVariables false
set_option maxRecDepth 100000
namespace Go.Proofs.Ytkbnmanfoejoiaa
open Go Go.Abs Go.Proofs
def kp7 : List (Nat × List Nat) := [(0, [0, 1, 2]), (1, [0, 1, 2, 37]), (2, [6]), (3, [0, 7, 8]), (4, [0, 7, 8, 9]), (5, [0, 7, 8, 9, 10]), (6, [0, 7, 8, 9, 10, 48]), (7, [0, 7, 8, 9, 10]), (8, [0, 7, 8, 9, 10, 60]), (9, [6]), (10, [0, 7, 8, 9, 10]), (11, [0, 8, 9, 11, 12, 13]), (12, [0, 9, 11, 12, 13, 14, 15, 16]), (13, [11, 12, 13, 14, 15, 16, 17, 18, 19]), (14, [6])]
theorem lk7 : lookK kp7 0 = some [0, 1, 2] ∧ lookK kp7 1 = some [0, 1, 2, 37] ∧ lookK kp7 2 = some [6] ∧ lookK kp7 3 = some [0, 7, 8] ∧ lookK kp7 4 = some [0, 7, 8, 9] ∧ lookK kp7 5 = some [0, 7, 8, 9, 10] ∧ lookK kp7 6 = some [0, 7, 8, 9, 10, 48] ∧ lookK kp7 7 = some [0, 7, 8, 9, 10] ∧ lookK kp7 8 = some [0, 7, 8, 9, 10, 60] ∧ lookK kp7 9 = some [6] ∧ lookK kp7 10 = some [0, 7, 8, 9, 10] ∧ lookK kp7 11 = some [0, 8, 9, 11, 12, 13] ∧ lookK kp7 12 = some [0, 9, 11, 12, 13, 14, 15, 16] ∧ lookK kp7 13 = some [11, 12, 13, 14, 15, 16, 17, 18, 19] ∧ lookK kp7 14 = some [6] := ⟨rfl, rfl, rfl, rfl, rfl, rfl, rfl, rfl, rfl, rfl, rfl, rfl, rfl, rfl, rfl⟩

def sumR (x y : List Int) (k : Nat) : List Int := (List.range k).map fun i => gI x i + gI y i
theorem sumR_succ (x y : List Int) (k : Nat) : sumR x y (k + 1) = sumR x y k ++ [gI x k + gI y k] := by simp [sumR, List.range_succ]
theorem sumR_len (x y : List Int) (k : Nat) : (sumR x y k).length = k := by simp [sumR]
theorem sumR_get (x y : List Int) {k i : Nat} (h : i < k) : gI (sumR x y k) i = gI x i + gI y i := by simp [sumR, gI, List.getD, h]
theorem sumF_add (x y w : Nat → Int) : ∀ n, sumF (fun i => (x i + y i) * w i) n = sumF (fun i => x i * w i) n + sumF (fun i => y i * w i) n
  | 0 => rfl
  | n + 1 => by rw [sumF, sumF, sumF, sumF_add x y w n, Int.add_mul]; omega
theorem sum_two (x y : List Int) (w : Nat → Int) (n : Nat) : sumF (fun i => gI (sumR x y n) i * w i) n = sumF (fun i => gI x i * w i) n + sumF (fun i => gI y i * w i) n := by
  rw [sumF_congr (g := fun i => (gI x i + gI y i) * w i) (fun i hi => by rw [sumR_get x y hi]), sumF_add]
theorem app_ok2 {n : Nat} (l : List Int) (h : n ≤ 1000000) : ((l.all fun x => true) && decide ((n + 1 + (n + 1) / 4 + 256) * 8 ≤ 281474976710656) && decide (n ≤ 140737488355327)) = true := by
  simp; omega
theorem mix_ok {l : List Dy} {r : List Int} (hl : OkL l) (hr : OkR l r) : mixL l r = [sA l r l.length, sB l r l.length] ∧ mixP l r = sP l r l.length ∧ mixE l r = 0 := by
  have h1 := (okShelf_iff l).2 hl
  have h2 := (okRec_iff l r).2 hr
  unfold mixL mixP mixE
  rw [if_pos h1, if_pos h2, if_pos h1, if_pos h2, if_pos h1, h2]
  exact ⟨rfl, rfl, rfl⟩
set_option maxHeartbeats 4000000 in
theorem togetherLaw (l : List Dy) (one' two : List Int) (hu : U8 one') (hu2 : U8 two) : Pure Try.prog 7 [dys l, u8s one', u8s two] (B true) := by
  refine pure_wkE (bad := [10]) (kp := kp7) (X := tx) (nt := 144) (rs := [.tmp 6]) Try.func7 rfl rfl rfl rfl mo (by kernel_rfl) rfl rfl (fun hf => ?_)
  have hw := works13
  have hsh := shelf19 l
  unfold dys at hsh
  by_cases h1 : 12 < l.length
  · have h1' : (12 : Int) < l.length := by omega
    simp (maxSteps := 2000000) only [go_sem, reduceIte, Nat.reduceEqDiff, Nat.reduceAdd, Nat.reduceBEq, lk7, dys, u8s, h1']
    refine aops_pure' (hw) rfl rfl (by first | exact wk_refls _ | (repeat constructor)) ?_
    simp (maxSteps := 2000000) only [go_sem, reduceIte, Nat.reduceEqDiff, lk7]
  have h1' : ¬ (12 : Int) < l.length := by omega
  by_cases h0 : okShelf l = 0
  case neg =>
    simp (maxSteps := 2000000) only [go_sem, reduceIte, Nat.reduceEqDiff, Nat.reduceAdd, Nat.reduceBEq, lk7, dys, u8s, h1']
    refine aops_pure' (hsh) rfl rfl (by first | exact wk_refls _ | (repeat constructor)) ?_
    simp (maxSteps := 2000000) only [go_sem, reduceIte, Nat.reduceEqDiff, Nat.reduceAdd, Nat.reduceBEq, lk7, h0]
    refine aops_pure' (hw) rfl rfl (by first | exact wk_refls _ | (repeat constructor)) ?_
    simp (maxSteps := 2000000) only [go_sem, reduceIte, Nat.reduceEqDiff, lk7]
  have hl := (okShelf_iff l).1 h0
  by_cases h2 : 12 < one'.length
  · have h2' : (12 : Int) < one'.length := by omega
    simp (maxSteps := 2000000) only [go_sem, reduceIte, Nat.reduceEqDiff, Nat.reduceAdd, Nat.reduceBEq, lk7, dys, u8s, h1']
    refine aops_pure' (hsh) rfl rfl (by first | exact wk_refls _ | (repeat constructor)) ?_
    simp (maxSteps := 2000000) only [go_sem, reduceIte, Nat.reduceEqDiff, Nat.reduceAdd, Nat.reduceBEq, lk7, h0, h2']
    refine aops_pure' (hw) rfl rfl (by first | exact wk_refls _ | (repeat constructor)) ?_
    simp (maxSteps := 2000000) only [go_sem, reduceIte, Nat.reduceEqDiff, lk7]
  have h2' : ¬ (12 : Int) < one'.length := by omega
  by_cases h3 : 12 < two.length
  · have h3' : (12 : Int) < two.length := by omega
    simp (maxSteps := 2000000) only [go_sem, reduceIte, Nat.reduceEqDiff, Nat.reduceAdd, Nat.reduceBEq, lk7, dys, u8s, h1']
    refine aops_pure' (hsh) rfl rfl (by first | exact wk_refls _ | (repeat constructor)) ?_
    simp (maxSteps := 2000000) only [go_sem, reduceIte, Nat.reduceEqDiff, Nat.reduceAdd, Nat.reduceBEq, lk7, h0, h2', h3']
    refine aops_pure' (hw) rfl rfl (by first | exact wk_refls _ | (repeat constructor)) ?_
    simp (maxSteps := 2000000) only [go_sem, reduceIte, Nat.reduceEqDiff, lk7]
  have h3' : ¬ (12 : Int) < two.length := by omega
  have r1 := recipe33 l one' hl.n8 hu
  have r2 := recipe33 l two hl.n8 hu2
  have ok1 : OkR l (recL l.length one') := recL_ok one'
  have ok2 : OkR l (recL l.length two) := recL_ok two
  have len1 := recL_len l.length one'
  have len2 := recL_len l.length two
  unfold dys u8s at r1 r2
  generalize recL l.length one' = x at *
  generalize recL l.length two = y at *
  have h8 := hl.n8
  simp (maxSteps := 2000000) only [go_sem, reduceIte, Nat.reduceEqDiff, Nat.reduceAdd, Nat.reduceBEq, lk7, dys, u8s, h1']
  refine aops_pure' (hsh) rfl rfl (by first | exact wk_refls _ | (repeat constructor)) ?_
  simp (maxSteps := 2000000) only [go_sem, reduceIte, Nat.reduceEqDiff, Nat.reduceAdd, Nat.reduceBEq, lk7, h0, h2', h3']
  refine aops_pure' (r1) rfl rfl (by first | exact wk_refls _ | (repeat constructor)) ?_
  simp (maxSteps := 2000000) only [go_sem, reduceIte, Nat.reduceEqDiff, lk7]
  refine aops_pure' (r2) rfl rfl (by first | exact wk_refls _ | (repeat constructor)) ?_
  simp (maxSteps := 2000000) only [go_sem, reduceIte, Nat.reduceEqDiff, lk7]
  refine goE_loop (bad := [10]) (kp := kp7) (fun k : Nat => { slots := [(0, dys l), (7, ints x), (8, ints y), (9, .c (.own 0 ((sumR x y k).map iD))), (10, I k)], heap := [.grow k 1], marks := [] }) (fun k => k ≤ l.length ∧ ∀ i, i < k → gI x i + gI y i ≤ 20) (fun k => l.length - k) 0 mo (by kernel_rfl) ?_ ⟨Nat.zero_le _, fun i hi => by omega⟩ ?_
  · refine Ent.trans (ent_own 9 1 rfl) ?_
    refine ent_weaken [] rfl rfl (Nat.zero_le _) rfl rfl ?_
    simp (maxSteps := 2000000) only [go_sem, reduceIte, Nat.reduceEqDiff, Nat.reduceLT, lk7, sumR, List.range_zero, dys, ints]
    all_goals first | exact .refl _ | exact ⟨.refl _, .refl _⟩ | exact ⟨.refl _, .refl _, .refl _⟩ | exact ⟨.refl _, _, rfl⟩ | exact ⟨_, rfl⟩ | exact ⟨.refl _, [], by simp⟩ | exact ⟨[], by simp⟩
  rintro k ⟨hk, hall⟩
  simp (maxSteps := 2000000) only [go_sem, reduceIte, Nat.reduceEqDiff, Nat.reduceAdd, Nat.reduceBEq, lk7, dys, ints]
  by_cases hlt : k < l.length
  · have hlt' : (k : Int) < l.length := by omega
    have g1 := gI_lt (l := x) (b := k) (by omega)
    have g2 := gI_lt (l := y) (b := k) (by omega)
    have b1 := ok1.g hlt
    have b2 := ok2.g hlt
    have kx : (k : Int) < x.length := by omega
    have ky : (k : Int) < y.length := by omega
    have m1 : l.length - (k + 1) < l.length - k := by omega
    have hs := sumR_succ x y k
    have hsl := sumR_len x y k
    have hap := app_ok2 (n := k) (sumR x y k) (by omega)
    by_cases c : 20 < gI x k + gI y k
    · have w1 : wr .i64 (gI x k + gI y k) = gI x k + gI y k := wr_in (by omega)
      simp (maxSteps := 2000000) only [go_sem, reduceIte, Nat.reduceEqDiff, Nat.reduceAdd, Nat.reduceBEq, lk7, hlt', kx, ky, nn, g1, g2, iD, w1, c]
      refine aops_pure' (hw) rfl rfl (by first | exact wk_refls _ | (repeat constructor)) ?_
      simp (maxSteps := 2000000) only [go_sem, reduceIte, Nat.reduceEqDiff, lk7]
    · have hall2 : ∀ i, i < k + 1 → gI x i + gI y i ≤ 20 := fun i hi => by
        by_cases e : i = k
        · subst e; omega
        · exact hall i (by omega)
      have w7 : wr .i64 ((k : Int) + 1) = ((k + 1 : Nat) : Int) := wr_succ hlt (by omega)
      have w1 : wr .i64 (gI x k + gI y k) = gI x k + gI y k := wr_in (by omega)
      simp (maxSteps := 2000000) only [go_sem, reduceIte, Nat.reduceEqDiff, Nat.reduceAdd, Nat.reduceLT, Nat.reduceLeDiff, Nat.reduceBEq, Nat.reduceMul, lk7, hlt', kx, ky, nn, g1, g2, w1, c, hsl, iD, w7]
      refine ⟨hap, pairsOk_ord (by kernel_rfl), k + 1, ⟨hlt, hall2⟩, m1, ?_⟩
      refine ent_weaken [.gone] rfl rfl (Nat.zero_le _) rfl rfl ?_
      simp (maxSteps := 2000000) only [go_sem, reduceIte, Nat.reduceEqDiff, Nat.reduceLT, lk7, hs, List.map_append, iD, dys, ints]
      all_goals first | exact .refl _ | exact ⟨.refl _, .refl _⟩ | exact ⟨.refl _, .refl _, .refl _⟩ | exact ⟨.refl _, _, rfl⟩ | exact ⟨_, rfl⟩ | exact ⟨.refl _, [], by simp⟩ | exact ⟨[], by simp⟩
  · have hlt' : ¬ (k : Int) < l.length := by omega
    have e : k = l.length := by omega
    subst e
    have okz : OkR l (sumR x y l.length) := ⟨sumR_len _ _ _, fun v hv => by
      obtain ⟨i, hi, rfl⟩ := List.mem_map.1 hv
      have hi := List.mem_range.1 hi
      have := ok1.g hi
      have := ok2.g hi
      have := hall i hi
      omega⟩
    have m1 := mix14 l x
    have m2 := mix14 l y
    have m3 := mix14 l (sumR x y l.length)
    rw [(mix_ok hl ok1).1, (mix_ok hl ok1).2.1, (mix_ok hl ok1).2.2] at m1
    rw [(mix_ok hl ok2).1, (mix_ok hl ok2).2.1, (mix_ok hl ok2).2.2] at m2
    rw [(mix_ok hl okz).1, (mix_ok hl okz).2.1, (mix_ok hl okz).2.2] at m3
    have za : sA l (sumR x y l.length) l.length = sA l x l.length + sA l y l.length := sum_two x y (fun i => (gD l i).a) l.length
    have zb : sB l (sumR x y l.length) l.length = sB l x l.length + sB l y l.length := sum_two x y (fun i => (gD l i).b) l.length
    have zp : sP l (sumR x y l.length) l.length = sP l x l.length + sP l y l.length := sum_two x y (fun i => (gD l i).p) l.length
    rw [za, zb, zp] at m3
    have s1 := s_bounds hl ok1 (n := l.length) (Nat.le_refl _)
    have s2 := s_bounds hl ok2 (n := l.length) (Nat.le_refl _)
    clear za zb zp okz hall ok1 ok2
    generalize sA l x l.length = a1 at *
    generalize sB l x l.length = b1 at *
    generalize sP l x l.length = p1 at *
    generalize sA l y l.length = a2 at *
    generalize sB l y l.length = b2 at *
    generalize sP l y l.length = p2 at *
    have lg := longs20 [a1 + a2, b1 + b2] [a1 + a2, b1 + b2]
    rw [decide_eq_true rfl] at lg
    have w1 : wr .i64 (a1 + a2) = a1 + a2 := wr_in (by omega)
    have w2 : wr .i64 (b1 + b2) = b1 + b2 := wr_in (by omega)
    have w3 : wr .i64 (p1 + p2) = p1 + p2 := wr_in (by omega)
    simp (maxSteps := 2000000) only [go_sem, lk7, dys, ints, iD] at m1 m2 m3 lg
    simp (maxSteps := 2000000) only [go_sem, reduceIte, Nat.reduceEqDiff, Nat.reduceAdd, Nat.reduceBEq, lk7, hlt']
    refine aops_pure' (m1) rfl rfl (by first | exact wk_refls _ | (repeat constructor)) ?_
    simp (maxSteps := 2000000) only [go_sem, reduceIte, Nat.reduceEqDiff, lk7]
    refine aops_pure' (m2) rfl rfl (by first | exact wk_refls _ | (repeat constructor)) ?_
    simp (maxSteps := 2000000) only [go_sem, reduceIte, Nat.reduceEqDiff, lk7]
    refine aops_pure' (m3) rfl rfl (by first | exact wk_refls _ | (repeat constructor)) ?_
    simp (maxSteps := 2000000) only [go_sem, reduceIte, Nat.reduceEqDiff, Nat.reduceAdd, Nat.reduceLeDiff, Nat.reduceBEq, Nat.reduceMul, Int.reduceLT, Int.reduceLE, Int.reduceToNat, lk7, w1, w2, w3]
    refine dops_pure' (lg) rfl rfl (by first | exact wk_refls _ | (repeat constructor)) (by kernel_rfl) ?_
    simp (maxSteps := 2000000) only [go_sem, reduceIte, Nat.reduceEqDiff, Nat.reduceAdd, lk7, w3]
    refine dops_pure' (hw) rfl rfl (by first | exact wk_refls _ | (repeat constructor)) (by kernel_rfl) ?_
    simp (maxSteps := 2000000) only [go_sem, reduceIte, Nat.reduceEqDiff, Nat.reduceAdd, lk7]
end Go.Proofs.Ytkbnmanfoejoiaa
