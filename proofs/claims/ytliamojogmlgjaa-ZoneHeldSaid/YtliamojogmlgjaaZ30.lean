/- Zones: a true lantern by numbers. -/
import Derived.Test.YtliamojogmlgjaaZ26
import Derived.Test.YtliamojogmlgjaaZK0
set_option linter.unusedSimpArgs false
set_option linter.unusedVariables false
set_option maxRecDepth 100000
namespace Go.Proofs.Ytliamojogmlgjaa
open Go Go.Abs Go.Proofs
def kp39 : List (Nat × List Nat) := [(0, [1, 2]), (1, [1, 2, 5, 6]), (2, [1, 2, 5, 6, 7]), (3, [1, 2, 5, 6, 7, 8]), (4, [1, 2, 5, 6, 7, 8, 20]), (5, [1, 2, 5, 6, 7, 8]), (6, [1, 2, 5, 6, 7, 8, 9, 10]), (7, [1, 2, 5, 6, 7, 8, 9, 10, 32]), (8, [1, 2, 5, 6, 7, 8, 9, 10, 44]), (9, [1, 2, 5, 6, 7, 8, 9, 10]), (10, [1, 2, 5, 6, 7, 8, 9, 10]), (11, [1, 2, 5, 6, 7, 8, 9, 10, 11]), (12, [1, 2, 5, 6, 7, 8, 9, 10, 11, 62]), (13, [1, 2, 5, 6, 7, 8, 11]), (14, [1, 2, 5, 6, 7, 8]), (15, [4])]
theorem lk39 : lookK kp39 0 = some [1, 2] ∧ lookK kp39 1 = some [1, 2, 5, 6] ∧ lookK kp39 2 = some [1, 2, 5, 6, 7] ∧ lookK kp39 3 = some [1, 2, 5, 6, 7, 8] ∧ lookK kp39 4 = some [1, 2, 5, 6, 7, 8, 20] ∧ lookK kp39 5 = some [1, 2, 5, 6, 7, 8] ∧ lookK kp39 6 = some [1, 2, 5, 6, 7, 8, 9, 10] ∧ lookK kp39 7 = some [1, 2, 5, 6, 7, 8, 9, 10, 32] ∧ lookK kp39 8 = some [1, 2, 5, 6, 7, 8, 9, 10, 44] ∧ lookK kp39 9 = some [1, 2, 5, 6, 7, 8, 9, 10] ∧ lookK kp39 10 = some [1, 2, 5, 6, 7, 8, 9, 10] ∧ lookK kp39 11 = some [1, 2, 5, 6, 7, 8, 9, 10, 11] ∧ lookK kp39 12 = some [1, 2, 5, 6, 7, 8, 9, 10, 11, 62] ∧ lookK kp39 13 = some [1, 2, 5, 6, 7, 8, 11] ∧ lookK kp39 14 = some [1, 2, 5, 6, 7, 8] ∧ lookK kp39 15 = some [4] := ⟨rfl, rfl, rfl, rfl, rfl, rfl, rfl, rfl, rfl, rfl, rfl, rfl, rfl, rfl, rfl, rfl⟩

/-- A light from its bounds, by numbers. -/
def lnX (y : List Int) (k : Nat) (a b : Int) : Int := if y.length = 0 then a else a + gI y (k % y.length) % (b - a + 1)
def lnF (l : La) (y : List Int) : Nat → Int
  | 0 => lnX y 0 (bl l 0) (bh l 0)
  | k + 1 => if dir l (k + 1) then lnX y (k + 1) (bl l (k + 1)) (min (bh l (k + 1)) (lnF l y k)) else lnX y (k + 1) (max (bl l (k + 1)) (lnF l y k)) (bh l (k + 1))
theorem lnX_in {y : List Int} {k : Nat} {a b : Int} (h : a ≤ b) : a ≤ lnX y k a b ∧ lnX y k a b ≤ b := by
  unfold lnX
  split
  · omega
  · have h1 := Int.emod_nonneg (gI y (k % y.length)) (show b - a + 1 ≠ 0 by omega)
    have h2 := Int.emod_lt_of_pos (gI y (k % y.length)) (show 0 < b - a + 1 by omega)
    omega
theorem ln_room {l : La} (hd : dbB l = false) (y : List Int) : ∀ k, k < l.we.length → bl l k ≤ lnF l y k ∧ lnF l y k ≤ bh l k
  | 0, h => lnX_in (dbB_no hd h)
  | k + 1, h => by
    have ih := ln_room hd y k (by omega)
    obtain ⟨r1, r2⟩ := walk_room (n := l.we.length) (dir := dir l) (L := L0 l) (H := H0 l) (f := lnF l y) (fun k hk => dbB_no hd hk) h ih
    have r1 : dir l (k + 1) = true → bl l (k + 1) ≤ min (bh l (k + 1)) (lnF l y k) := r1
    have r2 : dir l (k + 1) = false → max (bl l (k + 1)) (lnF l y k) ≤ bh l (k + 1) := r2
    rw [lnF]
    cases hdd : dir l (k + 1) with
    | true =>
      rw [if_pos rfl]
      have := lnX_in (y := y) (k := k + 1) (r1 hdd)
      omega
    | false =>
      rw [if_neg (by decide)]
      have := lnX_in (y := y) (k := k + 1) (r2 hdd)
      omega
theorem ln_true {l : La} (hd : dbB l = false) (y : List Int) : True' l.we.length (dir l) (L0 l) (H0 l) (lnF l y) := by
  refine walk_true (fun k hk => dbB_no hd hk) (fun k hk => ?_)
  show (if 0 < k ∧ dir l k = false then max (bl l k) (lnF l y (k - 1)) else bl l k) ≤ lnF l y k ∧ lnF l y k ≤ (if 0 < k ∧ dir l k = true then min (bh l k) (lnF l y (k - 1)) else bh l k)
  cases k with
  | zero =>
    rw [if_neg (by omega), if_neg (by omega)]
    exact lnX_in (dbB_no hd hk)
  | succ k =>
    have ih := ln_room hd y k (by omega)
    obtain ⟨r1, r2⟩ := walk_room (n := l.we.length) (dir := dir l) (L := L0 l) (H := H0 l) (f := lnF l y) (fun k hk => dbB_no hd hk) hk ih
    have r1 : dir l (k + 1) = true → bl l (k + 1) ≤ min (bh l (k + 1)) (lnF l y k) := r1
    have r2 : dir l (k + 1) = false → max (bl l (k + 1)) (lnF l y k) ≤ bh l (k + 1) := r2
    rw [show k + 1 - 1 = k from rfl, lnF]
    cases hdd : dir l (k + 1) with
    | true =>
      simp only [if_true, Nat.succ_pos, and_true, Bool.true_eq_false, and_false, if_false]
      exact lnX_in (r1 hdd)
    | false =>
      simp only [if_true, Nat.succ_pos, and_true, Bool.false_eq_true, and_false, if_false]
      exact lnX_in (r2 hdd)
/-- A list that is a true lantern. -/
theorem ct_of {l : La} (h0 : okLa l = 0) {f : Nat → Int} (ht : True' l.we.length (dir l) (L0 l) (H0 l) f) : ctE l (fl l.we.length f) = 0 := by
  have ok := okLa_n h0
  have g : ∀ k, k < l.we.length → gI (fl l.we.length f) k = f k := fun k hk => fl_get f hk
  exact ctE_0 h0 (fl_len _ _) (fun j hj => by
    have hP := (lay ok).lt hj
    have a := ht.l _ hP
    have a2 := ht.h _ hP
    rw [L0_at ok hj] at a
    rw [H0_at ok hj] at a2
    unfold badL
    rw [g _ hP, decide_eq_false (by omega), decide_eq_false (by omega)]; rfl) (fun j hj => by
    have m := ht.m j hj
    unfold badS
    rw [g _ (by omega), g _ hj]
    split
    · rename_i hdd
      rw [hdd, if_pos rfl] at m
      exact decide_eq_false (by omega)
    · rename_i hdd
      rw [if_neg hdd] at m
      exact decide_eq_false (by omega))
theorem gI_u8 {y : List Int} (h : U8 y) {i : Nat} (hi : i < y.length) : 0 ≤ gI y i ∧ gI y i < 256 := h _ (List.mem_of_getElem? (gI_lt hi))
theorem tmod_nat (k n : Nat) (h : n ≤ 1000) (h1 : 0 < n) : (k : Int).tmod n = ((k % n : Nat) : Int) := by
  rw [Int.tmod_eq_emod_of_nonneg (by omega), ← Int.natCast_emod]
/-- The last steps of a round. -/
theorem ln_step {y : List Int} {k : Nat} (hb : U8 y) (hn : 0 < y.length) {a b : Int} (a0 : 0 ≤ a) (ab : a ≤ b) (b2 : b ≤ 200) : wr .i64 (gI y (k % y.length)) = gI y (k % y.length) ∧ wr .i64 (b - a) = b - a ∧ wr .i64 (b - a + 1) = b - a + 1 ∧ ¬ b - a + 1 = 0 ∧ (gI y (k % y.length)).tmod (b - a + 1) = gI y (k % y.length) % (b - a + 1) ∧ wr .i64 (a + gI y (k % y.length) % (b - a + 1)) = lnX y k a b := by
  have hu := gI_u8 hb (Nat.mod_lt k hn)
  have h1 := Int.emod_nonneg (gI y (k % y.length)) (show b - a + 1 ≠ 0 by omega)
  have h2 := Int.emod_lt_of_pos (gI y (k % y.length)) (show 0 < b - a + 1 by omega)
  refine ⟨wr_in (by omega), wr_in (by omega), wr_in (by omega), by omega, ?_, ?_⟩
  · exact Int.tmod_eq_emod_of_nonneg hu.1
  · unfold lnX; rw [if_neg (by omega)]; exact wr_in (by omega)
set_option maxHeartbeats 8000000 in
theorem lan39 (l : La) (h0 : okLa l = 0) (hd : dbB l = false) (y : List Int) (hb : U8 y) (hn : y.length ≤ 100) : Pure Try.prog 39 [laV l, u8s y] (ints (fl l.we.length (lnF l y))) := by
  refine pure_wkE (bad := []) (kp := kp39) (X := tx) (nt := 83) (rs := [.tmp 4]) Try.func39 rfl rfl rfl rfl mo (by kernel_rfl) rfl rfl (fun hf => ?_)
  have ok := okLa_n h0
  obtain ⟨n2, n91⟩ := ok.n91
  have m2 := ok.m2
  have m11 := ok.m11
  have hwe := ok.we
  have hfa := ok.fa
  have hbo := bounds56 l ok
  have hroom := fun k hk => ln_room hd y k hk
  have hbl := fun k hk => bl_range ok (k := k) hk
  have hbh := fun k hk => bh_range ok (k := k) hk
  have hle := fun k hk => dbB_no hd (k := k) hk
  have hnB : ¬ y.length = 0 → (0 : Int) < y.length := fun h => by omega
  have p0 : (0 : Int) < l.an.length := by omega
  have g0 := gI_lt (l := l.an) (i := 0) (by omega)
  have hr0 := ok.a0 0 (by omega)
  unfold laV laC ints at hbo
  simp (config := { maxSteps := 2000000 }) only [go_sem, reduceIte, Nat.reduceEqDiff, Nat.reduceAdd, Nat.reduceLT, Nat.reduceLeDiff, Nat.reduceBEq, Nat.reduceMul, Nat.reduceSub, Nat.reduceDiv, Int.reduceNeg, Int.reduceLT, Int.reduceLE, Int.reduceEq, Int.reduceToNat, List.replicate_succ, lk39, laV, laC, u8s]
  refine aops_pure' (hbo) rfl rfl (by first | exact wk_refls _ | (repeat constructor)) ?_
  simp (config := { maxSteps := 2000000 }) only [go_sem, reduceIte, Nat.reduceEqDiff, Nat.reduceAdd, Nat.reduceLT, Nat.reduceLeDiff, Nat.reduceBEq, Nat.reduceMul, Nat.reduceSub, Nat.reduceDiv, Int.reduceNeg, Int.reduceLT, Int.reduceLE, Int.reduceEq, Int.reduceToNat, List.replicate_succ, lk39]
  refine goE_loop (bad := []) (kp := kp39) (fun k : Nat => { slots := [(1, u8s y), (2, .c (.ptr 0 0)), (5, ints (fl l.we.length (bl l))), (6, ints (fl l.we.length (bh l))), (7, .c (.own 1 ((fl k (lnF l y)).map iD))), (8, I k)], heap := [.cells (laC l), .grow k 1], marks := [] }) (fun k => k ≤ l.we.length) (fun k => l.we.length - k) 0 mo (by kernel_rfl) ?_ (Nat.zero_le _) ?_
  · refine Ent.trans (ent_own 7 1 rfl) ?_
    refine ent_weaken [] rfl rfl (Nat.zero_le _) rfl rfl ?_
    simp (config := { maxSteps := 2000000 }) only [go_sem, reduceIte, Nat.reduceEqDiff, Nat.reduceAdd, Nat.reduceLT, Nat.reduceLeDiff, Nat.reduceBEq, Nat.reduceMul, Nat.reduceSub, Nat.reduceDiv, Int.reduceNeg, Int.reduceLT, Int.reduceLE, Int.reduceEq, Int.reduceToNat, List.replicate_succ, lk39, fl, List.range_zero, laC, u8s, ints]
    all_goals first | exact .refl _ | exact ⟨.refl _, .refl _⟩ | exact ⟨.refl _, .refl _, .refl _⟩ | exact ⟨.refl _, _, rfl⟩ | exact ⟨_, rfl⟩ | exact ⟨.refl _, [], by simp⟩ | exact ⟨[], by simp⟩
  rintro k hk
  have fll := fl_len l.we.length (bl l)
  have flh := fl_len l.we.length (bh l)
  by_cases hlt : k < l.we.length
  case neg =>
    have hlt' : ¬ (k : Int) < l.we.length := by omega
    have ek : k = l.we.length := by omega
    subst ek
    simp (config := { maxSteps := 2000000 }) only [go_sem, reduceIte, Nat.reduceEqDiff, Nat.reduceAdd, Nat.reduceLT, Nat.reduceLeDiff, Nat.reduceBEq, Nat.reduceMul, Nat.reduceSub, Nat.reduceDiv, Int.reduceNeg, Int.reduceLT, Int.reduceLE, Int.reduceEq, Int.reduceToNat, List.replicate_succ, lk39, laC, u8s, ints, fll, hlt']
    all_goals first | exact .refl _ | exact ⟨.refl _, .refl _⟩ | exact ⟨.refl _, .refl _, .refl _⟩ | exact ⟨.refl _, _, rfl⟩ | exact ⟨_, rfl⟩ | exact ⟨.refl _, [], by simp⟩ | exact ⟨[], by simp⟩
  have hlt' : (k : Int) < l.we.length := by omega
  have v1 := gI_lt (l := fl l.we.length (bl l)) (i := k) (by rw [fll]; exact hlt)
  have v2 := gI_lt (l := fl l.we.length (bh l)) (i := k) (by rw [flh]; exact hlt)
  rw [fl_get _ hlt] at v1 v2
  have m1 : l.we.length - (k + 1) < l.we.length - k := by omega
  have es := fl_succ k (lnF l y)
  have ap : ((((fl k (lnF l y)).all fun x => (iD x).length == 1) && decide ((k + 1 + (k + 1) / 4 + 256) * 8 ≤ 281474976710656)) && decide (k ≤ 140737488355327)) = true := by
    simp [iD]; omega
  have el := fl_len k (lnF l y)
  have b1 := hbl k hlt
  have b2 := hbh k hlt
  have b3 := hle k hlt
  by_cases k0 : k = 0
  · subst k0
    have hlt' : (0 : Int) < l.we.length := by omega
    have ex : lnF l y 0 = lnX y 0 (bl l 0) (bh l 0) := rfl
    by_cases hy : y.length = 0
    · have e2 : lnX y 0 (bl l 0) (bh l 0) = (bl l 0) := by unfold lnX; rw [if_pos hy]
      have hy' : ¬ (0 : Int) < y.length := by omega
      rw [ex, e2] at es
      have w7 := wr_succ hlt (big91 n91)
      simp (config := { maxSteps := 2000000 }) only [go_sem, reduceIte, Nat.reduceEqDiff, Nat.reduceAdd, Nat.reduceLT, Nat.reduceLeDiff, Nat.reduceBEq, Nat.reduceMul, Nat.reduceSub, Nat.reduceDiv, Int.reduceNeg, Int.reduceLT, Int.reduceLE, Int.reduceEq, Int.reduceToNat, List.replicate_succ, lk39, laC, u8s, ints, fll, flh, hlt', nn, v1, v2, iD, el, hy', w7]
      refine ⟨by clear w7; first | exact ap | (simp; done) | (simp; omega), 0 + 1, hlt, m1, ?_⟩
      refine ent_weaken [] rfl rfl (Nat.zero_le _) rfl rfl ?_
      simp (config := { maxSteps := 2000000 }) only [go_sem, reduceIte, Nat.reduceEqDiff, Nat.reduceAdd, Nat.reduceLT, Nat.reduceLeDiff, Nat.reduceBEq, Nat.reduceMul, Nat.reduceSub, Nat.reduceDiv, Int.reduceNeg, Int.reduceLT, Int.reduceLE, Int.reduceEq, Int.reduceToNat, List.replicate_succ, lk39, es, List.map_append, iD, laC, u8s, ints]
      all_goals first | exact .refl _ | exact ⟨.refl _, .refl _⟩ | exact ⟨.refl _, .refl _, .refl _⟩ | exact ⟨.refl _, _, rfl⟩ | exact ⟨_, rfl⟩ | exact ⟨.refl _, [], by simp⟩ | exact ⟨[], by simp⟩
    · have hy' := hnB hy
      have hyp : 0 < y.length := by omega
      have q0 : (0 : Int).tmod y.length = ((0 % y.length : Nat) : Int) := tmod_nat 0 y.length (by omega) hyp
      have q1 : ((0 % y.length : Nat) : Int) < y.length := by have := Nat.mod_lt 0 hyp; clear q0; omega
      have q2 := gI_lt (l := y) (i := 0 % y.length) (Nat.mod_lt 0 hyp)
      have hyn : ¬ (y.length : Int) = 0 := by clear q0; omega
      obtain ⟨s1, s2, s3, s4, s5, s6⟩ := ln_step (k := 0) hb hyp (a := (bl l 0)) (b := (bh l 0)) (by clear q0; omega) (by clear q0; omega) (by clear q0; omega)
      rw [ex] at es
      generalize 0 % y.length = kk at *
      generalize lnX y 0 (bl l 0) (bh l 0) = xx at *
      have w7 := wr_succ hlt (big91 n91)
      simp (config := { maxSteps := 2000000 }) only [go_sem, reduceIte, Nat.reduceEqDiff, Nat.reduceAdd, Nat.reduceLT, Nat.reduceLeDiff, Nat.reduceBEq, Nat.reduceMul, Nat.reduceSub, Nat.reduceDiv, Int.reduceNeg, Int.reduceLT, Int.reduceLE, Int.reduceEq, Int.reduceToNat, List.replicate_succ, lk39, laC, u8s, ints, fll, flh, hlt', nn, v1, v2, iD, el, hy', hyn, q0, q1, q2, s1, s2, s3, s4, s5, s6, w7]
      refine ⟨by clear s1 s2 s3 s5 s6 w7; first | exact ap | (simp; done) | (simp; omega), 0 + 1, hlt, m1, ?_⟩
      refine ent_weaken [] rfl rfl (Nat.zero_le _) rfl rfl ?_
      simp (config := { maxSteps := 2000000 }) only [go_sem, reduceIte, Nat.reduceEqDiff, Nat.reduceAdd, Nat.reduceLT, Nat.reduceLeDiff, Nat.reduceBEq, Nat.reduceMul, Nat.reduceSub, Nat.reduceDiv, Int.reduceNeg, Int.reduceLT, Int.reduceLE, Int.reduceEq, Int.reduceToNat, List.replicate_succ, lk39, es, List.map_append, iD, laC, u8s, ints]
      all_goals first | exact .refl _ | exact ⟨.refl _, .refl _⟩ | exact ⟨.refl _, .refl _, .refl _⟩ | exact ⟨.refl _, _, rfl⟩ | exact ⟨_, rfl⟩ | exact ⟨.refl _, [], by simp⟩ | exact ⟨[], by simp⟩
  obtain ⟨j, rfl⟩ : ∃ j, k = j + 1 := ⟨k - 1, by omega⟩
  have hj0 : (0 : Int) < ((j + 1 : Nat) : Int) := by omega
  have j1000 : j < 1000 := by omega
  have hjl : (j : Int) < ((j + 1 : Nat) : Int) := by omega
  have gj := gI_lt (l := fl (j + 1) (lnF l y)) (i := j) (by rw [fl_len]; omega)
  rw [fl_get _ (by omega)] at gj
  have hrj := hroom j (by omega)
  have bj1 := hbl j (by omega)
  have bj2 := hbh j (by omega)
  have hdg : gI l.an 0 + ((j + 1 : Nat) : Int) ≤ gI l.an (l.an.length - 1) := by omega
  have hgap := gap53 l (gI l.an 0 + ((j + 1 : Nat) : Int)) m2 m11 hdg
  obtain ⟨gi, q1, q2, q3⟩ := (lay ok).gap (k := j + 1) (by omega) hlt
  have hgl : gapN l (gI l.an 0 + ((j + 1 : Nat) : Int)) < l.fa.length := by
    have a := ok.p (i := gi) (by omega)
    have b := ok.p (i := gi + 1) q1
    rw [gap_eq ok (i := gi) q1 (by omega) (by omega)]; omega
  have hgl' : ((gapN l (gI l.an 0 + ((j + 1 : Nat) : Int)) : Nat) : Int) < l.fa.length := by omega
  have gf := gB_lt hgl
  have hdd : gB l.fa (gapN l (gI l.an 0 + ((j + 1 : Nat) : Int))) = dir l (j + 1) := rfl
  rw [hdd] at gf
  generalize gapN l (gI l.an 0 + ((j + 1 : Nat) : Int)) = gq at *
  obtain ⟨r1, r2⟩ := walk_room (n := l.we.length) (dir := dir l) (L := L0 l) (H := H0 l) (f := lnF l y) (fun k hk => dbB_no hd hk) hlt hrj
  have r1 : dir l (j + 1) = true → bl l (j + 1) ≤ min (bh l (j + 1)) (lnF l y j) := r1
  have r2 : dir l (j + 1) = false → max (bl l (j + 1)) (lnF l y j) ≤ bh l (j + 1) := r2
  have er : lnF l y (j + 1) = if dir l (j + 1) then lnX y (j + 1) (bl l (j + 1)) (min (bh l (j + 1)) (lnF l y j)) else lnX y (j + 1) (max (bl l (j + 1)) (lnF l y j)) (bh l (j + 1)) := rfl
  unfold laV laC at hgap
  have wg : wr .i64 (gI l.an 0 + ((j + 1 : Nat) : Int)) = gI l.an 0 + ((j + 1 : Nat) : Int) := wr_in (by omega)
  have wp : wr .i64 (((j + 1 : Nat) : Int) - 1) = (j : Int) := wr_pred' j j1000
  simp (config := { maxSteps := 2000000 }) only [go_sem, reduceIte, Nat.reduceEqDiff, Nat.reduceAdd, Nat.reduceLT, Nat.reduceLeDiff, Nat.reduceBEq, Nat.reduceMul, Nat.reduceSub, Nat.reduceDiv, Int.reduceNeg, Int.reduceLT, Int.reduceLE, Int.reduceEq, Int.reduceToNat, List.replicate_succ, lk39, laC, u8s, ints, fll, flh, hlt', nn, v1, v2, iD, hj0, p0, g0, wg]
  refine dops_pure' (hgap) rfl rfl (by first | exact wk_refls _ | (repeat constructor)) (by kernel_rfl) ?_
  clear wg wp
  cases hdir : dir l (j + 1) with
  | true =>
    have r1 := r1 hdir
    rw [hdir, if_pos rfl] at er
    rw [hdir] at gf
    have wp : wr .i64 (((j + 1 : Nat) : Int) - 1) = (j : Int) := wr_pred' j j1000
    have el := el
    have ex : lnF l y (j + 1) = lnX y (j + 1) (bl l (j + 1)) (min (bh l (j + 1)) (lnF l y j)) := er
    by_cases hy : y.length = 0
    · have e2 : lnX y (j + 1) (bl l (j + 1)) (min (bh l (j + 1)) (lnF l y j)) = (bl l (j + 1)) := by unfold lnX; rw [if_pos hy]
      have hy' : ¬ (0 : Int) < y.length := by clear wp ; omega
      rw [ex, e2] at es
      have w7 := wr_succ hlt (big91 n91)
      simp (config := { maxSteps := 2000000 }) only [go_sem, reduceIte, Nat.reduceEqDiff, Nat.reduceAdd, Nat.reduceLT, Nat.reduceLeDiff, Nat.reduceBEq, Nat.reduceMul, Nat.reduceSub, Nat.reduceDiv, Int.reduceNeg, Int.reduceLT, Int.reduceLE, Int.reduceEq, Int.reduceToNat, List.replicate_succ, lk39, bD, nn, hgl', gf, wp, el, hjl, gj, iD, minL1, maxL1, v1, v2, hy', w7]
      refine ⟨by clear wp w7; first | exact ap | (simp; done) | (simp; omega), (j + 1) + 1, hlt, m1, ?_⟩
      refine ent_weaken [] rfl rfl (Nat.zero_le _) rfl rfl ?_
      simp (config := { maxSteps := 2000000 }) only [go_sem, reduceIte, Nat.reduceEqDiff, Nat.reduceAdd, Nat.reduceLT, Nat.reduceLeDiff, Nat.reduceBEq, Nat.reduceMul, Nat.reduceSub, Nat.reduceDiv, Int.reduceNeg, Int.reduceLT, Int.reduceLE, Int.reduceEq, Int.reduceToNat, List.replicate_succ, lk39, es, List.map_append, iD, laC, u8s, ints]
      all_goals first | exact .refl _ | exact ⟨.refl _, .refl _⟩ | exact ⟨.refl _, .refl _, .refl _⟩ | exact ⟨.refl _, _, rfl⟩ | exact ⟨_, rfl⟩ | exact ⟨.refl _, [], by simp⟩ | exact ⟨[], by simp⟩
    · have hy' := hnB hy
      have hyp : 0 < y.length := by clear wp ; omega
      have q0 := tmod_nat (j + 1) y.length (by clear wp ; omega) hyp
      have q1 : (((j + 1) % y.length : Nat) : Int) < y.length := by have := Nat.mod_lt (j + 1) hyp; clear q0; clear wp ; omega
      have q2 := gI_lt (l := y) (i := (j + 1) % y.length) (Nat.mod_lt (j + 1) hyp)
      have hyn : ¬ (y.length : Int) = 0 := by clear q0; clear wp ; omega
      obtain ⟨s1, s2, s3, s4, s5, s6⟩ := ln_step (k := (j + 1)) hb hyp (a := (bl l (j + 1))) (b := (min (bh l (j + 1)) (lnF l y j))) (by clear q0; clear wp ; omega) (by clear q0; clear wp ; omega) (by clear q0; clear wp ; omega)
      rw [ex] at es
      generalize (j + 1) % y.length = kk at *
      generalize lnX y (j + 1) (bl l (j + 1)) (min (bh l (j + 1)) (lnF l y j)) = xx at *
      have w7 := wr_succ hlt (big91 n91)
      simp (config := { maxSteps := 2000000 }) only [go_sem, reduceIte, Nat.reduceEqDiff, Nat.reduceAdd, Nat.reduceLT, Nat.reduceLeDiff, Nat.reduceBEq, Nat.reduceMul, Nat.reduceSub, Nat.reduceDiv, Int.reduceNeg, Int.reduceLT, Int.reduceLE, Int.reduceEq, Int.reduceToNat, List.replicate_succ, lk39, bD, nn, hgl', gf, wp, el, hjl, gj, iD, minL1, maxL1, v1, v2, hy', hyn, q0, q1, q2, s1, s2, s3, s4, s5, s6, w7]
      refine ⟨by clear wp s1 s2 s3 s5 s6 w7; first | exact ap | (simp; done) | (simp; omega), (j + 1) + 1, hlt, m1, ?_⟩
      refine ent_weaken [] rfl rfl (Nat.zero_le _) rfl rfl ?_
      simp (config := { maxSteps := 2000000 }) only [go_sem, reduceIte, Nat.reduceEqDiff, Nat.reduceAdd, Nat.reduceLT, Nat.reduceLeDiff, Nat.reduceBEq, Nat.reduceMul, Nat.reduceSub, Nat.reduceDiv, Int.reduceNeg, Int.reduceLT, Int.reduceLE, Int.reduceEq, Int.reduceToNat, List.replicate_succ, lk39, es, List.map_append, iD, laC, u8s, ints]
      all_goals first | exact .refl _ | exact ⟨.refl _, .refl _⟩ | exact ⟨.refl _, .refl _, .refl _⟩ | exact ⟨.refl _, _, rfl⟩ | exact ⟨_, rfl⟩ | exact ⟨.refl _, [], by simp⟩ | exact ⟨[], by simp⟩
  | false =>
    have r2 := r2 hdir
    rw [hdir, if_neg (by decide)] at er
    rw [hdir] at gf
    have wp : wr .i64 (((j + 1 : Nat) : Int) - 1) = (j : Int) := wr_pred' j j1000
    have ex : lnF l y (j + 1) = lnX y (j + 1) (max (bl l (j + 1)) (lnF l y j)) (bh l (j + 1)) := er
    by_cases hy : y.length = 0
    · have e2 : lnX y (j + 1) (max (bl l (j + 1)) (lnF l y j)) (bh l (j + 1)) = (max (bl l (j + 1)) (lnF l y j)) := by unfold lnX; rw [if_pos hy]
      have hy' : ¬ (0 : Int) < y.length := by clear wp ; omega
      rw [ex, e2] at es
      have w7 := wr_succ hlt (big91 n91)
      simp (config := { maxSteps := 2000000 }) only [go_sem, reduceIte, Nat.reduceEqDiff, Nat.reduceAdd, Nat.reduceLT, Nat.reduceLeDiff, Nat.reduceBEq, Nat.reduceMul, Nat.reduceSub, Nat.reduceDiv, Int.reduceNeg, Int.reduceLT, Int.reduceLE, Int.reduceEq, Int.reduceToNat, List.replicate_succ, lk39, bD, nn, hgl', gf, wp, el, hjl, gj, iD, minL1, maxL1, v1, v2, hy', w7]
      refine ⟨by clear wp w7; first | exact ap | (simp; done) | (simp; omega), (j + 1) + 1, hlt, m1, ?_⟩
      refine ent_weaken [] rfl rfl (Nat.zero_le _) rfl rfl ?_
      simp (config := { maxSteps := 2000000 }) only [go_sem, reduceIte, Nat.reduceEqDiff, Nat.reduceAdd, Nat.reduceLT, Nat.reduceLeDiff, Nat.reduceBEq, Nat.reduceMul, Nat.reduceSub, Nat.reduceDiv, Int.reduceNeg, Int.reduceLT, Int.reduceLE, Int.reduceEq, Int.reduceToNat, List.replicate_succ, lk39, es, List.map_append, iD, laC, u8s, ints]
      all_goals first | exact .refl _ | exact ⟨.refl _, .refl _⟩ | exact ⟨.refl _, .refl _, .refl _⟩ | exact ⟨.refl _, _, rfl⟩ | exact ⟨_, rfl⟩ | exact ⟨.refl _, [], by simp⟩ | exact ⟨[], by simp⟩
    · have hy' := hnB hy
      have hyp : 0 < y.length := by clear wp ; omega
      have q0 := tmod_nat (j + 1) y.length (by clear wp ; omega) hyp
      have q1 : (((j + 1) % y.length : Nat) : Int) < y.length := by have := Nat.mod_lt (j + 1) hyp; clear q0; clear wp ; omega
      have q2 := gI_lt (l := y) (i := (j + 1) % y.length) (Nat.mod_lt (j + 1) hyp)
      have hyn : ¬ (y.length : Int) = 0 := by clear q0; clear wp ; omega
      obtain ⟨s1, s2, s3, s4, s5, s6⟩ := ln_step (k := (j + 1)) hb hyp (a := (max (bl l (j + 1)) (lnF l y j))) (b := (bh l (j + 1))) (by clear q0; clear wp ; omega) (by clear q0; clear wp ; omega) (by clear q0; clear wp ; omega)
      rw [ex] at es
      generalize (j + 1) % y.length = kk at *
      generalize lnX y (j + 1) (max (bl l (j + 1)) (lnF l y j)) (bh l (j + 1)) = xx at *
      have w7 := wr_succ hlt (big91 n91)
      simp (config := { maxSteps := 2000000 }) only [go_sem, reduceIte, Nat.reduceEqDiff, Nat.reduceAdd, Nat.reduceLT, Nat.reduceLeDiff, Nat.reduceBEq, Nat.reduceMul, Nat.reduceSub, Nat.reduceDiv, Int.reduceNeg, Int.reduceLT, Int.reduceLE, Int.reduceEq, Int.reduceToNat, List.replicate_succ, lk39, bD, nn, hgl', gf, wp, el, hjl, gj, iD, minL1, maxL1, v1, v2, hy', hyn, q0, q1, q2, s1, s2, s3, s4, s5, s6, w7]
      refine ⟨by clear wp s1 s2 s3 s5 s6 w7; first | exact ap | (simp; done) | (simp; omega), (j + 1) + 1, hlt, m1, ?_⟩
      refine ent_weaken [] rfl rfl (Nat.zero_le _) rfl rfl ?_
      simp (config := { maxSteps := 2000000 }) only [go_sem, reduceIte, Nat.reduceEqDiff, Nat.reduceAdd, Nat.reduceLT, Nat.reduceLeDiff, Nat.reduceBEq, Nat.reduceMul, Nat.reduceSub, Nat.reduceDiv, Int.reduceNeg, Int.reduceLT, Int.reduceLE, Int.reduceEq, Int.reduceToNat, List.replicate_succ, lk39, es, List.map_append, iD, laC, u8s, ints]
      all_goals first | exact .refl _ | exact ⟨.refl _, .refl _⟩ | exact ⟨.refl _, .refl _, .refl _⟩ | exact ⟨.refl _, _, rfl⟩ | exact ⟨_, rfl⟩ | exact ⟨.refl _, [], by simp⟩ | exact ⟨[], by simp⟩
end Go.Proofs.Ytliamojogmlgjaa
