/- Zones: a true lantern by numbers. -/
import Derived.Test.YtfgdbeijjbijnaaGreatDoorHG23
import Derived.Test.YtfgdbeijjbijnaaGreatDoorHG21
import Derived.Test.YtfgdbeijjbijnaaGreatDoorHG20
set_option linter.unusedSimpArgs false
set_option linter.unusedVariables false
set_option linter.unusedSimpArgs false
set_option linter.unusedVariables false
set_option maxRecDepth 100000
namespace Go.Proofs.YtfgdbeijjbijnaaGreatDoor.Zo
open Go Go.Abs Go.Proofs
def Fj : List (Nat × List Nat) := [(0, [1, 2]), (1, [1, 2, 5, 6]), (2, [1, 2, 5, 6, 7]), (3, [1, 2, 5, 6, 7, 8]), (4, [1, 2, 5, 6, 7, 8, 20]), (5, [1, 2, 5, 6, 7, 8]), (6, [1, 2, 5, 6, 7, 8, 9, 10]), (7, [1, 2, 5, 6, 7, 8, 9, 10, 32]), (8, [1, 2, 5, 6, 7, 8, 9, 10, 44]), (9, [1, 2, 5, 6, 7, 8, 9, 10]), (10, [1, 2, 5, 6, 7, 8, 9, 10]), (11, [1, 2, 5, 6, 7, 8, 9, 10, 11]), (12, [1, 2, 5, 6, 7, 8, 9, 10, 11, 62]), (13, [1, 2, 5, 6, 7, 8, 11]), (14, [1, 2, 5, 6, 7, 8]), (15, [4])]
theorem FK : lookK Fj 0 = some [1, 2] ∧ lookK Fj 1 = some [1, 2, 5, 6] ∧ lookK Fj 2 = some [1, 2, 5, 6, 7] ∧ lookK Fj 3 = some [1, 2, 5, 6, 7, 8] ∧ lookK Fj 4 = some [1, 2, 5, 6, 7, 8, 20] ∧ lookK Fj 5 = some [1, 2, 5, 6, 7, 8] ∧ lookK Fj 6 = some [1, 2, 5, 6, 7, 8, 9, 10] ∧ lookK Fj 7 = some [1, 2, 5, 6, 7, 8, 9, 10, 32] ∧ lookK Fj 8 = some [1, 2, 5, 6, 7, 8, 9, 10, 44] ∧ lookK Fj 9 = some [1, 2, 5, 6, 7, 8, 9, 10] ∧ lookK Fj 10 = some [1, 2, 5, 6, 7, 8, 9, 10] ∧ lookK Fj 11 = some [1, 2, 5, 6, 7, 8, 9, 10, 11] ∧ lookK Fj 12 = some [1, 2, 5, 6, 7, 8, 9, 10, 11, 62] ∧ lookK Fj 13 = some [1, 2, 5, 6, 7, 8, 11] ∧ lookK Fj 14 = some [1, 2, 5, 6, 7, 8] ∧ lookK Fj 15 = some [4] := ⟨rfl, rfl, rfl, rfl, rfl, rfl, rfl, rfl, rfl, rfl, rfl, rfl, rfl, rfl, rfl, rfl⟩
def u8s (l : List Int) : V := .c (.d (.sl (l.map fun b => [.int .u8 b])))
def U8 (l : List Int) : Prop := ∀ x ∈ l, 0 ≤ x ∧ x < 256
theorem aFO (n : Nat) (f : Nat → Int) : fl (n + 1) f = fl n f ++ [f n] := by simp [fl, List.range_succ]
def lnX (y : List Int) (k : Nat) (a b : Int) : Int := if y.length = 0 then a else a + gI y (k % y.length) % (b - a + 1)
def lnF (l : La) (y : List Int) : Nat → Int
 | 0 => lnX y 0 (bl l 0) (bh l 0)
 | k + 1 => if dir l (k + 1) then lnX y (k + 1) (bl l (k + 1)) (min (bh l (k + 1)) (lnF l y k)) else lnX y (k + 1) (max (bl l (k + 1)) (lnF l y k)) (bh l (k + 1))
theorem So {y : List Int} {k : Nat} {a b : Int} (h : a ≤ b) : a ≤ lnX y k a b ∧ lnX y k a b ≤ b := by
 unfold lnX
 split
 ·omega
 ·have h1 := Int.emod_nonneg (gI y (k % y.length)) (show b - a + 1 ≠ 0 by omega)
  have h2 := Int.emod_lt_of_pos (gI y (k % y.length)) (show 0 < b - a + 1 by omega)
  omega
theorem ln_room {l : La} (hd : dbB l = false) (y : List Int) : ∀ k, k < l.we.length → bl l k ≤ lnF l y k ∧ lnF l y k ≤ bh l k
 | 0, h => So (OE hd h)
 | k + 1, h => by
  have ih := ln_room hd y k (by omega)
  obtain ⟨r1, r2⟩ := M3 (n := l.we.length) (dir := dir l) (L := L0 l) (H := H0 l) (f := lnF l y) (fun k hk => OE hd hk) h ih
  have r1 : dir l (k + 1) = true → bl l (k + 1) ≤ min (bh l (k + 1)) (lnF l y k) := r1
  have r2 : dir l (k + 1) = false → max (bl l (k + 1)) (lnF l y k) ≤ bh l (k + 1) := r2
  rw [lnF]
  cases hdd : dir l (k + 1) with
  | true =>
   rw [if_pos rfl]
   have := So (y := y) (k := k + 1) (r1 hdd)
   omega
  | false =>
   rw [if_neg (by decide)]
   have := So (y := y) (k := k + 1) (r2 hdd)
   omega
theorem aP6 {y : List Int} (h : U8 y) {i : Nat} (hi : i < y.length) : 0 ≤ gI y i ∧ gI y i < 256 := h _ (List.mem_of_getElem? (gI_lt hi))
theorem K8 (k n : Nat) (h : n ≤ 1000) (h1 : 0 < n) : (k : Int).tmod n = ((k % n : Nat) : Int) := by
 rw [Int.tmod_eq_emod_of_nonneg (by omega), ← Int.natCast_emod]
theorem ON {y : List Int} {k : Nat} (hb : U8 y) (hn : 0 < y.length) {a b : Int} (a0 : 0 ≤ a) (ab : a ≤ b) (b2 : b ≤ 200) : wr .i64 (gI y (k % y.length)) = gI y (k % y.length) ∧ wr .i64 (b - a) = b - a ∧ wr .i64 (b - a + 1) = b - a + 1 ∧ ¬ b - a + 1 = 0 ∧ (gI y (k % y.length)).tmod (b - a + 1) = gI y (k % y.length) % (b - a + 1) ∧ wr .i64 (a + gI y (k % y.length) % (b - a + 1)) = lnX y k a b := by
 have hu := aP6 hb (Nat.mod_lt k hn)
 have h1 := Int.emod_nonneg (gI y (k % y.length)) (show b - a + 1 ≠ 0 by omega)
 have h2 := Int.emod_lt_of_pos (gI y (k % y.length)) (show 0 < b - a + 1 by omega)
 refine ⟨CO (by omega), CO (by omega), CO (by omega), by omega, ?_, ?_⟩
 ·exact Int.tmod_eq_emod_of_nonneg hu.1
 ·unfold lnX; rw [if_neg (by omega)]; exact CO (by omega)
set_option maxHeartbeats 8000000 in
theorem lan39 (l : La) (h0 : CF l = 0) (hd : dbB l = false) (y : List Int) (hb : U8 y) (hn : y.length ≤ 100) : BA Tryz.prog 25 [laV l, u8s y] (ints (fl l.we.length (lnF l y))) := by
 refine pure_wkE (bad := []) (kp := Fj) (X := tx) (nt := 83) (rs := [.tmp 4]) Tryz.func25 rfl rfl rfl rfl mo (by kernel_rfl) rfl rfl (fun hf => ?_)
 have ok := okLa_n h0
 obtain ⟨n2, n91⟩ := ok.n91
 have m2 := ok.m2
 have m11 := ok.m11
 have hwe := ok.we
 have hfa := ok.fa
 have hbo := Qo l ok
 have hroom := fun k hk => ln_room hd y k hk
 have hbl := fun k hk => aDo ok (k := k) hk
 have hbh := fun k hk => aDp ok (k := k) hk
 have hle := fun k hk => OE hd (k := k) hk
 have hnB : ¬ y.length = 0 → (0 : Int) < y.length := fun h => by omega
 have p0 : (0 : Int) < l.an.length := by omega
 have g0 := gI_lt (l := l.an) (i := 0) (by omega)
 have hr0 := ok.a0 0 (by omega)
 unfold laV laC ints at hbo
 simp (maxSteps := 2000000) only [go_sem, reduceIte, Nat.reduceEqDiff, Nat.reduceAdd, FK, laV, laC, u8s]
 refine Aj (hbo) rfl rfl (by first | exact wk_refls _ | (repeat constructor)) ?_
 simp (maxSteps := 2000000) only [go_sem, reduceIte, Nat.reduceEqDiff, FK]
 refine goE_loop (bad := []) (kp := Fj) (fun k : Nat => { slots := [(1, u8s y), (2, .c (.ptr 0 0)), (5, ints (fl l.we.length (bl l))), (6, ints (fl l.we.length (bh l))), (7, .c (.own 1 ((fl k (lnF l y)).map iD))), (8, I k)], heap := [.cells (laC l), .grow k 1], marks := [] }) (fun k => k ≤ l.we.length) (fun k => l.we.length - k) 0 mo (by kernel_rfl) ?_ (Nat.zero_le _) ?_
 ·refine Ent.trans (ent_own 7 1 rfl) ?_
  refine ent_weaken [] rfl rfl (Nat.zero_le _) rfl rfl ?_
  simp (maxSteps := 2000000) only [go_sem, reduceIte, Nat.reduceEqDiff, Nat.reduceAdd, Nat.reduceLT, FK, fl, List.range_zero, laC, u8s, ints]
  all_goals first | exact .refl _ | exact ⟨.refl _, .refl _⟩ | exact ⟨.refl _, .refl _, .refl _⟩ | exact ⟨.refl _, _, rfl⟩ | exact ⟨_, rfl⟩ | exact ⟨.refl _, [], by simp⟩ | exact ⟨[], by simp⟩
 rintro k hk
 have fll := fl_len l.we.length (bl l)
 have flh := fl_len l.we.length (bh l)
 by_cases hlt : k < l.we.length
 case neg =>
  have hlt' : ¬ (k : Int) < l.we.length := by omega
  have ek : k = l.we.length := by omega
  subst ek
  simp (maxSteps := 2000000) only [go_sem, reduceIte, Nat.reduceEqDiff, Nat.reduceAdd, FK, laC, u8s, ints, fll, hlt']
  all_goals first | exact .refl _ | exact ⟨.refl _, .refl _⟩ | exact ⟨.refl _, .refl _, .refl _⟩ | exact ⟨.refl _, _, rfl⟩ | exact ⟨_, rfl⟩ | exact ⟨.refl _, [], by simp⟩ | exact ⟨[], by simp⟩
 have hlt' : (k : Int) < l.we.length := by omega
 have v1 := gI_lt (l := fl l.we.length (bl l)) (i := k) (by rw [fll]; exact hlt)
 have v2 := gI_lt (l := fl l.we.length (bh l)) (i := k) (by rw [flh]; exact hlt)
 rw [fl_get _ hlt] at v1 v2
 have m1 : l.we.length - (k + 1) < l.we.length - k := by omega
 have es := aFO k (lnF l y)
 have ap : ((((fl k (lnF l y)).all fun x => (iD x).length == 1) && decide ((k + 1 + (k + 1) / 4 + 256) * 8 ≤ 281474976710656)) && decide (k ≤ 140737488355327)) = true := by
  simp [iD]; omega
 have el := fl_len k (lnF l y)
 have b1 := hbl k hlt
 have b2 := hbh k hlt
 have b3 := hle k hlt
 by_cases k0 : k = 0
 ·subst k0
  have hlt' : (0 : Int) < l.we.length := by omega
  have ex : lnF l y 0 = lnX y 0 (bl l 0) (bh l 0) := rfl
  by_cases hy : y.length = 0
  ·have e2 : lnX y 0 (bl l 0) (bh l 0) = (bl l 0) := by unfold lnX; rw [if_pos hy]
   have hy' : ¬ (0 : Int) < y.length := by omega
   rw [ex, e2] at es
   have w7 := An hlt (K5 n91)
   simp (maxSteps := 2000000) only [go_sem, reduceIte, Nat.reduceEqDiff, Nat.reduceAdd, Nat.reduceLT, Nat.reduceLeDiff, Nat.reduceBEq, Nat.reduceMul, Nat.reduceDiv, Int.reduceLT, Int.reduceLE, Int.reduceToNat, FK, laC, u8s, ints, fll, flh, hlt', nn, v1, v2, iD, el, hy', w7]
   refine ⟨by clear w7; first | exact ap | (simp; done) | (simp; omega), 0 + 1, hlt, m1, ?_⟩
   refine ent_weaken [] rfl rfl (Nat.zero_le _) rfl rfl ?_
   simp (maxSteps := 2000000) only [go_sem, reduceIte, Nat.reduceEqDiff, Nat.reduceAdd, Nat.reduceLT, FK, es, List.map_append, iD, laC, u8s, ints]
   all_goals first | exact .refl _ | exact ⟨.refl _, .refl _⟩ | exact ⟨.refl _, .refl _, .refl _⟩ | exact ⟨.refl _, _, rfl⟩ | exact ⟨_, rfl⟩ | exact ⟨.refl _, [], by simp⟩ | exact ⟨[], by simp⟩
  ·have hy' := hnB hy
   have hyp : 0 < y.length := by omega
   have q0 : (0 : Int).tmod y.length = ((0 % y.length : Nat) : Int) := K8 0 y.length (by omega) hyp
   have q1 : ((0 % y.length : Nat) : Int) < y.length := by have := Nat.mod_lt 0 hyp; clear q0; omega
   have q2 := gI_lt (l := y) (i := 0 % y.length) (Nat.mod_lt 0 hyp)
   have hyn : ¬ (y.length : Int) = 0 := by clear q0; omega
   obtain ⟨s1, s2, s3, s4, s5, s6⟩ := ON (k := 0) hb hyp (a := (bl l 0)) (b := (bh l 0)) (by clear q0; omega) (by clear q0; omega) (by clear q0; omega)
   rw [ex] at es
   generalize 0 % y.length = kk at *
   generalize lnX y 0 (bl l 0) (bh l 0) = xx at *
   have w7 := An hlt (K5 n91)
   simp (maxSteps := 2000000) only [go_sem, reduceIte, Nat.reduceEqDiff, Nat.reduceAdd, Nat.reduceLT, Nat.reduceLeDiff, Nat.reduceBEq, Nat.reduceMul, Nat.reduceDiv, Int.reduceLT, Int.reduceLE, Int.reduceToNat, FK, laC, u8s, ints, fll, flh, hlt', nn, v1, v2, iD, el, hy', hyn, q0, q1, q2, s1, s2, s3, s4, s5, s6, w7]
   refine ⟨by clear s1 s2 s3 s5 s6 w7; first | exact ap | (simp; done) | (simp; omega), 0 + 1, hlt, m1, ?_⟩
   refine ent_weaken [] rfl rfl (Nat.zero_le _) rfl rfl ?_
   simp (maxSteps := 2000000) only [go_sem, reduceIte, Nat.reduceEqDiff, Nat.reduceAdd, Nat.reduceLT, FK, es, List.map_append, iD, laC, u8s, ints]
   all_goals first | exact .refl _ | exact ⟨.refl _, .refl _⟩ | exact ⟨.refl _, .refl _, .refl _⟩ | exact ⟨.refl _, _, rfl⟩ | exact ⟨_, rfl⟩ | exact ⟨.refl _, [], by simp⟩ | exact ⟨[], by simp⟩
 obtain ⟨j, rfl⟩ : ∃ j, k = j + 1 := ⟨k - 1, by omega⟩
 have hj0 : (0 : Int) < ((j + 1 : Nat) : Int) := by omega
 have j1000 : j < 1000 := by omega
 have hjl : (j : Int) < ((j + 1 : Nat) : Int) := by omega
 have gj := gI_lt (l := fl (j + 1) (lnF l y)) (i := j) (by rw [fl_len]; omega)
 rw [fl_get _ (by omega)] at gj
 have hrj := hroom j (by omega)
 have bj1 := hbl j (by omega)
 have bj2 := hbh j (by omega)
 have hdg : gI l.an 0 + ((j + 1 : Nat) : Int) ≤ gI l.an (l.an.length - 1) := by omega
 have hgap := aF8 l (gI l.an 0 + ((j + 1 : Nat) : Int)) m2 m11 hdg
 obtain ⟨gi, q1, q2, q3⟩ := (lay ok).gap (k := j + 1) (by omega) hlt
 have hgl : E6 l (gI l.an 0 + ((j + 1 : Nat) : Int)) < l.fa.length := by
  have a := ok.p (i := gi) (by omega)
  have b := ok.p (i := gi + 1) q1
  rw [OC ok (i := gi) q1 (by omega) (by omega)]; omega
 have hgl' : ((E6 l (gI l.an 0 + ((j + 1 : Nat) : Int)) : Nat) : Int) < l.fa.length := by omega
 have gf := M5 hgl
 have hdd : gB l.fa (E6 l (gI l.an 0 + ((j + 1 : Nat) : Int))) = dir l (j + 1) := rfl
 rw [hdd] at gf
 generalize E6 l (gI l.an 0 + ((j + 1 : Nat) : Int)) = gq at *
 obtain ⟨r1, r2⟩ := M3 (n := l.we.length) (dir := dir l) (L := L0 l) (H := H0 l) (f := lnF l y) (fun k hk => OE hd hk) hlt hrj
 have r1 : dir l (j + 1) = true → bl l (j + 1) ≤ min (bh l (j + 1)) (lnF l y j) := r1
 have r2 : dir l (j + 1) = false → max (bl l (j + 1)) (lnF l y j) ≤ bh l (j + 1) := r2
 have er : lnF l y (j + 1) = if dir l (j + 1) then lnX y (j + 1) (bl l (j + 1)) (min (bh l (j + 1)) (lnF l y j)) else lnX y (j + 1) (max (bl l (j + 1)) (lnF l y j)) (bh l (j + 1)) := rfl
 unfold laV laC at hgap
 have wg : wr .i64 (gI l.an 0 + ((j + 1 : Nat) : Int)) = gI l.an 0 + ((j + 1 : Nat) : Int) := CO (by omega)
 have wp : wr .i64 (((j + 1 : Nat) : Int) - 1) = (j : Int) := HM j j1000
 simp (maxSteps := 2000000) only [go_sem, reduceIte, Nat.reduceEqDiff, Nat.reduceAdd, Nat.reduceLeDiff, Nat.reduceBEq, Int.reduceLE, Int.reduceToNat, FK, laC, u8s, ints, fll, flh, hlt', nn, v1, v2, iD, hj0, p0, g0, wg]
 refine D1 (hgap) rfl rfl (by first | exact wk_refls _ | (repeat constructor)) (by kernel_rfl) ?_
 clear wg wp
 cases hdir : dir l (j + 1) with
 | true =>
  have r1 := r1 hdir
  rw [hdir, if_pos rfl] at er
  rw [hdir] at gf
  have wp : wr .i64 (((j + 1 : Nat) : Int) - 1) = (j : Int) := HM j j1000
  have el := el
  have ex : lnF l y (j + 1) = lnX y (j + 1) (bl l (j + 1)) (min (bh l (j + 1)) (lnF l y j)) := er
  by_cases hy : y.length = 0
  ·have e2 : lnX y (j + 1) (bl l (j + 1)) (min (bh l (j + 1)) (lnF l y j)) = (bl l (j + 1)) := by unfold lnX; rw [if_pos hy]
   have hy' : ¬ (0 : Int) < y.length := by clear wp ; omega
   rw [ex, e2] at es
   have w7 := An hlt (K5 n91)
   simp (maxSteps := 2000000) only [go_sem, reduceIte, Nat.reduceEqDiff, Nat.reduceAdd, Nat.reduceLT, Nat.reduceLeDiff, Nat.reduceBEq, Nat.reduceMul, FK, bD, nn, hgl', gf, wp, el, hjl, gj, iD, HL, HK, v1, v2, hy', w7]
   refine ⟨by clear wp w7; first | exact ap | (simp; done) | (simp; omega), (j + 1) + 1, hlt, m1, ?_⟩
   refine ent_weaken [] rfl rfl (Nat.zero_le _) rfl rfl ?_
   simp (maxSteps := 2000000) only [go_sem, reduceIte, Nat.reduceEqDiff, Nat.reduceAdd, Nat.reduceLT, FK, es, List.map_append, iD, laC, u8s, ints]
   all_goals first | exact .refl _ | exact ⟨.refl _, .refl _⟩ | exact ⟨.refl _, .refl _, .refl _⟩ | exact ⟨.refl _, _, rfl⟩ | exact ⟨_, rfl⟩ | exact ⟨.refl _, [], by simp⟩ | exact ⟨[], by simp⟩
  ·have hy' := hnB hy
   have hyp : 0 < y.length := by clear wp ; omega
   have q0 := K8 (j + 1) y.length (by clear wp ; omega) hyp
   have q1 : (((j + 1) % y.length : Nat) : Int) < y.length := by have := Nat.mod_lt (j + 1) hyp; clear q0; clear wp ; omega
   have q2 := gI_lt (l := y) (i := (j + 1) % y.length) (Nat.mod_lt (j + 1) hyp)
   have hyn : ¬ (y.length : Int) = 0 := by clear q0; clear wp ; omega
   obtain ⟨s1, s2, s3, s4, s5, s6⟩ := ON (k := (j + 1)) hb hyp (a := (bl l (j + 1))) (b := (min (bh l (j + 1)) (lnF l y j))) (by clear q0; clear wp ; omega) (by clear q0; clear wp ; omega) (by clear q0; clear wp ; omega)
   rw [ex] at es
   generalize (j + 1) % y.length = kk at *
   generalize lnX y (j + 1) (bl l (j + 1)) (min (bh l (j + 1)) (lnF l y j)) = xx at *
   have w7 := An hlt (K5 n91)
   simp (maxSteps := 2000000) only [go_sem, reduceIte, Nat.reduceEqDiff, Nat.reduceAdd, Nat.reduceLT, Nat.reduceLeDiff, Nat.reduceBEq, Nat.reduceMul, FK, bD, nn, hgl', gf, wp, el, hjl, gj, iD, HL, HK, v1, v2, hy', hyn, q0, q1, q2, s1, s2, s3, s4, s5, s6, w7]
   refine ⟨by clear wp s1 s2 s3 s5 s6 w7; first | exact ap | (simp; done) | (simp; omega), (j + 1) + 1, hlt, m1, ?_⟩
   refine ent_weaken [] rfl rfl (Nat.zero_le _) rfl rfl ?_
   simp (maxSteps := 2000000) only [go_sem, reduceIte, Nat.reduceEqDiff, Nat.reduceAdd, Nat.reduceLT, FK, es, List.map_append, iD, laC, u8s, ints]
   all_goals first | exact .refl _ | exact ⟨.refl _, .refl _⟩ | exact ⟨.refl _, .refl _, .refl _⟩ | exact ⟨.refl _, _, rfl⟩ | exact ⟨_, rfl⟩ | exact ⟨.refl _, [], by simp⟩ | exact ⟨[], by simp⟩
 | false =>
  have r2 := r2 hdir
  rw [hdir, if_neg (by decide)] at er
  rw [hdir] at gf
  have wp : wr .i64 (((j + 1 : Nat) : Int) - 1) = (j : Int) := HM j j1000
  have ex : lnF l y (j + 1) = lnX y (j + 1) (max (bl l (j + 1)) (lnF l y j)) (bh l (j + 1)) := er
  by_cases hy : y.length = 0
  ·have e2 : lnX y (j + 1) (max (bl l (j + 1)) (lnF l y j)) (bh l (j + 1)) = (max (bl l (j + 1)) (lnF l y j)) := by unfold lnX; rw [if_pos hy]
   have hy' : ¬ (0 : Int) < y.length := by clear wp ; omega
   rw [ex, e2] at es
   have w7 := An hlt (K5 n91)
   simp (maxSteps := 2000000) only [go_sem, reduceIte, Nat.reduceEqDiff, Nat.reduceAdd, Nat.reduceLT, Nat.reduceLeDiff, Nat.reduceBEq, Nat.reduceMul, FK, bD, nn, hgl', gf, wp, el, hjl, gj, iD, HL, HK, v1, v2, hy', w7]
   refine ⟨by clear wp w7; first | exact ap | (simp; done) | (simp; omega), (j + 1) + 1, hlt, m1, ?_⟩
   refine ent_weaken [] rfl rfl (Nat.zero_le _) rfl rfl ?_
   simp (maxSteps := 2000000) only [go_sem, reduceIte, Nat.reduceEqDiff, Nat.reduceAdd, Nat.reduceLT, FK, es, List.map_append, iD, laC, u8s, ints]
   all_goals first | exact .refl _ | exact ⟨.refl _, .refl _⟩ | exact ⟨.refl _, .refl _, .refl _⟩ | exact ⟨.refl _, _, rfl⟩ | exact ⟨_, rfl⟩ | exact ⟨.refl _, [], by simp⟩ | exact ⟨[], by simp⟩
  ·have hy' := hnB hy
   have hyp : 0 < y.length := by clear wp ; omega
   have q0 := K8 (j + 1) y.length (by clear wp ; omega) hyp
   have q1 : (((j + 1) % y.length : Nat) : Int) < y.length := by have := Nat.mod_lt (j + 1) hyp; clear q0; clear wp ; omega
   have q2 := gI_lt (l := y) (i := (j + 1) % y.length) (Nat.mod_lt (j + 1) hyp)
   have hyn : ¬ (y.length : Int) = 0 := by clear q0; clear wp ; omega
   obtain ⟨s1, s2, s3, s4, s5, s6⟩ := ON (k := (j + 1)) hb hyp (a := (max (bl l (j + 1)) (lnF l y j))) (b := (bh l (j + 1))) (by clear q0; clear wp ; omega) (by clear q0; clear wp ; omega) (by clear q0; clear wp ; omega)
   rw [ex] at es
   generalize (j + 1) % y.length = kk at *
   generalize lnX y (j + 1) (max (bl l (j + 1)) (lnF l y j)) (bh l (j + 1)) = xx at *
   have w7 := An hlt (K5 n91)
   simp (maxSteps := 2000000) only [go_sem, reduceIte, Nat.reduceEqDiff, Nat.reduceAdd, Nat.reduceLT, Nat.reduceLeDiff, Nat.reduceBEq, Nat.reduceMul, FK, bD, nn, hgl', gf, wp, el, hjl, gj, iD, HL, HK, v1, v2, hy', hyn, q0, q1, q2, s1, s2, s3, s4, s5, s6, w7]
   refine ⟨by clear wp s1 s2 s3 s5 s6 w7; first | exact ap | (simp; done) | (simp; omega), (j + 1) + 1, hlt, m1, ?_⟩
   refine ent_weaken [] rfl rfl (Nat.zero_le _) rfl rfl ?_
   simp (maxSteps := 2000000) only [go_sem, reduceIte, Nat.reduceEqDiff, Nat.reduceAdd, Nat.reduceLT, FK, es, List.map_append, iD, laC, u8s, ints]
   all_goals first | exact .refl _ | exact ⟨.refl _, .refl _⟩ | exact ⟨.refl _, .refl _, .refl _⟩ | exact ⟨.refl _, _, rfl⟩ | exact ⟨_, rfl⟩ | exact ⟨.refl _, [], by simp⟩ | exact ⟨[], by simp⟩
end Go.Proofs.YtfgdbeijjbijnaaGreatDoor.Zo
set_option linter.unusedSimpArgs false
set_option linter.unusedVariables false
set_option maxRecDepth 100000
namespace Go.Proofs.YtfgdbeijjbijnaaGreatDoor.Zo
open Go Go.Abs Go.Proofs
def aId : List (Nat × List Nat) := [(0, [1]), (1, [2])]
theorem Qv : lookK aId 0 = some [1] ∧ lookK aId 1 = some [2] := ⟨rfl, rfl⟩
def lampB (l : La) : Bool := decide (CF l = 0) && !dbB l
set_option maxHeartbeats 2000000 in
theorem lamp23 (l : La) : BA Tryz.prog 23 [laV l] (B (lampB l)) := by
 refine pure_wkE (bad := []) (kp := aId) (X := tx) (nt := 35) (rs := [.tmp 2]) Tryz.func23 rfl rfl rfl rfl mo (by kernel_rfl) rfl rfl (fun hf => ?_)
 have hl := aH7 l
 unfold laV laC at hl
 have hbig : (14 < l.an.length ∨ 14 < l.li.length ∨ 14 < l.fa.length ∨ 100 < l.we.length) → ¬ CF l = 0 := fun h h0 => by
  have ok := okLa_n h0
  have := ok.m11
  have := ok.li
  have := ok.fa
  have := ok.n91
  omega
 by_cases h1 : (l.an.length : Int) ≤ 14
 case neg =>
  have e : lampB l = false := by unfold lampB; rw [decide_eq_false (hbig (by omega))]; rfl
  simp (maxSteps := 2000000) only [go_sem, reduceIte, Nat.reduceEqDiff, Nat.reduceAdd, Nat.reduceLeDiff, Nat.reduceBEq, Qv, laV, laC, h1, e]
  all_goals first | exact .refl _ | exact ⟨.refl _, .refl _⟩ | exact ⟨.refl _, .refl _, .refl _⟩ | exact ⟨.refl _, _, rfl⟩ | exact ⟨_, rfl⟩ | exact ⟨.refl _, [], by simp⟩ | exact ⟨[], by simp⟩
 by_cases h2 : (l.li.length : Int) ≤ 14
 case neg =>
  have e : lampB l = false := by unfold lampB; rw [decide_eq_false (hbig (by omega))]; rfl
  simp (maxSteps := 2000000) only [go_sem, reduceIte, Nat.reduceEqDiff, Nat.reduceAdd, Nat.reduceLeDiff, Nat.reduceBEq, Qv, laV, laC, h1, h2, e]
  all_goals first | exact .refl _ | exact ⟨.refl _, .refl _⟩ | exact ⟨.refl _, .refl _, .refl _⟩ | exact ⟨.refl _, _, rfl⟩ | exact ⟨_, rfl⟩ | exact ⟨.refl _, [], by simp⟩ | exact ⟨[], by simp⟩
 by_cases h3 : (l.fa.length : Int) ≤ 14
 case neg =>
  have e : lampB l = false := by unfold lampB; rw [decide_eq_false (hbig (by omega))]; rfl
  simp (maxSteps := 2000000) only [go_sem, reduceIte, Nat.reduceEqDiff, Nat.reduceAdd, Nat.reduceLeDiff, Nat.reduceBEq, Qv, laV, laC, h1, h2, h3, e]
  all_goals first | exact .refl _ | exact ⟨.refl _, .refl _⟩ | exact ⟨.refl _, .refl _, .refl _⟩ | exact ⟨.refl _, _, rfl⟩ | exact ⟨_, rfl⟩ | exact ⟨.refl _, [], by simp⟩ | exact ⟨[], by simp⟩
 by_cases h4 : (l.we.length : Int) ≤ 100
 case neg =>
  have e : lampB l = false := by unfold lampB; rw [decide_eq_false (hbig (by omega))]; rfl
  simp (maxSteps := 2000000) only [go_sem, reduceIte, Nat.reduceEqDiff, Nat.reduceAdd, Nat.reduceLeDiff, Nat.reduceBEq, Qv, laV, laC, h1, h2, h3, h4, e]
  all_goals first | exact .refl _ | exact ⟨.refl _, .refl _⟩ | exact ⟨.refl _, .refl _, .refl _⟩ | exact ⟨.refl _, _, rfl⟩ | exact ⟨_, rfl⟩ | exact ⟨.refl _, [], by simp⟩ | exact ⟨[], by simp⟩
 simp (maxSteps := 2000000) only [go_sem, reduceIte, Nat.reduceEqDiff, Nat.reduceAdd, Nat.reduceLeDiff, Nat.reduceBEq, Qv, laV, laC, h1, h2, h3, h4]
 refine Aj (hl) rfl rfl (by first | exact wk_refls _ | (repeat constructor)) ?_
 by_cases h0 : CF l = 0
 case neg =>
  have e : lampB l = false := by unfold lampB; rw [decide_eq_false h0]; rfl
  simp (maxSteps := 2000000) only [go_sem, reduceIte, Nat.reduceEqDiff, Qv, h0, e]
  all_goals first | exact .refl _ | exact ⟨.refl _, .refl _⟩ | exact ⟨.refl _, .refl _, .refl _⟩ | exact ⟨.refl _, _, rfl⟩ | exact ⟨_, rfl⟩ | exact ⟨.refl _, [], by simp⟩ | exact ⟨[], by simp⟩
 have hd := Vk l (okLa_n h0)
 unfold laV laC at hd
 have e : lampB l = !dbB l := by unfold lampB; rw [decide_eq_true h0]; rfl
 simp (maxSteps := 2000000) only [go_sem, reduceIte, Nat.reduceEqDiff, Nat.reduceAdd, Qv, h0]
 refine Aj (hd) rfl rfl (by first | exact wk_refls _ | (repeat constructor)) ?_
 simp (maxSteps := 2000000) only [go_sem, reduceIte, Nat.reduceEqDiff, Qv, e]
 all_goals first | exact .refl _ | exact ⟨.refl _, .refl _⟩ | exact ⟨.refl _, .refl _, .refl _⟩ | exact ⟨.refl _, _, rfl⟩ | exact ⟨_, rfl⟩ | exact ⟨.refl _, [], by simp⟩ | exact ⟨[], by simp⟩
theorem lampB_ok {l : La} (h : lampB l = true) : CF l = 0 ∧ dbB l = false := by
 simpa [lampB] using h
theorem at_deg {l : La} (h0 : CF l = 0) (hd : dbB l = false) {k : Nat} (hk : k < l.we.length) : BA Tryz.prog 26 [laV l, I (gI l.an 0 + k)] (.tup [.agg [.d (.int .i64 (bl l k)), .d (.int .i64 (bh l k))], I 0]) := by
 have ok := okLa_n h0
 have hw := ok.we
 have e := aGc (d := gI l.an 0 + k) h0 (by omega) hd
 have h := at29 l (gI l.an 0 + k)
 rw [e, aGd e] at h
 have e2 : (gI l.an 0 + (k : Int) - gI l.an 0).toNat = k := by omega
 rw [e2] at h
 exact h
end Go.Proofs.YtfgdbeijjbijnaaGreatDoor.Zo
set_option linter.unusedSimpArgs false
set_option linter.unusedVariables false
set_option maxRecDepth 100000
namespace Go.Proofs.YtfgdbeijjbijnaaGreatDoor
open Go Go.Abs Go.Proofs
def kp4 : List (Nat × List Nat) := [(0, [1, 2, 3, 4, 5, 6, 7]), (1, [1, 2, 3, 4, 5, 6, 7, 57]), (2, [14]), (3, [1, 2, 3, 4, 5, 6, 7, 15]), (4, [1, 2, 3, 4, 5, 6, 7, 15, 63]), (5, [1, 2, 3, 4, 5, 6, 7, 15]), (6, [1, 2, 3, 4, 5, 6, 7, 15, 71]), (7, [14]), (8, [2, 3, 4, 5, 6, 7, 16]), (9, [3, 4, 5, 6, 7, 16, 17]), (10, [3, 4, 5, 6, 7, 16, 17, 18, 19]), (11, [3, 4, 5, 6, 7, 16, 17, 18, 19, 20]), (12, [3, 4, 5, 6, 7, 16, 17, 18, 19, 20, 82]), (13, [3, 4, 5, 6, 7, 16, 17, 18, 19, 20]), (14, [3, 4, 5, 6, 7, 16, 17, 18, 19, 20, 21, 22]), (15, [3, 4, 5, 6, 7, 16, 17, 18, 19, 20, 21, 115]), (16, [14]), (17, [3, 4, 5, 6, 7, 16, 17, 18, 19, 20, 124]), (18, [3, 4, 5, 6, 7, 16, 17, 18, 19, 20]), (19, [3, 4, 5, 6, 7, 16, 17, 18, 19, 20, 137]), (20, [3, 4, 5, 6, 7, 16, 17, 18, 19, 20]), (21, [3, 4, 5, 6, 18, 19, 142]), (22, [14]), (23, [4, 5, 6, 18, 19, 23]), (24, [4, 6, 18, 19, 23, 24]), (25, [4, 6, 18, 19, 23, 24, 25]), (26, [4, 6, 18, 19, 23, 24, 25, 154]), (27, [14]), (28, [4, 6, 18, 19, 23, 24, 25, 26]), (29, [4, 6, 18, 19, 23, 24, 25, 26, 159]), (30, [4, 6, 18, 19, 23, 24, 25, 26]), (31, [4, 6, 18, 19, 23, 24, 25, 26, 27, 28]), (32, [4, 6, 18, 19, 23, 24, 25, 26, 27, 28]), (33, [4, 6, 18, 19, 23, 24, 25, 26]), (34, [23, 24, 25, 29]), (35, [23, 24, 25, 29, 30, 31]), (36, [23, 24, 25, 29, 30, 31, 32, 33]), (37, [23, 24, 25, 29, 30, 31, 32, 33, 35]), (38, [23, 24, 25, 30, 31, 32, 33, 35, 37]), (39, [23, 24, 25, 30, 32, 266]), (40, [14]), (41, [23, 24, 25, 30, 32, 38]), (42, [23, 24, 25, 30, 32, 38, 269]), (43, [23, 24, 25, 30, 32, 38]), (44, [23, 24, 25, 30, 32, 38, 280]), (45, [14]), (46, [25, 40, 41]), (47, [40, 41, 43, 44]), (48, [14])]
theorem lk4 : lookK kp4 0 = some [1, 2, 3, 4, 5, 6, 7] ∧ lookK kp4 1 = some [1, 2, 3, 4, 5, 6, 7, 57] ∧ lookK kp4 2 = some [14] ∧ lookK kp4 3 = some [1, 2, 3, 4, 5, 6, 7, 15] ∧ lookK kp4 4 = some [1, 2, 3, 4, 5, 6, 7, 15, 63] ∧ lookK kp4 5 = some [1, 2, 3, 4, 5, 6, 7, 15] ∧ lookK kp4 6 = some [1, 2, 3, 4, 5, 6, 7, 15, 71] ∧ lookK kp4 7 = some [14] ∧ lookK kp4 8 = some [2, 3, 4, 5, 6, 7, 16] ∧ lookK kp4 9 = some [3, 4, 5, 6, 7, 16, 17] ∧ lookK kp4 10 = some [3, 4, 5, 6, 7, 16, 17, 18, 19] ∧ lookK kp4 11 = some [3, 4, 5, 6, 7, 16, 17, 18, 19, 20] ∧ lookK kp4 12 = some [3, 4, 5, 6, 7, 16, 17, 18, 19, 20, 82] ∧ lookK kp4 13 = some [3, 4, 5, 6, 7, 16, 17, 18, 19, 20] ∧ lookK kp4 14 = some [3, 4, 5, 6, 7, 16, 17, 18, 19, 20, 21, 22] ∧ lookK kp4 15 = some [3, 4, 5, 6, 7, 16, 17, 18, 19, 20, 21, 115] ∧ lookK kp4 16 = some [14] ∧ lookK kp4 17 = some [3, 4, 5, 6, 7, 16, 17, 18, 19, 20, 124] ∧ lookK kp4 18 = some [3, 4, 5, 6, 7, 16, 17, 18, 19, 20] ∧ lookK kp4 19 = some [3, 4, 5, 6, 7, 16, 17, 18, 19, 20, 137] ∧ lookK kp4 20 = some [3, 4, 5, 6, 7, 16, 17, 18, 19, 20] ∧ lookK kp4 21 = some [3, 4, 5, 6, 18, 19, 142] ∧ lookK kp4 22 = some [14] ∧ lookK kp4 23 = some [4, 5, 6, 18, 19, 23] ∧ lookK kp4 24 = some [4, 6, 18, 19, 23, 24] ∧ lookK kp4 25 = some [4, 6, 18, 19, 23, 24, 25] ∧ lookK kp4 26 = some [4, 6, 18, 19, 23, 24, 25, 154] ∧ lookK kp4 27 = some [14] ∧ lookK kp4 28 = some [4, 6, 18, 19, 23, 24, 25, 26] ∧ lookK kp4 29 = some [4, 6, 18, 19, 23, 24, 25, 26, 159] ∧ lookK kp4 30 = some [4, 6, 18, 19, 23, 24, 25, 26] ∧ lookK kp4 31 = some [4, 6, 18, 19, 23, 24, 25, 26, 27, 28] ∧ lookK kp4 32 = some [4, 6, 18, 19, 23, 24, 25, 26, 27, 28] ∧ lookK kp4 33 = some [4, 6, 18, 19, 23, 24, 25, 26] ∧ lookK kp4 34 = some [23, 24, 25, 29] ∧ lookK kp4 35 = some [23, 24, 25, 29, 30, 31] ∧ lookK kp4 36 = some [23, 24, 25, 29, 30, 31, 32, 33] ∧ lookK kp4 37 = some [23, 24, 25, 29, 30, 31, 32, 33, 35] ∧ lookK kp4 38 = some [23, 24, 25, 30, 31, 32, 33, 35, 37] ∧ lookK kp4 39 = some [23, 24, 25, 30, 32, 266] ∧ lookK kp4 40 = some [14] ∧ lookK kp4 41 = some [23, 24, 25, 30, 32, 38] ∧ lookK kp4 42 = some [23, 24, 25, 30, 32, 38, 269] ∧ lookK kp4 43 = some [23, 24, 25, 30, 32, 38] ∧ lookK kp4 44 = some [23, 24, 25, 30, 32, 38, 280] ∧ lookK kp4 45 = some [14] ∧ lookK kp4 46 = some [25, 40, 41] ∧ lookK kp4 47 = some [40, 41, 43, 44] ∧ lookK kp4 48 = some [14] := ⟨rfl, rfl, rfl, rfl, rfl, rfl, rfl, rfl, rfl, rfl, rfl, rfl, rfl, rfl, rfl, rfl, rfl, rfl, rfl, rfl, rfl, rfl, rfl, rfl, rfl, rfl, rfl, rfl, rfl, rfl, rfl, rfl, rfl, rfl, rfl, rfl, rfl, rfl, rfl, rfl, rfl, rfl, rfl, rfl, rfl, rfl, rfl, rfl, rfl⟩
def p2D (p : Int × Int) : List D := [.int .u8 p.1, .int .u8 p.2]
theorem rc_w {n s a : Int} (h1 : 1 ≤ n) (h40 : n ≤ 40) (a0 : 0 ≤ a) (a1 : a < n) (s0 : 0 ≤ s) (s1 : s ≤ 100) : wr .i64 (a - s) = a - s ∧ wr .i64 (a - s + 1) = a - s + 1 ∧ wr .i64 (n - 1) = n - 1 ∧ wr .i64 (a + s) = a + s ∧ wr .i64 (a + s - 1) = a + s - 1 :=
 ⟨BQ (by omega) (by omega), BQ (by omega) (by omega), BQ (by omega) (by omega), BQ (by omega) (by omega), BQ (by omega) (by omega)⟩
theorem HK (a b : Int) : JV a [b] = max a b := by simp [JV]
theorem HL (a b : Int) : DY a [b] = min a b := by simp [DY]
def rcs (n s : Int) (l : List (Int × Int)) : List (List D) := l.map fun p => pD (rcP n s p)
theorem VR {x : Int} (h0 : 0 ≤ x) (h1 : x ≤ 255) : wr .i64 x = x := BQ (by omega) (by omega)
set_option maxHeartbeats 16000000 in
theorem aDS (l : Zo.La) (y : List Int) (hy : Zo.U8 y) (en pc dd b : Int) (en0 : 0 ≤ en) (en1 : en ≤ 255) (pc0 : 0 ≤ pc) (pc1 : pc ≤ 255) (dd0 : 0 ≤ dd) (dd1 : dd ≤ 255) (ps : List (Int × Int)) (hps : ∀ p ∈ ps, 0 ≤ p.1 ∧ p.1 ≤ 255 ∧ 0 ≤ p.2 ∧ p.2 ≤ 255) (hW : PureG Tryz.prog GH3 24 [] (B true)) : Ae Tryz.prog 4 [Zo.laV l, Zo.u8s y, .c (.d (.int .u8 en)), .c (.d (.int .u8 pc)), .c (.d (.sl (ps.map p2D))), .c (.d (.int .u8 dd)), .c (.d (.int .u32 b))] GH3 (one (B true) GH3) := by
 refine acall_atE (bad := [14]) (kp := kp4) (X := tx) (nt := 315) (rs := [.tmp 14]) Tryz.func4 rfl rfl rfl rfl mo (by kernel_rfl) rfl rfl (fun hf => ?_)
 have wa := fun T => aPT hW T
 have h23 := Zo.lamp23 l
 simp only [Zo.laV, Zo.laC] at h23
 simp (maxSteps := 2000000) only [go_sem, reduceIte, Nat.reduceEqDiff, Nat.reduceAdd, Nat.reduceBEq, lk4, GH3, Zo.laV, Zo.laC, Zo.u8s]
 refine Aj (h23) rfl rfl (by first | exact wk_refls _ | (repeat constructor)) ?_
 cases hlb : Zo.lampB l with
 | false =>
  simp (maxSteps := 2000000) only [go_sem, reduceIte, Nat.reduceEqDiff, Nat.reduceAdd, Nat.reduceBEq, lk4]
  refine Az (wa _) rfl rfl (by first | exact wk_refls _ | (repeat constructor)) ?_
  simp (maxSteps := 2000000) only [go_sem, reduceIte, Nat.reduceEqDiff, lk4]
  all_goals first | exact .refl _ | exact ⟨.refl _, .refl _⟩ | exact ⟨.refl _, .refl _, .refl _⟩ | exact ⟨.refl _, _, rfl⟩ | exact ⟨_, rfl⟩ | exact ⟨.refl _, [], by simp⟩ | exact ⟨[], by simp⟩
 | true =>
  obtain ⟨h0, hd⟩ := Zo.lampB_ok hlb
  have ok := Zo.okLa_n h0
  have n91 := ok.n91
  by_cases hy100 : (100 : Int) < y.length
  ·simp (maxSteps := 2000000) only [go_sem, reduceIte, Nat.reduceEqDiff, Nat.reduceAdd, Nat.reduceBEq, lk4, hy100]
   refine Az (wa _) rfl rfl (by first | exact wk_refls _ | (repeat constructor)) ?_
   simp (maxSteps := 2000000) only [go_sem, reduceIte, Nat.reduceEqDiff, lk4]
   all_goals first | exact .refl _ | exact ⟨.refl _, .refl _⟩ | exact ⟨.refl _, .refl _, .refl _⟩ | exact ⟨.refl _, _, rfl⟩ | exact ⟨_, rfl⟩ | exact ⟨.refl _, [], by simp⟩ | exact ⟨[], by simp⟩
  by_cases hp24 : (24 : Int) < ps.length
  ·simp (maxSteps := 2000000) only [go_sem, reduceIte, Nat.reduceEqDiff, Nat.reduceAdd, Nat.reduceBEq, lk4, hy100, hp24]
   refine Az (wa _) rfl rfl (by first | exact wk_refls _ | (repeat constructor)) ?_
   simp (maxSteps := 2000000) only [go_sem, reduceIte, Nat.reduceEqDiff, lk4]
   all_goals first | exact .refl _ | exact ⟨.refl _, .refl _⟩ | exact ⟨.refl _, .refl _, .refl _⟩ | exact ⟨.refl _, _, rfl⟩ | exact ⟨_, rfl⟩ | exact ⟨.refl _, [], by simp⟩ | exact ⟨[], by simp⟩
  simp (maxSteps := 2000000) only [go_sem, reduceIte, Nat.reduceEqDiff, Nat.reduceAdd, Nat.reduceBEq, lk4, hy100, hp24]
  have hlow : [BM, Bl, B6, AB.cells (Zo.laC l)].all (AB.low 4) = true := by
   show (AB.low 4 BM && (AB.low 4 Bl && (AB.low 4 B6 && (AB.low 4 (.cells (Zo.laC l)) && true)))) = true
   rw [Qe, MW, Qf]
   simp only [AB.low, Zo.laC_low, Bool.and_self]
  have hfal : l.fa.length ≤ 140737488355328 := by have := ok.fa; have := ok.m11; omega
  refine goE_loop (bad := [14]) (kp := kp4) (fun i : Nat => { slots := [(1, .c (.d (.sl (y.map fun b => [D.int .u8 b])))), (2, .c (.d (.int .u8 en))), (3, .c (.d (.int .u8 pc))), (4, .c (.d (.sl (ps.map p2D)))), (5, .c (.d (.int .u8 dd))), (6, .c (.d (.int .u32 b))), (7, .c (.ptr 3 0)), (15, I i)], heap := [BM, Bl, B6, .cells (Zo.laC l)], marks := [] }) (fun i => i ≤ l.fa.length) (fun i => l.fa.length - i) 0 mo (by kernel_rfl) ?_ (Nat.zero_le _) ?_
  ·exact Ent.refl
  rintro i hi
  simp (maxSteps := 2000000) only [go_sem, reduceIte, Nat.reduceEqDiff, Nat.reduceAdd, Nat.reduceLeDiff, Nat.reduceBEq, lk4, Zo.laC]
  refine goE_if (fun h => ?_) (fun h => ?_)
  ·have hlt : i < l.fa.length := by simpa using h
   obtain ⟨x, hx⟩ := Bm hlt
   have hxm : (l.fa.map Zo.bD)[i]? = some [.bool x] := by rw [List.getElem?_map, hx]; rfl
   have cx : (decide ((0 : Int) ≤ (i : Int)) && decide ((i : Int) < (l.fa.length : Int))) = true := by simp; omega
   cases x with
   | false =>
    simp (maxSteps := 2000000) only [go_sem, reduceIte, Nat.reduceEqDiff, Nat.reduceAdd, Nat.reduceLeDiff, Nat.reduceBEq, lk4, hxm, cx]
    refine Az (wa _) rfl rfl (by first | exact wk_refls _ | (repeat constructor)) ?_
    simp (maxSteps := 2000000) only [go_sem, reduceIte, Nat.reduceEqDiff, lk4]
    all_goals first | exact .refl _ | exact ⟨.refl _, .refl _⟩ | exact ⟨.refl _, .refl _, .refl _⟩ | exact ⟨.refl _, _, rfl⟩ | exact ⟨_, rfl⟩ | exact ⟨.refl _, [], by simp⟩ | exact ⟨[], by simp⟩
   | true =>
    simp (maxSteps := 2000000) only [go_sem, reduceIte, Nat.reduceEqDiff, Nat.reduceAdd, Nat.reduceLeDiff, Nat.reduceBEq, lk4, hxm, cx, An hlt hfal]
    refine ⟨i + 1, hlt, by omega, ?_⟩
    refine ent_weaken [] (by simp only [Zo.laC, List.append_nil]) rfl (show 3 ≤ 4 by decide) hlow rfl ?_
    simp (maxSteps := 2000000) only [go_sem, reduceIte, Nat.reduceEqDiff, Nat.reduceAdd, Nat.reduceLT, lk4]
    all_goals first | exact .refl _ | exact ⟨.refl _, .refl _⟩ | exact ⟨.refl _, .refl _, .refl _⟩ | exact ⟨.refl _, _, rfl⟩ | exact ⟨_, rfl⟩ | exact ⟨.refl _, [], by simp⟩ | exact ⟨[], by simp⟩
  ·clear hi h
   have hlan := Zo.lan39 l h0 hd y hy (by omega)
   simp only [Zo.laV, Zo.laC, Zo.u8s, Zo.ints] at hlan
   simp (maxSteps := 2000000) only [go_sem, reduceIte, Nat.reduceEqDiff, Nat.reduceAdd, Nat.reduceBEq, lk4, Zo.laC]
   refine Aj (hlan) rfl rfl (by first | exact wk_refls _ | (repeat constructor)) ?_
   have wen : wr .i64 en = en := BQ (by omega) (by omega)
   simp (maxSteps := 2000000) only [go_sem, reduceIte, Nat.reduceEqDiff, Int.reduceEq, lk4, wen]
   clear wen
   obtain ⟨need, hneed⟩ : ∃ n, n = Int.tmod en 201 := ⟨_, rfl⟩
   rw [← hneed]
   obtain ⟨f, hfdef⟩ : ∃ f, f = Zo.lnF l y := ⟨_, rfl⟩
   have hroom := Zo.ln_room hd y
   rw [← hfdef] at hroom ⊢
   obtain ⟨N, hN⟩ : ∃ N, N = l.we.length := ⟨_, rfl⟩
   rw [← hN] at n91 hroom ⊢
   obtain ⟨fS, hfS⟩ : ∃ fS : Nat → Bool, fS = fun k => decide (need ≤ Zo.bl l k) := ⟨_, rfl⟩
   obtain ⟨fT, hfT⟩ : ∃ fT : Nat → Bool, fT = fun k => decide (need ≤ f k) := ⟨_, rfl⟩
   have hxl : (Zo.fl N f).length = N := Zo.fl_len _ _
   refine goE_loop (bad := [14]) (kp := kp4) (fun k : Nat => { slots := [(3, .c (.d (.int .u8 pc))), (4, .c (.d (.sl (ps.map p2D)))), (5, .c (.d (.int .u8 dd))), (6, .c (.d (.int .u32 b))), (7, .c (.ptr 3 0)), (16, .c (.d (.sl ((Zo.fl N f).map Zo.iD)))), (17, I need), (18, I (Ce fS k)), (19, I (Ce fT k)), (20, I k)], heap := [BM, Bl, B6, .cells (Zo.laC l)], marks := [] }) (fun k => k ≤ N) (fun k => N - k) 0 mo (by kernel_rfl) ?_ (Nat.zero_le _) ?_
   ·exact Ent.refl
   rintro k hk
   simp (maxSteps := 2000000) only [go_sem, reduceIte, Nat.reduceEqDiff, Nat.reduceAdd, Nat.reduceBEq, lk4, Zo.laC]
   refine goE_if (fun h => ?_) (fun h => ?_)
   ·have hlt : k < N := by simpa [hxl] using h
    have ha0 := Zo.gI_lt (l := l.an) (i := 0) (by have := ok.m2; omega)
    have ham : (l.an.map Zo.iD)[0]? = some [.int .i64 (Zo.gI l.an 0)] := by rw [List.getElem?_map, ha0]; rfl
    have har := ok.a0 0 (by have := ok.m2; omega)
    have han : (0 : Int) < l.an.length := by have := ok.m2; omega
    have hat := Zo.at_deg h0 hd (k := k) (by rw [← hN]; exact hlt)
    simp only [Zo.laV, Zo.laC] at hat
    have hxk : (Zo.fl N f)[k]? = some (f k) := by
     rw [Zo.gI_lt (by rw [hxl]; exact hlt), Zo.fl_get f hlt]
    obtain ⟨r1, r2⟩ := hroom k hlt
    have cx : (decide ((0 : Int) ≤ (k : Int)) && decide ((k : Int) < (N : Int))) = true := by simp; omega
    have x1 : ¬ f k < Zo.bl l k := by omega
    have x2 : ¬ Zo.bh l k < f k := by omega
    have hmu : N - (k + 1) < N - k := by omega
    have hN9 : N ≤ 140737488355328 := by omega
    have wk : wr .i64 (Zo.gI l.an 0 + k) = Zo.gI l.an 0 + k := BQ (by omega) (by omega)
    simp (maxSteps := 2000000) only [go_sem, reduceIte, Nat.reduceEqDiff, Nat.reduceAdd, Nat.reduceLT, Nat.reduceLeDiff, Nat.reduceBEq, Int.reduceLE, Int.reduceToNat, lk4, ham, han, wk]
    clear wk
    refine de_pure (hat) rfl rfl (by first | exact wk_refls _ | (repeat constructor)) ?_
    simp (maxSteps := 2000000) only [go_sem, reduceIte, Nat.reduceEqDiff, Nat.reduceAdd, Nat.reduceLeDiff, Nat.reduceBEq, lk4]
    refine ⟨by kernel_rfl, ?_⟩
    have pS : Ce fS (k + 1) = if (decide ((Ce fS k : Int) = (k : Int)) && decide (need ≤ Zo.bl l k)) = true then Ce fS k + 1 else Ce fS k := by
     simp only [Ce, hfS, Bool.and_eq_true, decide_eq_true_eq, Int.ofNat_inj]
    have pT : Ce fT (k + 1) = if (decide ((Ce fT k : Int) = (k : Int)) && decide (need ≤ f k)) = true then Ce fT k + 1 else Ce fT k := by
     simp only [Ce, hfT, Bool.and_eq_true, decide_eq_true_eq, Int.ofNat_inj]
    have uS := Nat.lt_of_le_of_lt (HC fS k) hlt
    have uT := Nat.lt_of_le_of_lt (HC fT k) hlt
    have wS : wr .i64 ((Ce fS k : Int) + 1) = ((Ce fS k + 1 : Nat) : Int) := An uS hN9
    have wT : wr .i64 ((Ce fT k : Int) + 1) = ((Ce fT k + 1 : Nat) : Int) := An uT hN9
    have ws : wr .i64 ((k : Int) + 1) = ((k + 1 : Nat) : Int) := An hlt hN9
    simp (maxSteps := 2000000) only [go_sem, reduceIte, Nat.reduceEqDiff, Nat.reduceAdd, Nat.reduceBEq, lk4, hxk, hxl, cx, x1, x2, Zo.iD]
    have fin : ∀ (s t : Int), s = Ce fS (k + 1) → t = Ce fT (k + 1) → Ent (tx.cx none 3 315) { slots := [(3, .c (.d (.int .u8 pc))), (4, .c (.d (.sl (ps.map p2D)))), (5, .c (.d (.int .u8 dd))), (6, .c (.d (.int .u32 b))), (7, .c (.ptr 3 0)), (16, .c (.d (.sl ((Zo.fl N f).map Zo.iD)))), (17, I need), (18, I s), (19, I t), (20, I ((k + 1 : Nat) : Int))], heap := [BM, Bl, B6, .cells (Zo.laC l), .cells [.d (.int .i64 (Zo.bl l k)), .d (.int .i64 (Zo.bh l k))]], marks := [] } { slots := [(3, .c (.d (.int .u8 pc))), (4, .c (.d (.sl (ps.map p2D)))), (5, .c (.d (.int .u8 dd))), (6, .c (.d (.int .u32 b))), (7, .c (.ptr 3 0)), (16, .c (.d (.sl ((Zo.fl N f).map Zo.iD)))), (17, I need), (18, I (Ce fS (k + 1))), (19, I (Ce fT (k + 1))), (20, I ((k + 1 : Nat) : Int))], heap := [BM, Bl, B6, .cells (Zo.laC l)], marks := [] } := fun s t hs ht => by
     subst hs; subst ht
     refine ent_weaken [_] rfl rfl (show 3 ≤ 4 by decide) hlow rfl ?_
     simp (maxSteps := 2000000) only [go_sem, reduceIte, Nat.reduceEqDiff, Nat.reduceAdd, Nat.reduceLT, lk4]
     all_goals first | exact .refl _ | exact ⟨.refl _, .refl _⟩ | exact ⟨.refl _, .refl _, .refl _⟩ | exact ⟨.refl _, _, rfl⟩ | exact ⟨_, rfl⟩ | exact ⟨.refl _, [], by simp⟩ | exact ⟨[], by simp⟩
    cases hS1 : decide ((Ce fS k : Int) = (k : Int)) with
    | false =>
     cases hT1 : decide ((Ce fT k : Int) = (k : Int)) with
     | false =>
      simp (maxSteps := 2000000) only [go_sem, reduceIte, Nat.reduceEqDiff, Nat.reduceAdd, Nat.reduceBEq, lk4, hxk, hxl, cx, Zo.iD, wS, wT, ws, hS1, hT1]
      rw [hS1] at pS
      rw [hT1] at pT
      exact ⟨k + 1, hlt, hmu, fin _ _ (by rw [pS]; rfl) (by rw [pT]; rfl)⟩
     | true =>
      cases hT2 : decide (need ≤ f k) with
      | false =>
       simp (maxSteps := 2000000) only [go_sem, reduceIte, Nat.reduceEqDiff, Nat.reduceAdd, Nat.reduceBEq, lk4, hxk, hxl, cx, Zo.iD, wS, wT, ws, hS1, hT1, hT2]
       rw [hS1] at pS
       rw [hT1, hT2] at pT
       exact ⟨k + 1, hlt, hmu, fin _ _ (by rw [pS]; rfl) (by rw [pT]; rfl)⟩
      | true =>
       simp (maxSteps := 2000000) only [go_sem, reduceIte, Nat.reduceEqDiff, Nat.reduceAdd, Nat.reduceBEq, lk4, hxk, hxl, cx, Zo.iD, wS, wT, ws, hS1, hT1, hT2]
       rw [hS1] at pS
       rw [hT1, hT2] at pT
       exact ⟨k + 1, hlt, hmu, fin _ _ (by rw [pS]; rfl) (by rw [pT]; rfl)⟩
    | true =>
     cases hS2 : decide (need ≤ Zo.bl l k) with
     | false =>
      cases hT1 : decide ((Ce fT k : Int) = (k : Int)) with
      | false =>
       simp (maxSteps := 2000000) only [go_sem, reduceIte, Nat.reduceEqDiff, Nat.reduceAdd, Nat.reduceLeDiff, Nat.reduceBEq, lk4, hxk, hxl, cx, Zo.iD, wS, wT, ws, hS1, hS2, hT1]
       rw [hS1, hS2] at pS
       rw [hT1] at pT
       exact ⟨k + 1, hlt, hmu, fin _ _ (by rw [pS]; rfl) (by rw [pT]; rfl)⟩
      | true =>
       cases hT2 : decide (need ≤ f k) with
       | false =>
        simp (maxSteps := 2000000) only [go_sem, reduceIte, Nat.reduceEqDiff, Nat.reduceAdd, Nat.reduceLeDiff, Nat.reduceBEq, lk4, hxk, hxl, cx, Zo.iD, wS, wT, ws, hS1, hS2, hT1, hT2]
        rw [hS1, hS2] at pS
        rw [hT1, hT2] at pT
        exact ⟨k + 1, hlt, hmu, fin _ _ (by rw [pS]; rfl) (by rw [pT]; rfl)⟩
       | true =>
        simp (maxSteps := 2000000) only [go_sem, reduceIte, Nat.reduceEqDiff, Nat.reduceAdd, Nat.reduceLeDiff, Nat.reduceBEq, lk4, hxk, hxl, cx, Zo.iD, wS, wT, ws, hS1, hS2, hT1, hT2]
        rw [hS1, hS2] at pS
        rw [hT1, hT2] at pT
        exact ⟨k + 1, hlt, hmu, fin _ _ (by rw [pS]; rfl) (by rw [pT]; rfl)⟩
     | true =>
      cases hT1 : decide ((Ce fT k : Int) = (k : Int)) with
      | false =>
       simp (maxSteps := 2000000) only [go_sem, reduceIte, Nat.reduceEqDiff, Nat.reduceAdd, Nat.reduceLeDiff, Nat.reduceBEq, lk4, hxk, hxl, cx, Zo.iD, wS, wT, ws, hS1, hS2, hT1]
       rw [hS1, hS2] at pS
       rw [hT1] at pT
       exact ⟨k + 1, hlt, hmu, fin _ _ (by rw [pS]; rfl) (by rw [pT]; rfl)⟩
      | true =>
       cases hT2 : decide (need ≤ f k) with
       | false =>
        simp (maxSteps := 2000000) only [go_sem, reduceIte, Nat.reduceEqDiff, Nat.reduceAdd, Nat.reduceLeDiff, Nat.reduceBEq, lk4, hxk, hxl, cx, Zo.iD, wS, wT, ws, hS1, hS2, hT1, hT2]
        rw [hS1, hS2] at pS
        rw [hT1, hT2] at pT
        exact ⟨k + 1, hlt, hmu, fin _ _ (by rw [pS]; rfl) (by rw [pT]; rfl)⟩
       | true =>
        simp (maxSteps := 2000000) only [go_sem, reduceIte, Nat.reduceEqDiff, Nat.reduceAdd, Nat.reduceLeDiff, Nat.reduceBEq, lk4, hxk, hxl, cx, Zo.iD, wS, wT, ws, hS1, hS2, hT1, hT2]
        rw [hS1, hS2] at pS
        rw [hT1, hT2] at pT
        exact ⟨k + 1, hlt, hmu, fin _ _ (by rw [pS]; rfl) (by rw [pT]; rfl)⟩
   ·have hk' : k = N := by simp [hxl] at h; omega
    subst hk'
    clear hk h
    obtain ⟨sn, hsn⟩ : ∃ sn, sn = Ce fS k := ⟨_, rfl⟩
    obtain ⟨tn, htn⟩ : ∃ tn, tn = Ce fT k := ⟨_, rfl⟩
    have hst : sn ≤ tn := by
     rw [hsn, htn]
     refine MX k (fun j hj hj2 => ?_)
     rw [hfS] at hj2
     rw [hfT]
     have := of_decide_eq_true hj2
     have := hroom j hj
     exact decide_eq_true (by omega)
    have htk : tn ≤ k := by rw [htn]; exact HC _ _
    have hst' : ¬ (tn : Int) < (sn : Int) := by omega
    have pl1 := Int.tmod_lt_of_pos pc (b := 40) (by decide)
    have pl0 := Int.tmod_nonneg 40 pc0
    have de1 := Int.tmod_lt_of_pos dd (b := 3) (by decide)
    have de0 := Int.tmod_nonneg 3 dd0
    obtain ⟨n, hn⟩ : ∃ n, n = 1 + Int.tmod pc 40 := ⟨_, rfl⟩
    obtain ⟨de, hde⟩ : ∃ de, de = Int.tmod dd 3 := ⟨_, rfl⟩
    have n1 : 1 ≤ n := by omega
    have n40 : n ≤ 40 := by omega
    have e0 : 0 ≤ de := by omega
    have e2 : de ≤ 2 := by omega
    have hlow2 : ∀ (m : Nat) (xs ys : List (List D)), [BM, Bl, B6, AB.cells (Zo.laC l), .cells [.d (.int .i64 n), .d (.int .i64 de), .d (.int .i64 0), .own 6 xs], .cells [.d (.int .i64 n), .d (.int .i64 de), .d (.int .i64 0), .own 7 ys], .grow m 3, .grow m 3].all (AB.low 8) = true := fun m xs ys => by
     show (AB.low 8 BM && (AB.low 8 Bl && (AB.low 8 B6 && (AB.low 8 (.cells (Zo.laC l)) && (AB.low 8 (.cells [.d (.int .i64 n), .d (.int .i64 de), .d (.int .i64 0), .own 6 xs]) && (AB.low 8 (.cells [.d (.int .i64 n), .d (.int .i64 de), .d (.int .i64 0), .own 7 ys]) && (AB.low 8 (.grow m 3) && (AB.low 8 (.grow m 3) && true)))))))) = true
     rw [Qe, MW, Qf]
     simp only [AB.low, Zo.laC_low, Bool.and_self, C.lowL, C.low]
     rfl
    have pln : ps.length ≤ 24 := by omega
    have wpc : wr .i64 pc = pc := BQ (by omega) (by omega)
    have wdd : wr .i64 dd = dd := BQ (by omega) (by omega)
    have wn : wr .i64 n = n := BQ (by omega) (by omega)
    simp (maxSteps := 2000000) only [go_sem, reduceIte, Nat.reduceEqDiff, Nat.reduceAdd, Nat.reduceLeDiff, Nat.reduceBEq, Int.reduceEq, lk4, ← hsn, ← htn, hst', wpc, wdd, ← hn, ← hde, wn]
    clear wpc wdd
    cases hs0 : decide ((sn : Int) = 0) with
    | true =>
     simp (maxSteps := 2000000) only [go_sem, reduceIte, Nat.reduceEqDiff, Nat.reduceAdd, Nat.reduceBEq, lk4, hs0]
     refine Az (wa _) rfl rfl (by first | exact wk_refls _ | (repeat constructor)) ?_
     simp (maxSteps := 2000000) only [go_sem, reduceIte, Nat.reduceEqDiff, lk4]
     all_goals first | exact .refl _ | exact ⟨.refl _, .refl _⟩ | exact ⟨.refl _, .refl _, .refl _⟩ | exact ⟨.refl _, _, rfl⟩ | exact ⟨_, rfl⟩ | exact ⟨.refl _, [], by simp⟩ | exact ⟨[], by simp⟩
    | false =>
     have sn1 : 1 ≤ (sn : Int) := by have := of_decide_eq_false hs0; omega
     have tn1 : 1 ≤ (tn : Int) := by omega
     have sn9 : (sn : Int) ≤ 100 := by omega
     have tn9 : (tn : Int) ≤ 100 := by omega
     have nz : decide (n = 0) = false := by simp; omega
     have nz' : ¬ n = 0 := by omega
     simp (maxSteps := 2000000) only [go_sem, reduceIte, Nat.reduceEqDiff, Nat.reduceAdd, Nat.reduceBEq, lk4, hs0]
     refine goE_loop (bad := [14]) (kp := kp4) (fun i : Nat => { slots := [(4, .c (.d (.sl (ps.map p2D)))), (6, .c (.d (.int .u32 b))), (18, I sn), (19, I tn), (23, I n), (24, .c (.ptr 4 0)), (25, .c (.ptr 5 0)), (26, I i)], heap := [BM, Bl, B6, .cells (Zo.laC l), .cells [.d (.int .i64 n), .d (.int .i64 de), .d (.int .i64 0), .own 6 (rcs n sn (ps.take i))], .cells [.d (.int .i64 n), .d (.int .i64 de), .d (.int .i64 0), .own 7 (rcs n tn (ps.take i))], .grow i 3, .grow i 3], marks := [] }) (fun i => i ≤ ps.length) (fun i => ps.length - i) 0 mo (by kernel_rfl) ?_ (Nat.zero_le _) ?_
     ·refine Ent.trans (Hp 4 3 3 rfl rfl) ?_
      refine Ent.trans (Hp 5 3 3 rfl rfl) ?_
      refine ent_weaken [] rfl rfl (show 3 ≤ 8 by decide) (hlow2 0 [] []) rfl ?_
      simp (maxSteps := 2000000) only [go_sem, reduceIte, Nat.reduceEqDiff, Nat.reduceAdd, Nat.reduceLT, lk4]
      all_goals first | exact .refl _ | exact ⟨.refl _, .refl _⟩ | exact ⟨.refl _, .refl _, .refl _⟩ | exact ⟨.refl _, _, rfl⟩ | exact ⟨_, rfl⟩ | exact ⟨.refl _, [], by simp⟩ | exact ⟨[], by simp⟩
     rintro i hi
     simp (maxSteps := 2000000) only [go_sem, reduceIte, Nat.reduceEqDiff, Nat.reduceAdd, Nat.reduceBEq, lk4]
     refine goE_if (fun h => ?_) (fun h => ?_)
     ·have hlt : i < ps.length := by simpa using h
      obtain ⟨p, hp⟩ := Bm hlt
      obtain ⟨b0, b1, b2, b3⟩ := hps p (List.mem_of_getElem? hp)
      have hpm : (ps.map p2D)[i]? = some [.int .u8 p.1, .int .u8 p.2] := by rw [List.getElem?_map, hp]; rfl
      have cx : (decide ((0 : Int) ≤ (i : Int)) && decide ((i : Int) < (ps.length : Int))) = true := by simp; omega
      have a1 := Int.tmod_lt_of_pos p.1 (b := n) (by omega)
      have a0 := Int.tmod_nonneg n b0
      have htk2 : (ps.take i).length = i := by simp; omega
      have hmu : ps.length - (i + 1) < ps.length - i := by omega
      have pl24 : ps.length ≤ 140737488355328 := by omega
      have hcap : decide ((i + 1 + (i + 1) / 4 + 256) * 24 ≤ 281474976710656) = true := by simp; omega
      have hcap2 : decide (i ≤ 140737488355327) = true := by simp; omega
      obtain ⟨v1, v2, v3, v4, v5⟩ := rc_w n1 n40 a0 a1 (show (0 : Int) ≤ (sn : Int) by omega) sn9
      obtain ⟨u1, u2, u3, u4, u5⟩ := rc_w n1 n40 a0 a1 (show (0 : Int) ≤ (tn : Int) by omega) tn9
      have wp1 := VR b0 b1
      have wp2 := VR b2 b3
      simp (maxSteps := 2000000) only [go_sem, reduceIte, Nat.reduceEqDiff, Nat.reduceAdd, Nat.reduceLT, Nat.reduceLeDiff, Nat.reduceBEq, Nat.reduceMul, Int.reduceLT, Int.reduceLE, Int.reduceToNat, lk4, hpm, hp, p2D, cx, nz, nz', wp1, wp2, v1, v2, v3, v4, v5, u1, u2, u4, u5, HK, HL, rcs, List.length_map, htk2, hcap, hcap2]
      refine ⟨by simp [pD], by simp [pD], i + 1, hlt, hmu, ?_⟩
      refine ent_weaken [] (by simp only [rcs, DK hp, List.map_append, List.map_cons, List.map_nil, pD, rcP, List.append_nil]) rfl (show 3 ≤ 8 by decide) (hlow2 (i + 1) (rcs n sn (ps.take (i + 1))) (rcs n tn (ps.take (i + 1)))) rfl ?_
      simp (maxSteps := 2000000) only [go_sem, reduceIte, Nat.reduceEqDiff, Nat.reduceAdd, Nat.reduceLT, lk4, An hlt pl24]
      all_goals first | exact .refl _ | exact ⟨.refl _, .refl _⟩ | exact ⟨.refl _, .refl _, .refl _⟩ | exact ⟨.refl _, _, rfl⟩ | exact ⟨_, rfl⟩ | exact ⟨.refl _, [], by simp⟩ | exact ⟨[], by simp⟩
     ·have hi' : i = ps.length := by simp at h; omega
      subst hi'
      clear h hi
      have hR : OkR (rcR n de sn ps) := aDb n1 n40 e0 e2 sn1 pln (fun p hp => by have := hps p hp; omega)
      have hX : OkR (rcR n de tn ps) := aDb n1 n40 e0 e2 tn1 pln (fun p hp => by have := hps p hp; omega)
      have nest : HE (rcR n de sn ps) (rcR n de tn ps) := aFw (by omega)
      obtain ⟨R, hRe⟩ : ∃ R, R = rcR n de sn ps := ⟨_, rfl⟩
      obtain ⟨X, hXe⟩ : ∃ X, X = rcR n de tn ps := ⟨_, rfl⟩
      obtain ⟨ds, hds⟩ : ∃ ds, ds = rcs n sn ps := ⟨_, rfl⟩
      obtain ⟨es, hes⟩ : ∃ es, es = rcs n tn ps := ⟨_, rfl⟩
      have vR : BF R = .agg [.d (.int .i64 n), .d (.int .i64 de), .d (.int .i64 0), .d (.sl ds)] := by
       rw [hRe, hds]; simp [BF, AM, rcR, rcs]
      have vX : BF X = .agg [.d (.int .i64 n), .d (.int .i64 de), .d (.int .i64 0), .d (.sl es)] := by
       rw [hXe, hes]; simp [BF, AM, rcR, rcs]
      have lR : R.ps.length = ps.length := by rw [hRe, E0]
      have plR : R.pl = n := by rw [hRe]; rfl
      rw [← hRe, ← hXe] at nest
      rw [← hRe] at hR
      rw [← hXe] at hX
      have h27 := aDc R b (by rw [lR]; exact pln)
      have kR := Qh hR b
      have kX : DB X (chN b R.ps.length) = 0 := by have := Qh hX b; rw [nest.len] at this; exact this
      obtain ⟨ch, hch⟩ : ∃ ch, ch = chN b R.ps.length := ⟨_, rfl⟩
      rw [← hch] at h27 kR kX
      have h28 := aF3 R ch
      have h28x := aF3 X ch
      have h29 := TS R ch
      have h29x := TS X ch
      rw [if_pos kR, kR] at h28
      rw [if_pos kX, kX] at h28x
      have hv : (BV R ch = 0 ∧ BV X ch = 0) ∨ (BV R ch = 18 ∧ BV X ch = 0) ∨ (BV R ch = 18 ∧ BV X ch = 18) := by
       simp only [BV, kR, kX, ne_eq, not_true_eq_false, if_false]
       cases h1 : CJ R ch with
       | true => rw [nest.holds h1]; simp
       | false => cases CJ X ch <;> simp
      obtain ⟨b1, c1, pr1, m1, s1, _, s3, s4⟩ := IK hR
      obtain ⟨b2, c2, pr2, m2, q1, _, q3, q4⟩ := IK hX
      obtain ⟨g1, hg1⟩ : ∃ g1, g1 = if BV R ch = 0 then costL R ch else 0 := ⟨_, rfl⟩
      obtain ⟨g2, hg2⟩ : ∃ g2, g2 = if BV X ch = 0 then costL X ch else 0 := ⟨_, rfl⟩
      rw [← hg1] at h29
      rw [← hg2] at h29x
      generalize BV R ch = v1 at hv h29
      generalize BV X ch = v2 at hv h29x
      obtain ⟨al, hal⟩ : ∃ al, al = Jv R (ind ch) := ⟨_, rfl⟩
      obtain ⟨bl, hbl⟩ : ∃ bl, bl = Jv X (ind ch) := ⟨_, rfl⟩
      have ala : al.length = n.toNat := by rw [hal, KK, plR]
      have bla : bl.length = n.toNat := by rw [hbl, KK, nest.pl, plR]
      have nn : ((n.toNat : Nat) : Int) = n := by omega
      have hle : ∀ (i : Nat), i < n.toNat → ∃ u v, al[i]? = some u ∧ bl[i]? = some v ∧ ¬ v < u := fun i hi => by
       refine ⟨litP R (ind ch) R.ps.length i, litP X (ind ch) X.ps.length i, ?_, ?_, ?_⟩
       ·rw [hal]; simp [Jv, plR, hi]
       ·rw [hbl]; simp [Jv, nest.pl, plR, hi]
       ·have := nest.litP (fun j => (F5 ch j).1) (i : Int) R.ps.length (Nat.le_refl _)
        rw [nest.len]; omega
      rw [← hal] at h28
      rw [← hbl] at h28x
      have t1 := fun T => atGH s1 rfl rfl T
      have t2 := fun T => atGH q1 rfl rfl T
      rw [vR] at h27 h28 h29 t1
      rw [vX] at h28x h29x t2
      simp only [ints] at h27 h28 h29 h28x h29x t1 t2
      have htb : b1 = true → b2 = true ∧ m2 ≤ m1 := fun h1 => by
       have hb := s3 h1
       cases b2 with
       | true => exact ⟨rfl, nest.best hX hb (q3 rfl)⟩
       | false => have := q4 rfl c1; rw [nest.holds hb.hold] at this; cases this
      clear hg1 hg2 s1 q1 s3 s4 q3 q4
      have nle : n.toNat ≤ 140737488355328 := by omega
      rcases hv with ⟨rfl, rfl⟩ | ⟨rfl, rfl⟩ | ⟨rfl, rfl⟩ <;>
      ·simp (maxSteps := 2000000) only [go_sem, reduceIte, Nat.reduceEqDiff, Nat.reduceAdd, Nat.reduceBEq, lk4, List.take_length, ← hds, ← hes]
       refine Aj (h27) rfl rfl (by first | exact wk_refls _ | (repeat constructor)) ?_
       simp (maxSteps := 2000000) only [go_sem, reduceIte, Nat.reduceEqDiff, Nat.reduceAdd, lk4]
       refine Aj (h28) rfl rfl (by first | exact wk_refls _ | (repeat constructor)) ?_
       simp (maxSteps := 2000000) only [go_sem, reduceIte, Nat.reduceEqDiff, Nat.reduceAdd, lk4]
       refine Aj (h28x) rfl rfl (by first | exact wk_refls _ | (repeat constructor)) ?_
       simp (maxSteps := 2000000) only [go_sem, reduceIte, Nat.reduceEqDiff, Nat.reduceAdd, lk4]
       refine Aj (h29) rfl rfl (by first | exact wk_refls _ | (repeat constructor)) ?_
       simp (maxSteps := 2000000) only [go_sem, reduceIte, Nat.reduceEqDiff, Nat.reduceAdd, lk4]
       refine Aj (h29x) rfl rfl (by first | exact wk_refls _ | (repeat constructor)) ?_
       simp (maxSteps := 2000000) only [go_sem, reduceIte, Nat.reduceEqDiff, Nat.reduceAdd, Nat.reduceBEq, Int.reduceEq, lk4, ala, bla, nn]
       refine goE_loop (bad := [14]) (kp := kp4) (fun i : Nat => { slots := [(23, I n), (24, .c (.ptr 4 0)), (25, .c (.ptr 5 0)), (30, .c (.d (.sl (al.map iD)))), (32, .c (.d (.sl (bl.map iD)))), (38, I i)], heap := [BM, Bl, B6, .cells (Zo.laC l), .cells [.d (.int .i64 n), .d (.int .i64 de), .d (.int .i64 0), .own 6 ds], .cells [.d (.int .i64 n), .d (.int .i64 de), .d (.int .i64 0), .own 7 es], .grow ps.length 3, .grow ps.length 3], marks := [] }) (fun i => i ≤ n.toNat) (fun i => n.toNat - i) 0 mo (by kernel_rfl) ?_ (Nat.zero_le _) ?_
       ·exact Ent.refl
       rintro i hi
       simp (maxSteps := 2000000) only [go_sem, reduceIte, Nat.reduceEqDiff, Nat.reduceAdd, Nat.reduceBEq, lk4]
       refine goE_if (fun h => ?_) (fun h => ?_)
       ·have hlt : i < n.toNat := by have := of_decide_eq_true h; omega
        obtain ⟨u, v, hu, hv, huv⟩ := hle i hlt
        have cx : (decide ((0 : Int) ≤ (i : Int)) && decide ((i : Int) < n)) = true := by rw [h]; simp
        have hmu : n.toNat - (i + 1) < n.toNat - i := by omega
        simp (maxSteps := 2000000) only [go_sem, reduceIte, Nat.reduceEqDiff, Nat.reduceAdd, Nat.reduceBEq, lk4, hu, hv, iD, ala, bla, nn, cx, huv, An hlt nle]
        refine ⟨i + 1, hlt, hmu, ?_⟩
        refine ent_weaken [] (by simp only [List.append_nil]) rfl (show 3 ≤ 8 by decide) (hlow2 ps.length ds es) rfl ?_
        simp (maxSteps := 2000000) only [go_sem, reduceIte, Nat.reduceEqDiff, Nat.reduceAdd, Nat.reduceLT, lk4]
        all_goals first | exact .refl _ | exact ⟨.refl _, .refl _⟩ | exact ⟨.refl _, .refl _, .refl _⟩ | exact ⟨.refl _, _, rfl⟩ | exact ⟨_, rfl⟩ | exact ⟨.refl _, [], by simp⟩ | exact ⟨[], by simp⟩
       ·simp (maxSteps := 2000000) only [go_sem, reduceIte, Nat.reduceEqDiff, Nat.reduceAdd, Nat.reduceBEq, lk4]
        refine Az (t1 _) rfl rfl (by first | exact wk_refls _ | (repeat constructor)) ?_
        simp (maxSteps := 2000000) only [go_sem, reduceIte, Nat.reduceEqDiff, Nat.reduceAdd, lk4]
        refine Az (t2 _) rfl rfl (by first | exact wk_refls _ | (repeat constructor)) ?_
        cases b1 with
        | false =>
         simp (maxSteps := 2000000) only [go_sem, reduceIte, Nat.reduceEqDiff, Int.reduceEq, lk4]
         refine Az (wa _) rfl rfl (by first | exact wk_refls _ | (repeat constructor)) ?_
         simp (maxSteps := 2000000) only [go_sem, reduceIte, Nat.reduceEqDiff, lk4]
         all_goals first | exact .refl _ | exact ⟨.refl _, .refl _⟩ | exact ⟨.refl _, .refl _, .refl _⟩ | exact ⟨.refl _, _, rfl⟩ | exact ⟨_, rfl⟩ | exact ⟨.refl _, [], by simp⟩ | exact ⟨[], by simp⟩
        | true =>
         obtain ⟨rfl, hm⟩ := htb rfl
         simp (maxSteps := 2000000) only [go_sem, reduceIte, Nat.reduceEqDiff, lk4, hm]
         refine Az (wa _) rfl rfl (by first | exact wk_refls _ | (repeat constructor)) ?_
         simp (maxSteps := 2000000) only [go_sem, reduceIte, Nat.reduceEqDiff, lk4]
         all_goals first | exact .refl _ | exact ⟨.refl _, .refl _⟩ | exact ⟨.refl _, .refl _, .refl _⟩ | exact ⟨.refl _, _, rfl⟩ | exact ⟨_, rfl⟩ | exact ⟨.refl _, [], by simp⟩ | exact ⟨[], by simp⟩
end Go.Proofs.YtfgdbeijjbijnaaGreatDoor
set_option linter.unusedSimpArgs false
set_option linter.unusedVariables false
set_option maxRecDepth 100000
namespace Go.Proofs.YtfgdbeijjbijnaaGreatDoor
open Go Go.Abs Go.Proofs
theorem Ga {α : Type} {f : α → List D} {P : List D → Prop} {Q : α → Prop} : ∀ {rows : List (List D)}, (∀ r ∈ rows, P r) → (∀ r, P r → ∃ a, r = f a ∧ Q a) → ∃ l : List α, rows = l.map f ∧ ∀ a ∈ l, Q a
 | [], _, _ => ⟨[], rfl, fun a h => by cases h⟩
 | r :: rows, h, hf => by
  obtain ⟨a, ha, qa⟩ := hf r (h r (by simp))
  obtain ⟨l, hl, ql⟩ := Ga (fun r hr => h r (List.mem_cons_of_mem _ hr)) hf
  refine ⟨a :: l, by rw [ha, hl]; rfl, fun x hx => ?_⟩
  rcases List.mem_cons.1 hx with rfl | hx
  ·exact qa
  ·exact ql x hx
theorem aDT {n : Nat} {ds : List D} (h : BE Tryz.prog n 70 ds) : ∃ m : Int, ds = [.int .u32 m] := by
 cases n with
 | zero => exact h.elim
 | succ n => simp only [BE, Tryz.underlying70] at h; obtain ⟨m, h, _⟩ := h; exact ⟨m, h⟩
theorem aFP {n : Nat} {ds : List D} (h : BE Tryz.prog n 70 ds) : ∃ m : Int, Dz Tryz.prog 70 ds = .c (.d (.int .u32 m)) := by
 obtain ⟨m, rfl⟩ := aDT h; exact ⟨m, by simp [Dz, Tryz.underlying70]⟩
theorem Ni {n : Nat} {ds : List D} (h : BE Tryz.prog n 26 ds) : ∃ l : List Int, ds = [.sl (l.map Zo.iD)] := by
 cases n with
 | zero => exact h.elim
 | succ n =>
  simp only [BE, Tryz.underlying26] at h
  obtain ⟨rows, rfl, hw, hr⟩ := h
  obtain ⟨l, rfl, _⟩ := Ga (f := Zo.iD) (Q := fun _ => True) hr (fun r h => by obtain ⟨m, e⟩ := KW h; exact ⟨m, e, trivial⟩)
  exact ⟨l, rfl⟩
theorem Vm {n : Nat} {ds : List D} (h : BE Tryz.prog n 65 ds) : ∃ l : List Bool, ds = [.sl (l.map Zo.bD)] := by
 cases n with
 | zero => exact h.elim
 | succ n =>
  simp only [BE, Tryz.underlying65] at h
  obtain ⟨rows, rfl, hw, hr⟩ := h
  obtain ⟨l, rfl, _⟩ := Ga (f := Zo.bD) (Q := fun _ => True) hr (fun r h => by
   cases n with
   | zero => exact h.elim
   | succ n => simp only [BE, Tryz.underlying4] at h; obtain ⟨b, e⟩ := h; exact ⟨b, e, trivial⟩)
  exact ⟨l, rfl⟩
theorem aFQ {n : Nat} {ds : List D} (h : BE Tryz.prog n 23 ds) : ∃ l : List Zo.Rg, ds = [.sl (l.map Zo.rgD)] := by
 cases n with
 | zero => exact h.elim
 | succ n =>
  simp only [BE, Tryz.underlying23] at h
  obtain ⟨rows, rfl, hw, hr⟩ := h
  obtain ⟨l, rfl, _⟩ := Ga (f := Zo.rgD) (Q := fun _ => True) hr (fun r h => by
   cases n with
   | zero => exact h.elim
   | succ n =>
    simp only [BE, Tryz.underlying46] at h
    obtain ⟨a, b, rfl, h1, c, d, rfl, h2, h3⟩ := h
    have h3 : d = [] := h3
    subst h3
    obtain ⟨m, rfl⟩ := KW h1
    obtain ⟨k, rfl⟩ := KW h2
    exact ⟨⟨m, k⟩, rfl, trivial⟩)
  exact ⟨l, rfl⟩
theorem aDU {n : Nat} {ds : List D} (h : BE Tryz.prog n 67 ds) : ∃ l, Dz Tryz.prog 67 ds = Zo.laV l := by
 cases n with
 | zero => exact h.elim
 | succ n =>
  simp only [BE, Tryz.underlying67] at h
  obtain ⟨a, b, rfl, h1, c, d, rfl, h2, e, f, rfl, h3, g, i, rfl, h4, h5⟩ := h
  have h5 : i = [] := h5
  subst h5
  obtain ⟨x1, rfl⟩ := Ni h1
  obtain ⟨x2, rfl⟩ := aFQ h2
  obtain ⟨x3, rfl⟩ := Vm h3
  obtain ⟨x4, rfl⟩ := Ni h4
  exact ⟨⟨x1, x2, x3, x4⟩, by simp [Dz, Tryz.underlying67, Zo.laV, Zo.laC]⟩
theorem aFR {n : Nat} {ds : List D} (h : BE Tryz.prog n 68 ds) : ∃ l, Dz Tryz.prog 68 ds = Zo.u8s l ∧ Zo.U8 l := by
 cases n with
 | zero => exact h.elim
 | succ n =>
  simp only [BE, Tryz.underlying68] at h
  obtain ⟨rows, rfl, hw, hr⟩ := h
  obtain ⟨l, rfl, hb⟩ := Ga (f := fun b : Int => [D.int .u8 b]) (Q := fun x => 0 ≤ x ∧ x < 256) hr (fun r h => by
   obtain ⟨m, e, h0, h1⟩ := Oy h
   exact ⟨m, e, h0, by omega⟩)
  exact ⟨l, by simp [Dz, Tryz.underlying68, Zo.u8s], hb⟩
theorem Vn {n : Nat} {ds : List D} (h : BE Tryz.prog n 69 ds) : ∃ l : List (Int × Int), Dz Tryz.prog 69 ds = .c (.d (.sl (l.map p2D))) ∧ ∀ p ∈ l, 0 ≤ p.1 ∧ p.1 ≤ 255 ∧ 0 ≤ p.2 ∧ p.2 ≤ 255 := by
 cases n with
 | zero => exact h.elim
 | succ n =>
  simp only [BE, Tryz.underlying69] at h
  obtain ⟨rows, rfl, hw, hr⟩ := h
  obtain ⟨l, rfl, hb⟩ := Ga (f := p2D) (Q := fun p => 0 ≤ p.1 ∧ p.1 ≤ 255 ∧ 0 ≤ p.2 ∧ p.2 ≤ 255) hr (fun r h => by
   cases n with
   | zero => exact h.elim
   | succ n =>
    simp only [BE, Tryz.underlying78] at h
    obtain ⟨a, b, rfl, h1, c, d, rfl, h2, h3⟩ := h
    have h3 : d = [] := h3
    subst h3
    obtain ⟨m, rfl, b1, b2⟩ := Oy h1
    obtain ⟨k, rfl, b3, b4⟩ := Oy h2
    exact ⟨(m, k), rfl, b1, b2, b3, b4⟩)
  exact ⟨l, by simp [Dz, Tryz.underlying69], hb⟩
end Go.Proofs.YtfgdbeijjbijnaaGreatDoor
set_option linter.unusedSimpArgs false
set_option linter.unusedVariables false
set_option maxRecDepth 100000
namespace Go.Proofs.YtfgdbeijjbijnaaGreatDoor
open Go Go.Abs Go.Proofs
set_option maxHeartbeats 4000000 in
theorem Gi : joinedFacts Tryz.pinned.checked.prog 4 Tryz.f4 (OpenSpec.ofChange Rows.topSureReachSpec).bare Rows.topSureReachRow = true := by
 simp only [joinedFacts, Bool.and_eq_true]
 refine ⟨⟨⟨⟨⟨⟨⟨⟨⟨⟨⟨⟨⟨⟨⟨⟨⟨⟨⟨⟨⟨⟨⟨⟨⟨⟨⟨⟨⟨⟨⟨?_, ?_⟩, ?_⟩, ?_⟩, ?_⟩, ?_⟩, ?_⟩, ?_⟩, ?_⟩, ?_⟩, ?_⟩, ?_⟩, ?_⟩, ?_⟩, ?_⟩, ?_⟩, ?_⟩, ?_⟩, ?_⟩, ?_⟩, ?_⟩, ?_⟩, ?_⟩, ?_⟩, ?_⟩, ?_⟩, ?_⟩, ?_⟩, ?_⟩, ?_⟩, ?_⟩, ?_⟩
 all_goals as_aux_lemma => kernel_rfl
end Go.Proofs.YtfgdbeijjbijnaaGreatDoor
