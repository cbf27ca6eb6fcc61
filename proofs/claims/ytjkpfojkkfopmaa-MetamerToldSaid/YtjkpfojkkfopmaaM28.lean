/- Metamers: sets that are told, walked. -/
import Derived.Test.YtjkpfojkkfopmaaM27
import Derived.Test.YtjkpfojkkfopmaaM19
set_option linter.unusedSimpArgs false
set_option linter.unusedVariables false
set_option maxRecDepth 100000
namespace Go.Proofs.Ytjkpfojkkfopmaa
open Go Go.Abs Go.Proofs
def kp11 : List (Nat × List Nat) := [(0, [1, 2, 3, 4]), (1, [1, 2, 3, 4, 52]), (2, [8]), (3, [1, 2, 3, 4, 9, 10, 11]), (4, [2, 3, 4, 9, 10, 11, 12]), (5, [2, 3, 4, 9, 10, 11, 12, 13, 14]), (6, [2, 3, 4, 9, 10, 11, 12, 13, 82]), (7, [8]), (8, [2, 3, 4, 9, 10, 11, 12, 13, 15]), (9, [2, 3, 4, 9, 10, 11, 12, 13, 15, 16]), (10, [2, 3, 4, 9, 10, 11, 12, 13, 15, 16, 86]), (11, [2, 3, 4, 9, 10, 11, 12, 13, 15, 16]), (12, [2, 3, 4, 9, 10, 11, 12, 13, 15, 16]), (13, [3, 4, 9, 10, 11, 12, 15, 17, 18]), (14, [3, 4, 9, 10, 11, 12, 15, 17, 118]), (15, [8]), (16, [3, 4, 9, 10, 11, 12, 15, 17, 19]), (17, [3, 4, 9, 10, 11, 12, 15, 17, 19, 20]), (18, [3, 4, 9, 10, 11, 12, 15, 17, 19, 20, 122]), (19, [3, 4, 9, 10, 11, 12, 15, 17, 19, 20]), (20, [3, 4, 9, 10, 11, 12, 15, 17, 19, 20, 169]), (21, [8]), (22, [3, 4, 9, 10, 11, 12, 15, 17, 19, 20]), (23, [3, 4, 9, 10, 11, 17, 180]), (24, [8]), (25, [3, 4, 9, 10, 11, 17, 182]), (26, [17, 21, 22]), (27, [8]), (28, [4, 9, 10, 238]), (29, [8]), (30, [4, 9, 10, 23, 24]), (31, [4, 9, 10, 23, 24, 251]), (32, [8]), (33, [4, 9, 10, 23, 24, 25]), (34, [4, 9, 10, 23, 24, 25, 26]), (35, [4, 9, 10, 23, 24, 25, 26, 255]), (36, [4, 9, 10, 23, 24, 25, 26]), (37, [4, 9, 10, 23, 24, 25, 26]), (38, [9, 10, 18, 27]), (39, [9, 10, 27, 289]), (40, [8]), (41, [9, 10, 27, 28]), (42, [9, 10, 27, 28, 29]), (43, [9, 10, 27, 28, 29, 293]), (44, [9, 10, 27, 28, 29]), (45, [9, 10, 27, 28, 29, 309]), (46, [9, 10, 27, 28, 29]), (47, [8])]
theorem lk11 : lookK kp11 0 = some [1, 2, 3, 4] ∧ lookK kp11 1 = some [1, 2, 3, 4, 52] ∧ lookK kp11 2 = some [8] ∧ lookK kp11 3 = some [1, 2, 3, 4, 9, 10, 11] ∧ lookK kp11 4 = some [2, 3, 4, 9, 10, 11, 12] ∧ lookK kp11 5 = some [2, 3, 4, 9, 10, 11, 12, 13, 14] ∧ lookK kp11 6 = some [2, 3, 4, 9, 10, 11, 12, 13, 82] ∧ lookK kp11 7 = some [8] ∧ lookK kp11 8 = some [2, 3, 4, 9, 10, 11, 12, 13, 15] ∧ lookK kp11 9 = some [2, 3, 4, 9, 10, 11, 12, 13, 15, 16] ∧ lookK kp11 10 = some [2, 3, 4, 9, 10, 11, 12, 13, 15, 16, 86] ∧ lookK kp11 11 = some [2, 3, 4, 9, 10, 11, 12, 13, 15, 16] ∧ lookK kp11 12 = some [2, 3, 4, 9, 10, 11, 12, 13, 15, 16] ∧ lookK kp11 13 = some [3, 4, 9, 10, 11, 12, 15, 17, 18] ∧ lookK kp11 14 = some [3, 4, 9, 10, 11, 12, 15, 17, 118] ∧ lookK kp11 15 = some [8] ∧ lookK kp11 16 = some [3, 4, 9, 10, 11, 12, 15, 17, 19] ∧ lookK kp11 17 = some [3, 4, 9, 10, 11, 12, 15, 17, 19, 20] ∧ lookK kp11 18 = some [3, 4, 9, 10, 11, 12, 15, 17, 19, 20, 122] ∧ lookK kp11 19 = some [3, 4, 9, 10, 11, 12, 15, 17, 19, 20] ∧ lookK kp11 20 = some [3, 4, 9, 10, 11, 12, 15, 17, 19, 20, 169] ∧ lookK kp11 21 = some [8] ∧ lookK kp11 22 = some [3, 4, 9, 10, 11, 12, 15, 17, 19, 20] ∧ lookK kp11 23 = some [3, 4, 9, 10, 11, 17, 180] ∧ lookK kp11 24 = some [8] ∧ lookK kp11 25 = some [3, 4, 9, 10, 11, 17, 182] ∧ lookK kp11 26 = some [17, 21, 22] ∧ lookK kp11 27 = some [8] ∧ lookK kp11 28 = some [4, 9, 10, 238] ∧ lookK kp11 29 = some [8] ∧ lookK kp11 30 = some [4, 9, 10, 23, 24] ∧ lookK kp11 31 = some [4, 9, 10, 23, 24, 251] ∧ lookK kp11 32 = some [8] ∧ lookK kp11 33 = some [4, 9, 10, 23, 24, 25] ∧ lookK kp11 34 = some [4, 9, 10, 23, 24, 25, 26] ∧ lookK kp11 35 = some [4, 9, 10, 23, 24, 25, 26, 255] ∧ lookK kp11 36 = some [4, 9, 10, 23, 24, 25, 26] ∧ lookK kp11 37 = some [4, 9, 10, 23, 24, 25, 26] ∧ lookK kp11 38 = some [9, 10, 18, 27] ∧ lookK kp11 39 = some [9, 10, 27, 289] ∧ lookK kp11 40 = some [8] ∧ lookK kp11 41 = some [9, 10, 27, 28] ∧ lookK kp11 42 = some [9, 10, 27, 28, 29] ∧ lookK kp11 43 = some [9, 10, 27, 28, 29, 293] ∧ lookK kp11 44 = some [9, 10, 27, 28, 29] ∧ lookK kp11 45 = some [9, 10, 27, 28, 29, 309] ∧ lookK kp11 46 = some [9, 10, 27, 28, 29] ∧ lookK kp11 47 = some [8] := ⟨rfl, rfl, rfl, rfl, rfl, rfl, rfl, rfl, rfl, rfl, rfl, rfl, rfl, rfl, rfl, rfl, rfl, rfl, rfl, rfl, rfl, rfl, rfl, rfl, rfl, rfl, rfl, rfl, rfl, rfl, rfl, rfl, rfl, rfl, rfl, rfl, rfl, rfl, rfl, rfl, rfl, rfl, rfl, rfl, rfl, rfl, rfl, rfl⟩

theorem any_succ {l : List Int} {i : Nat} {x s : Int} (h : l[i]? = some x) : (l.take (i + 1)).any (fun y => decide (y = s)) = ((l.take i).any (fun y => decide (y = s)) || decide (x = s)) := by
  rw [take_succ_eq h, List.any_append]; simp
theorem flt_succ {l : List Int} {i : Nat} {x : Int} (q : Int → Bool) (h : l[i]? = some x) : ((l.take (i + 1)).filter q).length = ((l.take i).filter q).length + (if q x then 1 else 0) := by
  rw [take_succ_eq h, List.filter_append, List.length_append]
  simp only [List.filter_cons, List.filter_nil]
  split <;> rfl
set_option maxHeartbeats 8000000 in
theorem toldLaw (p : Pal) (set : Int) (off me : List Int) (h0 : 0 ≤ set) (h65 : set < 65536) (hoff : B16 off) : Pure Try.prog 11 [palV p, .c (.d (.int .u16 set)), u16s off, ints me] (B true) := by
  refine pure_wkE (bad := []) (kp := kp11) (X := tx) (nt := 317) (rs := [.tmp 8]) Try.func11 rfl rfl rfl rfl mo (by kernel_rfl) rfl rfl (fun hf => ?_)
  simp (config := { maxSteps := 2000000 }) only [go_sem, reduceIte, Nat.reduceEqDiff, Nat.reduceAdd, Nat.reduceLT, Nat.reduceLeDiff, Nat.reduceBEq, Nat.reduceMul, Nat.reduceSub, Nat.reduceDiv, Int.reduceNeg, Int.reduceLT, Int.reduceLE, Int.reduceEq, Int.reduceToNat, lk11, palV, palC, ints, u16s]
  by_cases hk : (12 : Int) < p.pig.length
  · simp (config := { maxSteps := 2000000 }) only [go_sem, reduceIte, Nat.reduceEqDiff, Nat.reduceAdd, Nat.reduceLT, Nat.reduceLeDiff, Nat.reduceBEq, Nat.reduceMul, Nat.reduceSub, Nat.reduceDiv, Int.reduceNeg, Int.reduceLT, Int.reduceLE, Int.reduceEq, Int.reduceToNat, lk11, hk]
    refine aops_pure' (works15) rfl rfl (by first | exact wk_refls _ | (repeat constructor)) ?_
    simp (config := { maxSteps := 2000000 }) only [go_sem, reduceIte, Nat.reduceEqDiff, Nat.reduceAdd, Nat.reduceLT, Nat.reduceLeDiff, Nat.reduceBEq, Nat.reduceMul, Nat.reduceSub, Nat.reduceDiv, Int.reduceNeg, Int.reduceLT, Int.reduceLE, Int.reduceEq, Int.reduceToNat, lk11]
  simp (config := { maxSteps := 2000000 }) only [go_sem, reduceIte, Nat.reduceEqDiff, Nat.reduceAdd, Nat.reduceLT, Nat.reduceLeDiff, Nat.reduceBEq, Nat.reduceMul, Nat.reduceSub, Nat.reduceDiv, Int.reduceNeg, Int.reduceLT, Int.reduceLE, Int.reduceEq, Int.reduceToNat, lk11, hk]
  refine aops_pure' (broad32 p 12) rfl rfl (by first | exact wk_refls _ | (repeat constructor)) ?_
  cases broadB p 12 with
  | true =>
    simp (config := { maxSteps := 2000000 }) only [go_sem, reduceIte, Nat.reduceEqDiff, Nat.reduceAdd, Nat.reduceLT, Nat.reduceLeDiff, Nat.reduceBEq, Nat.reduceMul, Nat.reduceSub, Nat.reduceDiv, Int.reduceNeg, Int.reduceLT, Int.reduceLE, Int.reduceEq, Int.reduceToNat, lk11]
    refine aops_pure' (works15) rfl rfl (by first | exact wk_refls _ | (repeat constructor)) ?_
    simp (config := { maxSteps := 2000000 }) only [go_sem, reduceIte, Nat.reduceEqDiff, Nat.reduceAdd, Nat.reduceLT, Nat.reduceLeDiff, Nat.reduceBEq, Nat.reduceMul, Nat.reduceSub, Nat.reduceDiv, Int.reduceNeg, Int.reduceLT, Int.reduceLE, Int.reduceEq, Int.reduceToNat, lk11]
  | false =>
  simp (config := { maxSteps := 2000000 }) only [go_sem, reduceIte, Nat.reduceEqDiff, Nat.reduceAdd, Nat.reduceLT, Nat.reduceLeDiff, Nat.reduceBEq, Nat.reduceMul, Nat.reduceSub, Nat.reduceDiv, Int.reduceNeg, Int.reduceLT, Int.reduceLE, Int.reduceEq, Int.reduceToNat, lk11, palC]
  refine aops_pure' (checkPal38 p) rfl rfl (by first | exact wk_refls _ | (repeat constructor)) ?_
  by_cases hp0 : okPal p = 0
  case neg =>
    simp (config := { maxSteps := 2000000 }) only [go_sem, reduceIte, Nat.reduceEqDiff, Nat.reduceAdd, Nat.reduceLT, Nat.reduceLeDiff, Nat.reduceBEq, Nat.reduceMul, Nat.reduceSub, Nat.reduceDiv, Int.reduceNeg, Int.reduceLT, Int.reduceLE, Int.reduceEq, Int.reduceToNat, lk11, hp0]
    refine aops_pure' (works15) rfl rfl (by first | exact wk_refls _ | (repeat constructor)) ?_
    simp (config := { maxSteps := 2000000 }) only [go_sem, reduceIte, Nat.reduceEqDiff, Nat.reduceAdd, Nat.reduceLT, Nat.reduceLeDiff, Nat.reduceBEq, Nat.reduceMul, Nat.reduceSub, Nat.reduceDiv, Int.reduceNeg, Int.reduceLT, Int.reduceLE, Int.reduceEq, Int.reduceToNat, lk11]
  simp (config := { maxSteps := 2000000 }) only [go_sem, reduceIte, Nat.reduceEqDiff, Nat.reduceAdd, Nat.reduceLT, Nat.reduceLeDiff, Nat.reduceBEq, Nat.reduceMul, Nat.reduceSub, Nat.reduceDiv, Int.reduceNeg, Int.reduceLT, Int.reduceLE, Int.reduceEq, Int.reduceToNat, lk11, hp0]
  by_cases hl1 : (20 : Int) < off.length
  · simp (config := { maxSteps := 2000000 }) only [go_sem, reduceIte, Nat.reduceEqDiff, Nat.reduceAdd, Nat.reduceLT, Nat.reduceLeDiff, Nat.reduceBEq, Nat.reduceMul, Nat.reduceSub, Nat.reduceDiv, Int.reduceNeg, Int.reduceLT, Int.reduceLE, Int.reduceEq, Int.reduceToNat, lk11, hl1]
    refine aops_pure' (works15) rfl rfl (by first | exact wk_refls _ | (repeat constructor)) ?_
    simp (config := { maxSteps := 2000000 }) only [go_sem, reduceIte, Nat.reduceEqDiff, Nat.reduceAdd, Nat.reduceLT, Nat.reduceLeDiff, Nat.reduceBEq, Nat.reduceMul, Nat.reduceSub, Nat.reduceDiv, Int.reduceNeg, Int.reduceLT, Int.reduceLE, Int.reduceEq, Int.reduceToNat, lk11]
  by_cases hl2 : (20 : Int) < me.length
  · simp (config := { maxSteps := 2000000 }) only [go_sem, reduceIte, Nat.reduceEqDiff, Nat.reduceAdd, Nat.reduceLT, Nat.reduceLeDiff, Nat.reduceBEq, Nat.reduceMul, Nat.reduceSub, Nat.reduceDiv, Int.reduceNeg, Int.reduceLT, Int.reduceLE, Int.reduceEq, Int.reduceToNat, lk11, hl1, hl2]
    refine aops_pure' (works15) rfl rfl (by first | exact wk_refls _ | (repeat constructor)) ?_
    simp (config := { maxSteps := 2000000 }) only [go_sem, reduceIte, Nat.reduceEqDiff, Nat.reduceAdd, Nat.reduceLT, Nat.reduceLeDiff, Nat.reduceBEq, Nat.reduceMul, Nat.reduceSub, Nat.reduceDiv, Int.reduceNeg, Int.reduceLT, Int.reduceLE, Int.reduceEq, Int.reduceToNat, lk11]
  have hp := (okPal_iff p).1 hp0
  have h12 := hp.k12
  have hpw := pow12 h12
  have ea := hp.e0
  have eb := hp.e1
  have hn8 := hp.n8
  have hcl := clash40 p
  have hcc : (clR p = (0, 0, 5) ∧ cS p = none) ∨ ∃ s t : Nat, clR p = ((s : Int), (t : Int), 0) ∧ cS p = some s ∧ s < t ∧ t < 2 ^ p.pig.length ∧ nearP p s t = true := by
    cases hc : cS p with
    | none => exact .inl ⟨clR_none hp0 hc, rfl⟩
    | some s =>
      obtain ⟨t, ht, h1, h2, h3⟩ := cS_spec hc
      exact .inr ⟨s, t, clR_some hp0 hc ht, rfl, h1, h2, h3⟩
  obtain ⟨A, Bq, E, hA⟩ : ∃ A Bq E, clR p = (A, Bq, E) := ⟨_, _, _, rfl⟩
  rw [clV_of hA] at hcl
  obtain ⟨sn, rfl⟩ := Int.eq_ofNat_of_zero_le h0
  have hpos : 0 < 2 ^ p.pig.length := Nat.two_pow_pos _
  have w0 : wr .i64 (sn : Int) = (sn : Int) := by rw [wr_i64] <;> omega
  have t0 : ((sn : Int)).tmod ((2 ^ p.pig.length : Nat) : Int) = ((sn % 2 ^ p.pig.length : Nat) : Int) := by rw [Int.tmod_eq_emod_of_nonneg (Int.natCast_nonneg _)]; rfl
  have hs : sn % 2 ^ p.pig.length < 2 ^ p.pig.length := Nat.mod_lt _ hpos
  have ws : wr .i64 ((sn % 2 ^ p.pig.length : Nat) : Int) = ((sn % 2 ^ p.pig.length : Nat) : Int) := by rw [wr_i64] <;> omega
  have hne : ¬ ((2 ^ p.pig.length : Nat) : Int) = 0 := by omega
  simp (config := { maxSteps := 2000000 }) only [go_sem, reduceIte, Nat.reduceEqDiff, Nat.reduceAdd, Nat.reduceLT, Nat.reduceLeDiff, Nat.reduceBEq, Nat.reduceMul, Nat.reduceSub, Nat.reduceDiv, Int.reduceNeg, Int.reduceLT, Int.reduceLE, Int.reduceEq, Int.reduceToNat, lk11, hl1, hl2, palC]
  refine aops_pure' (hcl) rfl rfl (by first | exact wk_refls _ | (repeat constructor)) ?_
  simp (config := { maxSteps := 2000000 }) only [go_sem, reduceIte, Nat.reduceEqDiff, Nat.reduceAdd, Nat.reduceLT, Nat.reduceLeDiff, Nat.reduceBEq, Nat.reduceMul, Nat.reduceSub, Nat.reduceDiv, Int.reduceNeg, Int.reduceLT, Int.reduceLE, Int.reduceEq, Int.reduceToNat, lk11, shl12 h12, z2, w0, t0, ws, hne, palC]
  generalize sn % 2 ^ p.pig.length = s at *
  have hm := mix33 p s
  rw [mixV_ok hp0 hs] at hm
  refine aops_pure' (hm) rfl rfl (by first | exact wk_refls _ | (repeat constructor)) ?_
  simp (config := { maxSteps := 2000000 }) only [go_sem, reduceIte, Nat.reduceEqDiff, Nat.reduceAdd, Nat.reduceLT, Nat.reduceLeDiff, Nat.reduceBEq, Nat.reduceMul, Nat.reduceSub, Nat.reduceDiv, Int.reduceNeg, Int.reduceLT, Int.reduceLE, Int.reduceEq, Int.reduceToNat, lk11, palC]
  refine aops_pure' (sum46 p s hp hs) rfl rfl (by first | exact wk_refls _ | (repeat constructor)) ?_
  simp (config := { maxSteps := 2000000 }) only [go_sem, reduceIte, Nat.reduceEqDiff, Nat.reduceAdd, Nat.reduceLT, Nat.reduceLeDiff, Nat.reduceBEq, Nat.reduceMul, Nat.reduceSub, Nat.reduceDiv, Int.reduceNeg, Int.reduceLT, Int.reduceLE, Int.reduceEq, Int.reduceToNat, lk11]
  refine aops_pure' (longs22 (sumL p s) (sumL p s)) rfl rfl (by first | exact wk_refls _ | (repeat constructor)) ?_
  simp (config := { maxSteps := 2000000 }) only [go_sem, reduceIte, Nat.reduceEqDiff, Nat.reduceAdd, Nat.reduceLT, Nat.reduceLeDiff, Nat.reduceBEq, Nat.reduceMul, Nat.reduceSub, Nat.reduceDiv, Int.reduceNeg, Int.reduceLT, Int.reduceLE, Int.reduceEq, Int.reduceToNat, lk11]
  have hsl := sumL_len p s
  have hlim : p.n ≤ 140737488355328 := by omega
  have wne : wr .i64 (-p.err) = -p.err := by rw [wr_i64] <;> omega
  have hsm := sumL_nonneg hp s
  refine goE_loop (bad := []) (kp := kp11) (fun i : Nat => { slots := [(2, u16s off), (3, ints me), (4, .c (.ptr 0 0)), (9, I A), (10, I Bq), (11, I E), (12, I s), (13, ints (sumL p s)), (15, .c (.own 1 ((offL p s off i).map iD))), (16, I i)], heap := [.cells (palC p), .grow i 1], marks := [] }) (fun i => i ≤ p.n) (fun i => p.n - i) 0 mo (by kernel_rfl) ?_ (Nat.zero_le _) ?_
  · refine Ent.trans (ent_own 15 1 rfl) ?_
    refine ent_weaken [] rfl rfl (Nat.zero_le _) rfl rfl ?_
    simp (config := { maxSteps := 2000000 }) only [go_sem, reduceIte, Nat.reduceEqDiff, Nat.reduceAdd, Nat.reduceLT, Nat.reduceLeDiff, Nat.reduceBEq, Nat.reduceMul, Nat.reduceSub, Nat.reduceDiv, Int.reduceNeg, Int.reduceLT, Int.reduceLE, Int.reduceEq, Int.reduceToNat, lk11, ints, u16s, palC, Int.natCast_zero]
    all_goals first | exact .refl _ | exact ⟨.refl _, .refl _⟩ | exact ⟨.refl _, .refl _, .refl _⟩ | exact ⟨.refl _, _, rfl⟩ | exact ⟨_, rfl⟩ | exact ⟨.refl _, [], by simp⟩ | exact ⟨[], by simp⟩
  rintro i hi
  simp (config := { maxSteps := 2000000 }) only [go_sem, reduceIte, Nat.reduceEqDiff, Nat.reduceAdd, Nat.reduceLT, Nat.reduceLeDiff, Nat.reduceBEq, Nat.reduceMul, Nat.reduceSub, Nat.reduceDiv, Int.reduceNeg, Int.reduceLT, Int.reduceLE, Int.reduceEq, Int.reduceToNat, lk11, ints, u16s, palC, hsl]
  by_cases hlt : i < p.n
  · have hlt' : (i : Int) < p.n := by omega
    have hq := own_ok (m := i) (by omega)
    have gm := gI_lt (l := sumL p s) (b := i) (by omega)
    have bm := hsm _ (List.mem_of_getElem? gm)
    have hpk := pick47 ⟨-p.err, p.err⟩ off i (by show -p.err ≤ p.err; omega) (by show _ ≤ -p.err; omega) (by show p.err ≤ _; omega) hoff (by omega)
    have bk := pickV_in (r := ⟨-p.err, p.err⟩) (by show -p.err ≤ p.err; omega) off i
    simp only at bk
    have m1 : p.n - (i + 1) < p.n - i := by omega
    have wo : wr .i64 (gI (sumL p s) i + pickV ⟨-p.err, p.err⟩ off i) = offV p s off i := by
      show _ = gI (sumL p s) i + pickV ⟨-p.err, p.err⟩ off i
      rw [wr_i64] <;> omega
    have w3 : wr .i64 ((i : Int) + 1) = ((i + 1 : Nat) : Int) := wr_succ hlt hlim
    simp (config := { maxSteps := 2000000 }) only [go_sem, reduceIte, Nat.reduceEqDiff, Nat.reduceAdd, Nat.reduceLT, Nat.reduceLeDiff, Nat.reduceBEq, Nat.reduceMul, Nat.reduceSub, Nat.reduceDiv, Int.reduceNeg, Int.reduceLT, Int.reduceLE, Int.reduceEq, Int.reduceToNat, lk11, hlt', gm, hsl, nn, wne, iD]
    refine dops_pure' (hpk) rfl rfl (by first | exact wk_refls _ | (repeat constructor)) (by kernel_rfl) ?_
    simp (config := { maxSteps := 2000000 }) only [go_sem, reduceIte, Nat.reduceEqDiff, Nat.reduceAdd, Nat.reduceLT, Nat.reduceLeDiff, Nat.reduceBEq, Nat.reduceMul, Nat.reduceSub, Nat.reduceDiv, Int.reduceNeg, Int.reduceLT, Int.reduceLE, Int.reduceEq, Int.reduceToNat, lk11, wo, w3, offL_len]
    refine ⟨by simpa [iD] using hq, i + 1, hlt, m1, ?_⟩
    refine ent_weaken [] rfl rfl (Nat.zero_le _) rfl rfl ?_
    simp (config := { maxSteps := 2000000 }) only [go_sem, reduceIte, Nat.reduceEqDiff, Nat.reduceAdd, Nat.reduceLT, Nat.reduceLeDiff, Nat.reduceBEq, Nat.reduceMul, Nat.reduceSub, Nat.reduceDiv, Int.reduceNeg, Int.reduceLT, Int.reduceLE, Int.reduceEq, Int.reduceToNat, lk11, ints, u16s, palC, offL_succ, List.map_append, List.map_cons, List.map_nil, iD]
    all_goals first | exact .refl _ | exact ⟨.refl _, .refl _⟩ | exact ⟨.refl _, .refl _, .refl _⟩ | exact ⟨.refl _, _, rfl⟩ | exact ⟨_, rfl⟩ | exact ⟨.refl _, [], by simp⟩ | exact ⟨[], by simp⟩
  have hlt' : ¬ (i : Int) < p.n := by omega
  have e : i = p.n := by omega
  have hfn := fit35 p (offL p s off p.n)
  rw [fitV_ok hp0 (offL_len ..)] at hfn
  have hmem : (s : Int) ∈ fitN p (offL p s off p.n) (2 ^ p.pig.length) := fitN_mem.2 ⟨s, rfl, hs, off_fits hp s off⟩
  have hinc := fitN_inc (p := p) (offL p s off p.n) (2 ^ p.pig.length)
  have hel : ∀ x ∈ fitN p (offL p s off p.n) (2 ^ p.pig.length), ∃ t : Nat, x = t ∧ t < 2 ^ p.pig.length ∧ fitP p (offL p s off p.n) t = true := fun x hx => fitN_mem.1 hx
  have hll := fitN_len p (offL p s off p.n) (2 ^ p.pig.length)
  have hclash := clash_of (p := p) (offL_len p s off p.n) (n := 2 ^ p.pig.length) rfl
  rw [e]
  clear hi hlt hlt' e i
  clear ws w0 t0 wne
  have hno : ¬ (p.n : Int) < p.n := Int.lt_irrefl _
  have ho := offL_len p s off p.n
  simp (config := { maxSteps := 2000000 }) only [go_sem, reduceIte, Nat.reduceEqDiff, Nat.reduceAdd, Nat.reduceLT, Nat.reduceLeDiff, Nat.reduceBEq, Nat.reduceMul, Nat.reduceSub, Nat.reduceDiv, Int.reduceNeg, Int.reduceLT, Int.reduceLE, Int.reduceEq, Int.reduceToNat, lk11, hno]
  refine aops_pure' (hfn) rfl rfl (by first | exact wk_refls _ | (repeat constructor)) ?_
  generalize offL p s off p.n = nr at *
  generalize fitN p nr (2 ^ p.pig.length) = l at *
  have hl1 : 0 < l.length := List.length_pos_of_mem hmem
  have hl1' : ¬ (l.length : Int) < 1 := by omega
  simp (config := { maxSteps := 2000000 }) only [go_sem, reduceIte, Nat.reduceEqDiff, Nat.reduceAdd, Nat.reduceLT, Nat.reduceLeDiff, Nat.reduceBEq, Nat.reduceMul, Nat.reduceSub, Nat.reduceDiv, Int.reduceNeg, Int.reduceLT, Int.reduceLE, Int.reduceEq, Int.reduceToNat, lk11, ints, hl1', palC]
  have hll2 : l.length ≤ 140737488355328 := by omega
  refine goE_loop (bad := []) (kp := kp11) (fun i : Nat => { slots := [(3, ints me), (4, .c (.ptr 0 0)), (9, I A), (10, I Bq), (11, I E), (12, I s), (15, ints nr), (17, ints l), (19, B ((l.take i).any (fun y => decide (y = s)))), (20, I i)], heap := [.cells (palC p)], marks := [] }) (fun i => i ≤ l.length) (fun i => l.length - i) 0 mo (by kernel_rfl) ?_ (Nat.zero_le _) ?_
  · refine ent_weaken [.grow p.n 1] rfl rfl (Nat.zero_le _) rfl rfl ?_
    simp (config := { maxSteps := 2000000 }) only [go_sem, reduceIte, Nat.reduceEqDiff, Nat.reduceAdd, Nat.reduceLT, Nat.reduceLeDiff, Nat.reduceBEq, Nat.reduceMul, Nat.reduceSub, Nat.reduceDiv, Int.reduceNeg, Int.reduceLT, Int.reduceLE, Int.reduceEq, Int.reduceToNat, lk11, ints, palC, Int.natCast_zero, List.any_nil]
    all_goals first | exact .refl _ | exact ⟨.refl _, .refl _⟩ | exact ⟨.refl _, .refl _, .refl _⟩ | exact ⟨.refl _, _, rfl⟩ | exact ⟨_, rfl⟩ | exact ⟨.refl _, [], by simp⟩ | exact ⟨[], by simp⟩
  rintro i hi
  generalize hH : (l.take i).any (fun y => decide (y = (s : Int))) = hv
  simp (config := { maxSteps := 2000000 }) only [go_sem, reduceIte, Nat.reduceEqDiff, Nat.reduceAdd, Nat.reduceLT, Nat.reduceLeDiff, Nat.reduceBEq, Nat.reduceMul, Nat.reduceSub, Nat.reduceDiv, Int.reduceNeg, Int.reduceLT, Int.reduceLE, Int.reduceEq, Int.reduceToNat, lk11, ints, palC]
  by_cases hlt : i < l.length
  · have hlt' : (i : Int) < l.length := by omega
    have hx : l[i]? = some l[i] := List.getElem?_eq_getElem hlt
    obtain ⟨t, ht, htN, hft⟩ := hel _ (List.getElem_mem hlt)
    rw [ht] at hx
    have n1 : decide ((t : Int) < 0) = false := by simp
    have n2 : decide (((2 ^ p.pig.length : Nat) : Int) ≤ (t : Int)) = false := decide_eq_false (by omega)
    have m1 : l.length - (i + 1) < l.length - i := by omega
    have hsum := sum46 p t hp htN
    have hnr := near48 nr (sumL p t) p.err (by rw [sumL_len, ho]; exact Nat.le_refl _) (sumL_small hp t) ea (by omega)
    have en : nearB nr (sumL p t) p.err = true := hft
    rw [en] at hnr
    have has := any_succ (s := (s : Int)) hx
    rw [hH] at has
    by_cases hi0 : i = 0
    · have n3 : decide ((0 : Int) < (i : Int)) = false := decide_eq_false (by omega)
      have w3 : wr .i64 ((i : Int) + 1) = ((i + 1 : Nat) : Int) := wr_succ hlt hll2
      simp (config := { maxSteps := 2000000 }) only [go_sem, reduceIte, Nat.reduceEqDiff, Nat.reduceAdd, Nat.reduceLT, Nat.reduceLeDiff, Nat.reduceBEq, Nat.reduceMul, Nat.reduceSub, Nat.reduceDiv, Int.reduceNeg, Int.reduceLT, Int.reduceLE, Int.reduceEq, Int.reduceToNat, lk11, hlt', hx, iD, nn, n1, n2, n3, shl12 h12, z2]
      refine dops_pure' (hsum) rfl rfl (by first | exact wk_refls _ | (repeat constructor)) (by kernel_rfl) ?_
      simp (config := { maxSteps := 2000000 }) only [go_sem, reduceIte, Nat.reduceEqDiff, Nat.reduceAdd, Nat.reduceLT, Nat.reduceLeDiff, Nat.reduceBEq, Nat.reduceMul, Nat.reduceSub, Nat.reduceDiv, Int.reduceNeg, Int.reduceLT, Int.reduceLE, Int.reduceEq, Int.reduceToNat, lk11]
      refine dops_pure' (hnr) rfl rfl (by first | exact wk_refls _ | (repeat constructor)) (by kernel_rfl) ?_
      simp (config := { maxSteps := 2000000 }) only [go_sem, reduceIte, Nat.reduceEqDiff, Nat.reduceAdd, Nat.reduceLT, Nat.reduceLeDiff, Nat.reduceBEq, Nat.reduceMul, Nat.reduceSub, Nat.reduceDiv, Int.reduceNeg, Int.reduceLT, Int.reduceLE, Int.reduceEq, Int.reduceToNat, lk11]
      cases hv with
      | true =>
        simp (config := { maxSteps := 2000000 }) only [go_sem, reduceIte, Nat.reduceEqDiff, Nat.reduceAdd, Nat.reduceLT, Nat.reduceLeDiff, Nat.reduceBEq, Nat.reduceMul, Nat.reduceSub, Nat.reduceDiv, Int.reduceNeg, Int.reduceLT, Int.reduceLE, Int.reduceEq, Int.reduceToNat, lk11, w3]
        refine ⟨i + 1, hlt, m1, ?_⟩
        refine ent_weaken [] rfl rfl (Nat.zero_le _) rfl rfl ?_
        simp (config := { maxSteps := 2000000 }) only [go_sem, reduceIte, Nat.reduceEqDiff, Nat.reduceAdd, Nat.reduceLT, Nat.reduceLeDiff, Nat.reduceBEq, Nat.reduceMul, Nat.reduceSub, Nat.reduceDiv, Int.reduceNeg, Int.reduceLT, Int.reduceLE, Int.reduceEq, Int.reduceToNat, lk11, ints, palC, has, Bool.true_or]
        all_goals first | exact .refl _ | exact ⟨.refl _, .refl _⟩ | exact ⟨.refl _, .refl _, .refl _⟩ | exact ⟨.refl _, _, rfl⟩ | exact ⟨_, rfl⟩ | exact ⟨.refl _, [], by simp⟩ | exact ⟨[], by simp⟩
      | false =>
        simp (config := { maxSteps := 2000000 }) only [go_sem, reduceIte, Nat.reduceEqDiff, Nat.reduceAdd, Nat.reduceLT, Nat.reduceLeDiff, Nat.reduceBEq, Nat.reduceMul, Nat.reduceSub, Nat.reduceDiv, Int.reduceNeg, Int.reduceLT, Int.reduceLE, Int.reduceEq, Int.reduceToNat, lk11, hlt', hx, iD, nn, w3]
        refine ⟨i + 1, hlt, m1, ?_⟩
        refine ent_weaken [] rfl rfl (Nat.zero_le _) rfl rfl ?_
        simp (config := { maxSteps := 2000000 }) only [go_sem, reduceIte, Nat.reduceEqDiff, Nat.reduceAdd, Nat.reduceLT, Nat.reduceLeDiff, Nat.reduceBEq, Nat.reduceMul, Nat.reduceSub, Nat.reduceDiv, Int.reduceNeg, Int.reduceLT, Int.reduceLE, Int.reduceEq, Int.reduceToNat, lk11, ints, palC, has, Bool.false_or]
        all_goals first | exact .refl _ | exact ⟨.refl _, .refl _⟩ | exact ⟨.refl _, .refl _, .refl _⟩ | exact ⟨.refl _, _, rfl⟩ | exact ⟨_, rfl⟩ | exact ⟨.refl _, [], by simp⟩ | exact ⟨[], by simp⟩
    · have n3 : decide ((0 : Int) < (i : Int)) = true := decide_eq_true (by omega)
      obtain ⟨u, hu⟩ := get_of_lt (show i - 1 < l.length by omega)
      have hut := inc_at hinc hu hx (by omega)
      have n4 : decide ((t : Int) ≤ u) = false := decide_eq_false (by omega)
      have k4 : ((i - 1 : Nat) : Int) < l.length := by omega
      have w4 : wr .i64 ((i : Int) - 1) = ((i - 1 : Nat) : Int) := by rw [wr_i64] <;> omega
      have w3 : wr .i64 ((i : Int) + 1) = ((i + 1 : Nat) : Int) := wr_succ hlt hll2
      simp (config := { maxSteps := 2000000 }) only [go_sem, reduceIte, Nat.reduceEqDiff, Nat.reduceAdd, Nat.reduceLT, Nat.reduceLeDiff, Nat.reduceBEq, Nat.reduceMul, Nat.reduceSub, Nat.reduceDiv, Int.reduceNeg, Int.reduceLT, Int.reduceLE, Int.reduceEq, Int.reduceToNat, lk11, hlt', hx, hu, iD, nn, n1, n2, n3, n4, k4, w4, shl12 h12, z2]
      refine dops_pure' (hsum) rfl rfl (by first | exact wk_refls _ | (repeat constructor)) (by kernel_rfl) ?_
      simp (config := { maxSteps := 2000000 }) only [go_sem, reduceIte, Nat.reduceEqDiff, Nat.reduceAdd, Nat.reduceLT, Nat.reduceLeDiff, Nat.reduceBEq, Nat.reduceMul, Nat.reduceSub, Nat.reduceDiv, Int.reduceNeg, Int.reduceLT, Int.reduceLE, Int.reduceEq, Int.reduceToNat, lk11]
      refine dops_pure' (hnr) rfl rfl (by first | exact wk_refls _ | (repeat constructor)) (by kernel_rfl) ?_
      simp (config := { maxSteps := 2000000 }) only [go_sem, reduceIte, Nat.reduceEqDiff, Nat.reduceAdd, Nat.reduceLT, Nat.reduceLeDiff, Nat.reduceBEq, Nat.reduceMul, Nat.reduceSub, Nat.reduceDiv, Int.reduceNeg, Int.reduceLT, Int.reduceLE, Int.reduceEq, Int.reduceToNat, lk11]
      cases hv with
      | true =>
        simp (config := { maxSteps := 2000000 }) only [go_sem, reduceIte, Nat.reduceEqDiff, Nat.reduceAdd, Nat.reduceLT, Nat.reduceLeDiff, Nat.reduceBEq, Nat.reduceMul, Nat.reduceSub, Nat.reduceDiv, Int.reduceNeg, Int.reduceLT, Int.reduceLE, Int.reduceEq, Int.reduceToNat, lk11, w3]
        refine ⟨i + 1, hlt, m1, ?_⟩
        refine ent_weaken [] rfl rfl (Nat.zero_le _) rfl rfl ?_
        simp (config := { maxSteps := 2000000 }) only [go_sem, reduceIte, Nat.reduceEqDiff, Nat.reduceAdd, Nat.reduceLT, Nat.reduceLeDiff, Nat.reduceBEq, Nat.reduceMul, Nat.reduceSub, Nat.reduceDiv, Int.reduceNeg, Int.reduceLT, Int.reduceLE, Int.reduceEq, Int.reduceToNat, lk11, ints, palC, has, Bool.true_or]
        all_goals first | exact .refl _ | exact ⟨.refl _, .refl _⟩ | exact ⟨.refl _, .refl _, .refl _⟩ | exact ⟨.refl _, _, rfl⟩ | exact ⟨_, rfl⟩ | exact ⟨.refl _, [], by simp⟩ | exact ⟨[], by simp⟩
      | false =>
        simp (config := { maxSteps := 2000000 }) only [go_sem, reduceIte, Nat.reduceEqDiff, Nat.reduceAdd, Nat.reduceLT, Nat.reduceLeDiff, Nat.reduceBEq, Nat.reduceMul, Nat.reduceSub, Nat.reduceDiv, Int.reduceNeg, Int.reduceLT, Int.reduceLE, Int.reduceEq, Int.reduceToNat, lk11, hlt', hx, iD, nn, w3]
        refine ⟨i + 1, hlt, m1, ?_⟩
        refine ent_weaken [] rfl rfl (Nat.zero_le _) rfl rfl ?_
        simp (config := { maxSteps := 2000000 }) only [go_sem, reduceIte, Nat.reduceEqDiff, Nat.reduceAdd, Nat.reduceLT, Nat.reduceLeDiff, Nat.reduceBEq, Nat.reduceMul, Nat.reduceSub, Nat.reduceDiv, Int.reduceNeg, Int.reduceLT, Int.reduceLE, Int.reduceEq, Int.reduceToNat, lk11, ints, palC, has, Bool.false_or]
        all_goals first | exact .refl _ | exact ⟨.refl _, .refl _⟩ | exact ⟨.refl _, .refl _, .refl _⟩ | exact ⟨.refl _, _, rfl⟩ | exact ⟨_, rfl⟩ | exact ⟨.refl _, [], by simp⟩ | exact ⟨[], by simp⟩
  have hlt' : ¬ (i : Int) < l.length := fun h => hlt (Int.ofNat_lt.1 h)
  have e : l.take i = l := List.take_of_length_le (by omega)
  have hv1 : hv = true := by
    rw [← hH, e]
    exact List.any_eq_true.2 ⟨s, hmem, by simp⟩
  subst hv1
  simp (config := { maxSteps := 2000000 }) only [go_sem, reduceIte, Nat.reduceEqDiff, Nat.reduceAdd, Nat.reduceLT, Nat.reduceLeDiff, Nat.reduceBEq, Nat.reduceMul, Nat.reduceSub, Nat.reduceDiv, Int.reduceNeg, Int.reduceLT, Int.reduceLE, Int.reduceEq, Int.reduceToNat, lk11, hlt']
  rcases hcc with ⟨hr, hcs⟩ | ⟨s0, u0, hr, hcs, hsu, huN, hnear⟩
  · rw [hA] at hr
    cases hr
    have hl : l.length = 1 := by
      by_cases h2 : 1 < l.length
      · obtain ⟨q, _, hq, _⟩ := hclash h2
        rw [hcs] at hq; cases hq
      · omega
    have hl' : decide ((l.length : Int) = 1) = true := decide_eq_true (by omega)
    have hfm := fit35 p me
    by_cases hml : me.length = p.n
    · have hfe : fitV' p me = .tup [ints (fitN p me (2 ^ p.pig.length)), I 0] := fitV_ok hp0 hml
      rw [hfe] at hfm
      have ho1 : ¬ 1 < (fitN p me (2 ^ p.pig.length)).length := fun h2 => by
        obtain ⟨q, _, hq, _⟩ := clash_of hml rfl h2
        rw [hcs] at hq; cases hq
      have ho' : decide (((fitN p me (2 ^ p.pig.length)).length : Int) ≤ 1) = true := decide_eq_true (by omega)
      simp (config := { maxSteps := 2000000 }) only [go_sem, reduceIte, Nat.reduceEqDiff, Nat.reduceAdd, Nat.reduceLT, Nat.reduceLeDiff, Nat.reduceBEq, Nat.reduceMul, Nat.reduceSub, Nat.reduceDiv, Int.reduceNeg, Int.reduceLT, Int.reduceLE, Int.reduceEq, Int.reduceToNat, lk11]
      refine aops_pure' (hfm) rfl rfl (by first | exact wk_refls _ | (repeat constructor)) ?_
      simp (config := { maxSteps := 2000000 }) only [go_sem, reduceIte, Nat.reduceEqDiff, Nat.reduceAdd, Nat.reduceLT, Nat.reduceLeDiff, Nat.reduceBEq, Nat.reduceMul, Nat.reduceSub, Nat.reduceDiv, Int.reduceNeg, Int.reduceLT, Int.reduceLE, Int.reduceEq, Int.reduceToNat, lk11, ints, hl', ho']
      refine aops_pure' (works15) rfl rfl (by first | exact wk_refls _ | (repeat constructor)) ?_
      simp (config := { maxSteps := 2000000 }) only [go_sem, reduceIte, Nat.reduceEqDiff, Nat.reduceAdd, Nat.reduceLT, Nat.reduceLeDiff, Nat.reduceBEq, Nat.reduceMul, Nat.reduceSub, Nat.reduceDiv, Int.reduceNeg, Int.reduceLT, Int.reduceLE, Int.reduceEq, Int.reduceToNat, lk11]
    · have hfe : fitV' p me = .tup [ints [], I 15] := fitV_len hp0 hml
      rw [hfe] at hfm
      simp (config := { maxSteps := 2000000 }) only [go_sem, reduceIte, Nat.reduceEqDiff, Nat.reduceAdd, Nat.reduceLT, Nat.reduceLeDiff, Nat.reduceBEq, Nat.reduceMul, Nat.reduceSub, Nat.reduceDiv, Int.reduceNeg, Int.reduceLT, Int.reduceLE, Int.reduceEq, Int.reduceToNat, lk11]
      refine aops_pure' (hfm) rfl rfl (by first | exact wk_refls _ | (repeat constructor)) ?_
      simp (config := { maxSteps := 2000000 }) only [go_sem, reduceIte, Nat.reduceEqDiff, Nat.reduceAdd, Nat.reduceLT, Nat.reduceLeDiff, Nat.reduceBEq, Nat.reduceMul, Nat.reduceSub, Nat.reduceDiv, Int.reduceNeg, Int.reduceLT, Int.reduceLE, Int.reduceEq, Int.reduceToNat, lk11, ints, hl']
      refine aops_pure' (works15) rfl rfl (by first | exact wk_refls _ | (repeat constructor)) ?_
      simp (config := { maxSteps := 2000000 }) only [go_sem, reduceIte, Nat.reduceEqDiff, Nat.reduceAdd, Nat.reduceLT, Nat.reduceLeDiff, Nat.reduceBEq, Nat.reduceMul, Nat.reduceSub, Nat.reduceDiv, Int.reduceNeg, Int.reduceLT, Int.reduceLE, Int.reduceEq, Int.reduceToNat, lk11]
  rw [hA] at hr
  cases hr
  have n1 : decide ((s0 : Int) < 0) = false := by simp
  have n2 : decide ((u0 : Int) ≤ (s0 : Int)) = false := decide_eq_false (by omega)
  have n3 : decide (((2 ^ p.pig.length : Nat) : Int) ≤ (u0 : Int)) = false := decide_eq_false (by omega)
  have hs0 : s0 < 2 ^ p.pig.length := by omega
  have c1 := sum46 p s0 hp hs0
  have c2 := sum46 p u0 hp huN
  have em0 : 0 ≤ 2 * p.err := by omega
  have em1 : 2 * p.err ≤ 1000000 := by omega
  have c3 := near48 (sumL p s0) (sumL p u0) (2 * p.err) (by rw [sumL_len, sumL_len]; exact Nat.le_refl _) (sumL_small hp u0) em0 em1
  have en : nearB (sumL p s0) (sumL p u0) (2 * p.err) = true := hnear
  rw [en] at c3
  have w0 : wr .i64 (2 * p.err) = 2 * p.err := by rw [wr_i64] <;> omega
  have wne : wr .i64 (-p.err) = -p.err := by rw [wr_i64] <;> omega
  apply joinK
  · intro hK
    by_cases h2 : 1 < l.length
    · obtain ⟨q, x, hq, hx0, hqx⟩ := hclash h2
      rw [hcs] at hq
      cases hq
      have d1 : decide ((1 : Int) < (l.length : Int)) = true := decide_eq_true (Int.ofNat_lt.2 h2)
      have d2 : decide (x < (s0 : Int)) = false := decide_eq_false (Int.not_lt.2 hqx)
      have d3 : (0 : Int) < l.length := Int.ofNat_lt.2 hl1
      simp (config := { maxSteps := 2000000 }) only [go_sem, reduceIte, Nat.reduceEqDiff, Nat.reduceAdd, Nat.reduceLT, Nat.reduceLeDiff, Nat.reduceBEq, Nat.reduceMul, Nat.reduceSub, Nat.reduceDiv, Int.reduceNeg, Int.reduceLT, Int.reduceLE, Int.reduceEq, Int.reduceToNat, lk11, n1, n2, n3, d1, d2, d3, hx0, iD, shl12 h12, z2]
      refine dops_pure' (c1) rfl rfl (by first | exact wk_refls _ | (repeat constructor)) (by kernel_rfl) ?_
      simp (config := { maxSteps := 2000000 }) only [go_sem, reduceIte, Nat.reduceEqDiff, Nat.reduceAdd, Nat.reduceLT, Nat.reduceLeDiff, Nat.reduceBEq, Nat.reduceMul, Nat.reduceSub, Nat.reduceDiv, Int.reduceNeg, Int.reduceLT, Int.reduceLE, Int.reduceEq, Int.reduceToNat, lk11, palC]
      refine dops_pure' (c2) rfl rfl (by first | exact wk_refls _ | (repeat constructor)) (by kernel_rfl) ?_
      simp (config := { maxSteps := 2000000 }) only [go_sem, reduceIte, Nat.reduceEqDiff, Nat.reduceAdd, Nat.reduceLT, Nat.reduceLeDiff, Nat.reduceBEq, Nat.reduceMul, Nat.reduceSub, Nat.reduceDiv, Int.reduceNeg, Int.reduceLT, Int.reduceLE, Int.reduceEq, Int.reduceToNat, lk11, palC, w0]
      refine aops_pure' (c3) rfl rfl (by first | exact wk_refls _ | (repeat constructor)) ?_
      simp (config := { maxSteps := 2000000 }) only [go_sem, reduceIte, Nat.reduceEqDiff, Nat.reduceAdd, Nat.reduceLT, Nat.reduceLeDiff, Nat.reduceBEq, Nat.reduceMul, Nat.reduceSub, Nat.reduceDiv, Int.reduceNeg, Int.reduceLT, Int.reduceLE, Int.reduceEq, Int.reduceToNat, lk11]
      refine AWP.ent (s' := { slots := [(4, .c (.ptr 0 0)), (9, I s0), (10, I u0), (23, ints (sumL p s0)), (24, ints (sumL p u0)), (25, .c (.full [])), (26, I 0)], heap := [.cells (palC p)], marks := [] }) ?_ hK
      refine ent_weaken [] rfl rfl (Nat.zero_le _) rfl rfl ?_
      simp (config := { maxSteps := 2000000 }) only [go_sem, reduceIte, Nat.reduceEqDiff, Nat.reduceAdd, Nat.reduceLT, Nat.reduceLeDiff, Nat.reduceBEq, Nat.reduceMul, Nat.reduceSub, Nat.reduceDiv, Int.reduceNeg, Int.reduceLT, Int.reduceLE, Int.reduceEq, Int.reduceToNat, lk11, ints, palC]
      all_goals first | exact .refl _ | exact ⟨.refl _, .refl _⟩ | exact ⟨.refl _, .refl _, .refl _⟩ | exact ⟨.refl _, _, rfl⟩ | exact ⟨_, rfl⟩ | exact ⟨.refl _, [], by simp⟩ | exact ⟨[], by simp⟩
    · have d1 : decide ((1 : Int) < (l.length : Int)) = false := decide_eq_false (fun h => h2 (Int.ofNat_lt.1 h))
      simp (config := { maxSteps := 2000000 }) only [go_sem, reduceIte, Nat.reduceEqDiff, Nat.reduceAdd, Nat.reduceLT, Nat.reduceLeDiff, Nat.reduceBEq, Nat.reduceMul, Nat.reduceSub, Nat.reduceDiv, Int.reduceNeg, Int.reduceLT, Int.reduceLE, Int.reduceEq, Int.reduceToNat, lk11, n1, n2, n3, d1, shl12 h12, z2]
      refine dops_pure' (c1) rfl rfl (by first | exact wk_refls _ | (repeat constructor)) (by kernel_rfl) ?_
      simp (config := { maxSteps := 2000000 }) only [go_sem, reduceIte, Nat.reduceEqDiff, Nat.reduceAdd, Nat.reduceLT, Nat.reduceLeDiff, Nat.reduceBEq, Nat.reduceMul, Nat.reduceSub, Nat.reduceDiv, Int.reduceNeg, Int.reduceLT, Int.reduceLE, Int.reduceEq, Int.reduceToNat, lk11, palC]
      refine dops_pure' (c2) rfl rfl (by first | exact wk_refls _ | (repeat constructor)) (by kernel_rfl) ?_
      simp (config := { maxSteps := 2000000 }) only [go_sem, reduceIte, Nat.reduceEqDiff, Nat.reduceAdd, Nat.reduceLT, Nat.reduceLeDiff, Nat.reduceBEq, Nat.reduceMul, Nat.reduceSub, Nat.reduceDiv, Int.reduceNeg, Int.reduceLT, Int.reduceLE, Int.reduceEq, Int.reduceToNat, lk11, palC, w0]
      refine aops_pure' (c3) rfl rfl (by first | exact wk_refls _ | (repeat constructor)) ?_
      simp (config := { maxSteps := 2000000 }) only [go_sem, reduceIte, Nat.reduceEqDiff, Nat.reduceAdd, Nat.reduceLT, Nat.reduceLeDiff, Nat.reduceBEq, Nat.reduceMul, Nat.reduceSub, Nat.reduceDiv, Int.reduceNeg, Int.reduceLT, Int.reduceLE, Int.reduceEq, Int.reduceToNat, lk11]
      refine AWP.ent (s' := { slots := [(4, .c (.ptr 0 0)), (9, I s0), (10, I u0), (23, ints (sumL p s0)), (24, ints (sumL p u0)), (25, .c (.full [])), (26, I 0)], heap := [.cells (palC p)], marks := [] }) ?_ hK
      refine ent_weaken [] rfl rfl (Nat.zero_le _) rfl rfl ?_
      simp (config := { maxSteps := 2000000 }) only [go_sem, reduceIte, Nat.reduceEqDiff, Nat.reduceAdd, Nat.reduceLT, Nat.reduceLeDiff, Nat.reduceBEq, Nat.reduceMul, Nat.reduceSub, Nat.reduceDiv, Int.reduceNeg, Int.reduceLT, Int.reduceLE, Int.reduceEq, Int.reduceToNat, lk11, ints, palC]
      all_goals first | exact .refl _ | exact ⟨.refl _, .refl _⟩ | exact ⟨.refl _, .refl _, .refl _⟩ | exact ⟨.refl _, _, rfl⟩ | exact ⟨_, rfl⟩ | exact ⟨.refl _, [], by simp⟩ | exact ⟨[], by simp⟩
  have hsl0 := sumL_len p s0
  have hsl1 := sumL_len p u0
  have hsm0 := sumL_nonneg hp s0
  have hsm1 := sumL_nonneg hp u0
  refine goE_loop (bad := []) (kp := kp11) (fun i : Nat => { slots := [(4, .c (.ptr 0 0)), (9, I s0), (10, I u0), (23, ints (sumL p s0)), (24, ints (sumL p u0)), (25, .c (.own 1 ((midL p s0 u0 i).map iD))), (26, I i)], heap := [.cells (palC p), .grow i 1], marks := [] }) (fun i => i ≤ p.n) (fun i => p.n - i) 0 mo (by kernel_rfl) ?_ (Nat.zero_le _) ?_
  · refine Ent.trans (ent_own 25 1 rfl) ?_
    refine ent_weaken [] rfl rfl (Nat.zero_le _) rfl rfl ?_
    simp (config := { maxSteps := 2000000 }) only [go_sem, reduceIte, Nat.reduceEqDiff, Nat.reduceAdd, Nat.reduceLT, Nat.reduceLeDiff, Nat.reduceBEq, Nat.reduceMul, Nat.reduceSub, Nat.reduceDiv, Int.reduceNeg, Int.reduceLT, Int.reduceLE, Int.reduceEq, Int.reduceToNat, lk11, ints, palC, Int.natCast_zero]
    all_goals first | exact .refl _ | exact ⟨.refl _, .refl _⟩ | exact ⟨.refl _, .refl _, .refl _⟩ | exact ⟨.refl _, _, rfl⟩ | exact ⟨_, rfl⟩ | exact ⟨.refl _, [], by simp⟩ | exact ⟨[], by simp⟩
  rintro i hi
  simp (config := { maxSteps := 2000000 }) only [go_sem, reduceIte, Nat.reduceEqDiff, Nat.reduceAdd, Nat.reduceLT, Nat.reduceLeDiff, Nat.reduceBEq, Nat.reduceMul, Nat.reduceSub, Nat.reduceDiv, Int.reduceNeg, Int.reduceLT, Int.reduceLE, Int.reduceEq, Int.reduceToNat, lk11, ints, palC, hsl0]
  by_cases hlt : i < p.n
  · have hlt' : (i : Int) < p.n := Int.ofNat_lt.2 hlt
    have hq := own_ok (m := i) (Nat.le_trans hi (Nat.le_trans hn8 (by decide)))
    have g0 := gI_lt (l := sumL p s0) (b := i) (by rw [hsl0]; exact hlt)
    have g1 := gI_lt (l := sumL p u0) (b := i) (by rw [hsl1]; exact hlt)
    have b0 := hsm0 _ (List.mem_of_getElem? g0)
    have b1 := hsm1 _ (List.mem_of_getElem? g1)
    have m1 : p.n - (i + 1) < p.n - i := Nat.sub_lt_sub_left hlt (Nat.lt_succ_self i)
    have k1 : (i : Int) < (sumL p u0).length := by rw [hsl1]; exact hlt'
    clear w0 wne
    have wd : wr .i64 (gI (sumL p u0) i - gI (sumL p s0) i) = gI (sumL p u0) i - gI (sumL p s0) i := by rw [wr_i64] <;> omega
    have wo : wr .i64 (gI (sumL p s0) i + max (-p.err) (min p.err (gI (sumL p u0) i - gI (sumL p s0) i))) = midV p s0 u0 i := by
      clear wd
      show _ = gI (sumL p s0) i + max (-p.err) (min p.err (gI (sumL p u0) i - gI (sumL p s0) i))
      rw [wr_i64] <;> omega
    have wne : wr .i64 (-p.err) = -p.err := by
      clear wd wo
      rw [wr_i64] <;> omega
    have w3 : wr .i64 ((i : Int) + 1) = ((i + 1 : Nat) : Int) := wr_succ hlt hlim
    simp (config := { maxSteps := 2000000 }) only [go_sem, reduceIte, Nat.reduceEqDiff, Nat.reduceAdd, Nat.reduceLT, Nat.reduceLeDiff, Nat.reduceBEq, Nat.reduceMul, Nat.reduceSub, Nat.reduceDiv, Int.reduceNeg, Int.reduceLT, Int.reduceLE, Int.reduceEq, Int.reduceToNat, lk11, hlt', g0, g1, hsl0, hsl1, k1, nn, wne, iD, wd, minL2, maxL2, wo, w3, midL_len]
    refine ⟨by simpa [iD] using hq, i + 1, hlt, m1, ?_⟩
    refine ent_weaken [] rfl rfl (Nat.zero_le _) rfl rfl ?_
    simp (config := { maxSteps := 2000000 }) only [go_sem, reduceIte, Nat.reduceEqDiff, Nat.reduceAdd, Nat.reduceLT, Nat.reduceLeDiff, Nat.reduceBEq, Nat.reduceMul, Nat.reduceSub, Nat.reduceDiv, Int.reduceNeg, Int.reduceLT, Int.reduceLE, Int.reduceEq, Int.reduceToNat, lk11, ints, palC, midL_succ, List.map_append, List.map_cons, List.map_nil, iD]
    all_goals first | exact .refl _ | exact ⟨.refl _, .refl _⟩ | exact ⟨.refl _, .refl _, .refl _⟩ | exact ⟨.refl _, _, rfl⟩ | exact ⟨_, rfl⟩ | exact ⟨.refl _, [], by simp⟩ | exact ⟨[], by simp⟩
  have hlt' : ¬ (i : Int) < p.n := fun h => hlt (Int.ofNat_lt.1 h)
  have e : i = p.n := Nat.le_antisymm hi (Nat.le_of_not_lt hlt)
  have hfk := fit35 p (midL p s0 u0 p.n)
  rw [fitV_ok hp0 (midL_len ..)] at hfk
  obtain ⟨mf1, mf2⟩ := mid_fits hp hnear
  have hka : (s0 : Int) ∈ fitN p (midL p s0 u0 p.n) (2 ^ p.pig.length) := fitN_mem.2 ⟨s0, rfl, hs0, mf1⟩
  have hkb : (u0 : Int) ∈ fitN p (midL p s0 u0 p.n) (2 ^ p.pig.length) := fitN_mem.2 ⟨u0, rfl, huN, mf2⟩
  have hk2 := cnt_two (fitN_inc (p := p) (midL p s0 u0 p.n) (2 ^ p.pig.length)) (a := s0) (b := u0) (by omega) hka hkb
  have hkl := fitN_len p (midL p s0 u0 p.n) (2 ^ p.pig.length)
  rw [e]
  have hno2 : ¬ (p.n : Int) < p.n := Int.lt_irrefl _
  simp (config := { maxSteps := 2000000 }) only [go_sem, reduceIte, Nat.reduceEqDiff, Nat.reduceAdd, Nat.reduceLT, Nat.reduceLeDiff, Nat.reduceBEq, Nat.reduceMul, Nat.reduceSub, Nat.reduceDiv, Int.reduceNeg, Int.reduceLT, Int.reduceLE, Int.reduceEq, Int.reduceToNat, lk11, hno2]
  refine aops_pure' (hfk) rfl rfl (by first | exact wk_refls _ | (repeat constructor)) ?_
  generalize fitN p (midL p s0 u0 p.n) (2 ^ p.pig.length) = kk at *
  have hkl2 : kk.length ≤ 140737488355328 := Nat.le_trans hkl (Nat.le_trans hpw (by decide))
  simp (config := { maxSteps := 2000000 }) only [go_sem, reduceIte, Nat.reduceEqDiff, Nat.reduceAdd, Nat.reduceLT, Nat.reduceLeDiff, Nat.reduceBEq, Nat.reduceMul, Nat.reduceSub, Nat.reduceDiv, Int.reduceNeg, Int.reduceLT, Int.reduceLE, Int.reduceEq, Int.reduceToNat, lk11, ints]
  clear hi hlt hlt' e i
  refine goE_loop (bad := []) (kp := kp11) (fun i : Nat => { slots := [(9, I s0), (10, I u0), (27, ints kk), (28, I (((kk.take i).filter (fun x => decide (x = (s0 : Int)) || decide (x = (u0 : Int)))).length : Nat)), (29, I i)], heap := [.cells (palC p)], marks := [] }) (fun i => i ≤ kk.length) (fun i => kk.length - i) 0 mo (by kernel_rfl) ?_ (Nat.zero_le _) ?_
  · refine ent_weaken [.grow p.n 1] rfl rfl (Nat.zero_le _) rfl rfl ?_
    simp (config := { maxSteps := 2000000 }) only [go_sem, reduceIte, Nat.reduceEqDiff, Nat.reduceAdd, Nat.reduceLT, Nat.reduceLeDiff, Nat.reduceBEq, Nat.reduceMul, Nat.reduceSub, Nat.reduceDiv, Int.reduceNeg, Int.reduceLT, Int.reduceLE, Int.reduceEq, Int.reduceToNat, lk11, ints, palC, Int.natCast_zero, List.filter_nil]
    all_goals first | exact .refl _ | exact ⟨.refl _, .refl _⟩ | exact ⟨.refl _, .refl _, .refl _⟩ | exact ⟨.refl _, _, rfl⟩ | exact ⟨_, rfl⟩ | exact ⟨.refl _, [], by simp⟩ | exact ⟨[], by simp⟩
  rintro i hi
  have hcl2 : ((kk.take i).filter (fun x => decide (x = (s0 : Int)) || decide (x = (u0 : Int)))).length ≤ i := Nat.le_trans (List.length_filter_le _ _) (by rw [List.length_take]; exact Nat.min_le_left _ _)
  by_cases hlt : i < kk.length
  · have hlt' : (i : Int) < kk.length := Int.ofNat_lt.2 hlt
    have hx : kk[i]? = some kk[i] := List.getElem?_eq_getElem hlt
    have hsu2 := flt_succ (fun x => decide (x = (s0 : Int)) || decide (x = (u0 : Int))) hx
    have m1 : kk.length - (i + 1) < kk.length - i := Nat.sub_lt_sub_left hlt (Nat.lt_succ_self i)
    generalize kk[i] = x at *
    generalize hcn : ((kk.take i).filter (fun x => decide (x = (s0 : Int)) || decide (x = (u0 : Int)))).length = cn at *
    have w3 : wr .i64 ((i : Int) + 1) = ((i + 1 : Nat) : Int) := wr_succ hlt hkl2
    have w5 : wr .i64 ((cn : Int) + 1) = ((cn + 1 : Nat) : Int) := wr_succ (n := kk.length + 1) (Nat.lt_succ_of_le (Nat.le_trans hcl2 hi)) (Nat.le_trans (Nat.succ_le_succ (Nat.le_trans hkl hpw)) (by decide))
    simp (config := { maxSteps := 2000000 }) only [go_sem, reduceIte, Nat.reduceEqDiff, Nat.reduceAdd, Nat.reduceLT, Nat.reduceLeDiff, Nat.reduceBEq, Nat.reduceMul, Nat.reduceSub, Nat.reduceDiv, Int.reduceNeg, Int.reduceLT, Int.reduceLE, Int.reduceEq, Int.reduceToNat, lk11, ints, palC, hlt', hx, iD, nn]
    by_cases q1 : x = (s0 : Int)
    · have hsu3 : ((kk.take (i + 1)).filter (fun x => decide (x = (s0 : Int)) || decide (x = (u0 : Int)))).length = cn + 1 := by rw [hsu2]; simp [q1]
      simp (config := { maxSteps := 2000000 }) only [go_sem, reduceIte, Nat.reduceEqDiff, Nat.reduceAdd, Nat.reduceLT, Nat.reduceLeDiff, Nat.reduceBEq, Nat.reduceMul, Nat.reduceSub, Nat.reduceDiv, Int.reduceNeg, Int.reduceLT, Int.reduceLE, Int.reduceEq, Int.reduceToNat, lk11, q1, w3, w5]
      refine ⟨i + 1, hlt, m1, ?_⟩
      refine ent_weaken [] rfl rfl (Nat.zero_le _) rfl rfl ?_
      simp (config := { maxSteps := 2000000 }) only [go_sem, reduceIte, Nat.reduceEqDiff, Nat.reduceAdd, Nat.reduceLT, Nat.reduceLeDiff, Nat.reduceBEq, Nat.reduceMul, Nat.reduceSub, Nat.reduceDiv, Int.reduceNeg, Int.reduceLT, Int.reduceLE, Int.reduceEq, Int.reduceToNat, lk11, ints, palC, hsu3]
      all_goals first | exact .refl _ | exact ⟨.refl _, .refl _⟩ | exact ⟨.refl _, .refl _, .refl _⟩ | exact ⟨.refl _, _, rfl⟩ | exact ⟨_, rfl⟩ | exact ⟨.refl _, [], by simp⟩ | exact ⟨[], by simp⟩
    · by_cases q2 : x = (u0 : Int)
      · have hsu3 : ((kk.take (i + 1)).filter (fun x => decide (x = (s0 : Int)) || decide (x = (u0 : Int)))).length = cn + 1 := by rw [hsu2]; simp [q2]
        have q3 : ¬ (u0 : Int) = (s0 : Int) := fun h => q1 (q2.trans h)
        simp (config := { maxSteps := 2000000 }) only [go_sem, reduceIte, Nat.reduceEqDiff, Nat.reduceAdd, Nat.reduceLT, Nat.reduceLeDiff, Nat.reduceBEq, Nat.reduceMul, Nat.reduceSub, Nat.reduceDiv, Int.reduceNeg, Int.reduceLT, Int.reduceLE, Int.reduceEq, Int.reduceToNat, lk11, hlt', hx, iD, nn, q1, q2, q3, w3, w5]
        refine ⟨i + 1, hlt, m1, ?_⟩
        refine ent_weaken [] rfl rfl (Nat.zero_le _) rfl rfl ?_
        simp (config := { maxSteps := 2000000 }) only [go_sem, reduceIte, Nat.reduceEqDiff, Nat.reduceAdd, Nat.reduceLT, Nat.reduceLeDiff, Nat.reduceBEq, Nat.reduceMul, Nat.reduceSub, Nat.reduceDiv, Int.reduceNeg, Int.reduceLT, Int.reduceLE, Int.reduceEq, Int.reduceToNat, lk11, ints, palC, hsu3]
        all_goals first | exact .refl _ | exact ⟨.refl _, .refl _⟩ | exact ⟨.refl _, .refl _, .refl _⟩ | exact ⟨.refl _, _, rfl⟩ | exact ⟨_, rfl⟩ | exact ⟨.refl _, [], by simp⟩ | exact ⟨[], by simp⟩
      · have hsu3 : ((kk.take (i + 1)).filter (fun x => decide (x = (s0 : Int)) || decide (x = (u0 : Int)))).length = cn := by rw [hsu2]; simp [q1, q2]
        simp (config := { maxSteps := 2000000 }) only [go_sem, reduceIte, Nat.reduceEqDiff, Nat.reduceAdd, Nat.reduceLT, Nat.reduceLeDiff, Nat.reduceBEq, Nat.reduceMul, Nat.reduceSub, Nat.reduceDiv, Int.reduceNeg, Int.reduceLT, Int.reduceLE, Int.reduceEq, Int.reduceToNat, lk11, hlt', hx, iD, nn, q1, q2, w3, w5]
        refine ⟨i + 1, hlt, m1, ?_⟩
        refine ent_weaken [] rfl rfl (Nat.zero_le _) rfl rfl ?_
        simp (config := { maxSteps := 2000000 }) only [go_sem, reduceIte, Nat.reduceEqDiff, Nat.reduceAdd, Nat.reduceLT, Nat.reduceLeDiff, Nat.reduceBEq, Nat.reduceMul, Nat.reduceSub, Nat.reduceDiv, Int.reduceNeg, Int.reduceLT, Int.reduceLE, Int.reduceEq, Int.reduceToNat, lk11, ints, palC, hsu3]
        all_goals first | exact .refl _ | exact ⟨.refl _, .refl _⟩ | exact ⟨.refl _, .refl _, .refl _⟩ | exact ⟨.refl _, _, rfl⟩ | exact ⟨_, rfl⟩ | exact ⟨.refl _, [], by simp⟩ | exact ⟨[], by simp⟩
  have hlt' : ¬ (i : Int) < kk.length := fun h => hlt (Int.ofNat_lt.1 h)
  have e : kk.take i = kk := List.take_of_length_le (Nat.le_of_not_lt hlt)
  simp (config := { maxSteps := 2000000 }) only [go_sem, reduceIte, Nat.reduceEqDiff, Nat.reduceAdd, Nat.reduceLT, Nat.reduceLeDiff, Nat.reduceBEq, Nat.reduceMul, Nat.reduceSub, Nat.reduceDiv, Int.reduceNeg, Int.reduceLT, Int.reduceLE, Int.reduceEq, Int.reduceToNat, lk11, ints, hlt', e, hk2, y2]
  refine aops_pure' (works15) rfl rfl (by first | exact wk_refls _ | (repeat constructor)) ?_
  simp (config := { maxSteps := 2000000 }) only [go_sem, reduceIte, Nat.reduceEqDiff, Nat.reduceAdd, Nat.reduceLT, Nat.reduceLeDiff, Nat.reduceBEq, Nat.reduceMul, Nat.reduceSub, Nat.reduceDiv, Int.reduceNeg, Int.reduceLT, Int.reduceLE, Int.reduceEq, Int.reduceToNat, lk11]
end Go.Proofs.Ytjkpfojkkfopmaa
