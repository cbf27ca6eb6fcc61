/- Metamers: narrower ranges, walked. -/
import Derived.Test.YtjkpfojkkfopmaaM25
import Derived.Test.YtjkpfojkkfopmaaM19
set_option linter.unusedSimpArgs false
set_option linter.unusedVariables false
set_option maxRecDepth 100000
namespace Go.Proofs.Ytjkpfojkkfopmaa
open Go Go.Abs Go.Proofs
def kp9 : List (Nat × List Nat) := [(0, [1, 2, 3, 4, 5]), (1, [1, 2, 3, 4, 5, 43]), (2, [10]), (3, [1, 2, 5, 11, 12]), (4, [1, 2, 5, 11, 12, 13]), (5, [1, 2, 5, 11, 12, 13, 14]), (6, [1, 2, 5, 11, 12, 13, 14, 55]), (7, [1, 2, 5, 11, 12, 13, 14]), (8, [1, 2, 5, 11, 12, 13, 14]), (9, [1, 2, 5, 11, 12, 13, 15]), (10, [1, 2, 5, 11, 12, 13, 15, 87]), (11, [1, 2, 5, 11, 12, 13, 15]), (12, [1, 2, 5, 11, 12, 13, 15, 16]), (13, [1, 2, 5, 11, 12, 13, 15, 16, 17]), (14, [1, 2, 5, 11, 12, 13, 15, 16, 17, 94]), (15, [1, 2, 5, 11, 12, 13, 15, 16, 17]), (16, [1, 2, 5, 11, 12, 13, 15, 16, 17]), (17, [1, 2, 5, 11, 12, 13, 15]), (18, [1, 2, 5, 13, 18, 19]), (19, [1, 2, 5, 13, 18, 19, 20, 21]), (20, [1, 2, 5, 13, 18, 19, 20, 21, 22, 23]), (21, [1, 2, 5, 13, 18, 19, 20, 21, 22, 23, 24, 25]), (22, [1, 2, 5, 13, 18, 20, 22, 24, 200]), (23, [10]), (24, [1, 2, 5, 13, 18, 20, 22, 24, 26]), (25, [1, 2, 5, 13, 18, 20, 22, 24, 26, 202]), (26, [1, 2, 5, 13, 18, 20, 22, 24, 26]), (27, [1, 2, 5, 13, 18, 20, 22, 24, 26, 226]), (28, [10]), (29, [27, 28]), (30, [10])]
theorem lk9 : lookK kp9 0 = some [1, 2, 3, 4, 5] ∧ lookK kp9 1 = some [1, 2, 3, 4, 5, 43] ∧ lookK kp9 2 = some [10] ∧ lookK kp9 3 = some [1, 2, 5, 11, 12] ∧ lookK kp9 4 = some [1, 2, 5, 11, 12, 13] ∧ lookK kp9 5 = some [1, 2, 5, 11, 12, 13, 14] ∧ lookK kp9 6 = some [1, 2, 5, 11, 12, 13, 14, 55] ∧ lookK kp9 7 = some [1, 2, 5, 11, 12, 13, 14] ∧ lookK kp9 8 = some [1, 2, 5, 11, 12, 13, 14] ∧ lookK kp9 9 = some [1, 2, 5, 11, 12, 13, 15] ∧ lookK kp9 10 = some [1, 2, 5, 11, 12, 13, 15, 87] ∧ lookK kp9 11 = some [1, 2, 5, 11, 12, 13, 15] ∧ lookK kp9 12 = some [1, 2, 5, 11, 12, 13, 15, 16] ∧ lookK kp9 13 = some [1, 2, 5, 11, 12, 13, 15, 16, 17] ∧ lookK kp9 14 = some [1, 2, 5, 11, 12, 13, 15, 16, 17, 94] ∧ lookK kp9 15 = some [1, 2, 5, 11, 12, 13, 15, 16, 17] ∧ lookK kp9 16 = some [1, 2, 5, 11, 12, 13, 15, 16, 17] ∧ lookK kp9 17 = some [1, 2, 5, 11, 12, 13, 15] ∧ lookK kp9 18 = some [1, 2, 5, 13, 18, 19] ∧ lookK kp9 19 = some [1, 2, 5, 13, 18, 19, 20, 21] ∧ lookK kp9 20 = some [1, 2, 5, 13, 18, 19, 20, 21, 22, 23] ∧ lookK kp9 21 = some [1, 2, 5, 13, 18, 19, 20, 21, 22, 23, 24, 25] ∧ lookK kp9 22 = some [1, 2, 5, 13, 18, 20, 22, 24, 200] ∧ lookK kp9 23 = some [10] ∧ lookK kp9 24 = some [1, 2, 5, 13, 18, 20, 22, 24, 26] ∧ lookK kp9 25 = some [1, 2, 5, 13, 18, 20, 22, 24, 26, 202] ∧ lookK kp9 26 = some [1, 2, 5, 13, 18, 20, 22, 24, 26] ∧ lookK kp9 27 = some [1, 2, 5, 13, 18, 20, 22, 24, 26, 226] ∧ lookK kp9 28 = some [10] ∧ lookK kp9 29 = some [27, 28] ∧ lookK kp9 30 = some [10] := ⟨rfl, rfl, rfl, rfl, rfl, rfl, rfl, rfl, rfl, rfl, rfl, rfl, rfl, rfl, rfl, rfl, rfl, rfl, rfl, rfl, rfl, rfl, rfl, rfl, rfl, rfl, rfl, rfl, rfl, rfl, rfl⟩

theorem own_ok16 {m : Nat} (h : m ≤ 4096) : (decide ((m + 1 + (m + 1) / 4 + 256) * 16 ≤ 281474976710656) && decide (m ≤ 140737488355327)) = true := by
  simp; omega
theorem fine_ok {c : Cs} {a b : List Int} (h : fineB c a b = true) : OkC c ∧ okChip c a = 0 ∧ okChip c b = 0 := by
  simp only [fineB, Bool.and_eq_true, decide_eq_true_eq] at h
  exact (okChips_iff c a b).1 h.2.2.2
set_option maxHeartbeats 8000000 in
theorem narrowerLaw (c : Cs) (a b by' by2 : List Int) (hby : B16 by') (hb2 : B16 by2) : Pure Try.prog 9 [csV c, ints a, ints b, u16s by', u16s by2] (B true) := by
  refine pure_wkE (bad := [3]) (kp := kp9) (X := tx) (nt := 244) (rs := [.tmp 10]) Try.func9 rfl rfl rfl rfl mo (by kernel_rfl) rfl rfl (fun hf => ?_)
  simp (config := { maxSteps := 2000000 }) only [go_sem, reduceIte, Nat.reduceEqDiff, Nat.reduceAdd, Nat.reduceLT, Nat.reduceLeDiff, Nat.reduceBEq, Nat.reduceMul, Nat.reduceSub, Nat.reduceDiv, Int.reduceNeg, Int.reduceLT, Int.reduceLE, Int.reduceEq, Int.reduceToNat, lk9, csV, csC, ints, u16s]
  refine aops_pure' (fine42 c a b) rfl rfl (by first | exact wk_refls _ | (repeat constructor)) ?_
  cases hf : fineB c a b with
  | false =>
    simp (config := { maxSteps := 2000000 }) only [go_sem, reduceIte, Nat.reduceEqDiff, Nat.reduceAdd, Nat.reduceLT, Nat.reduceLeDiff, Nat.reduceBEq, Nat.reduceMul, Nat.reduceSub, Nat.reduceDiv, Int.reduceNeg, Int.reduceLT, Int.reduceLE, Int.reduceEq, Int.reduceToNat, lk9]
    refine aops_pure' (works15) rfl rfl (by first | exact wk_refls _ | (repeat constructor)) ?_
    simp (config := { maxSteps := 2000000 }) only [go_sem, reduceIte, Nat.reduceEqDiff, Nat.reduceAdd, Nat.reduceLT, Nat.reduceLeDiff, Nat.reduceBEq, Nat.reduceMul, Nat.reduceSub, Nat.reduceDiv, Int.reduceNeg, Int.reduceLT, Int.reduceLE, Int.reduceEq, Int.reduceToNat, lk9]
  | true =>
  simp (config := { maxSteps := 2000000 }) only [go_sem, reduceIte, Nat.reduceEqDiff, Nat.reduceAdd, Nat.reduceLT, Nat.reduceLeDiff, Nat.reduceBEq, Nat.reduceMul, Nat.reduceSub, Nat.reduceDiv, Int.reduceNeg, Int.reduceLT, Int.reduceLE, Int.reduceEq, Int.reduceToNat, lk9]
  by_cases h1 : (40 : Int) < by'.length
  · simp (config := { maxSteps := 2000000 }) only [go_sem, reduceIte, Nat.reduceEqDiff, Nat.reduceAdd, Nat.reduceLT, Nat.reduceLeDiff, Nat.reduceBEq, Nat.reduceMul, Nat.reduceSub, Nat.reduceDiv, Int.reduceNeg, Int.reduceLT, Int.reduceLE, Int.reduceEq, Int.reduceToNat, lk9, h1]
    refine aops_pure' (works15) rfl rfl (by first | exact wk_refls _ | (repeat constructor)) ?_
    simp (config := { maxSteps := 2000000 }) only [go_sem, reduceIte, Nat.reduceEqDiff, Nat.reduceAdd, Nat.reduceLT, Nat.reduceLeDiff, Nat.reduceBEq, Nat.reduceMul, Nat.reduceSub, Nat.reduceDiv, Int.reduceNeg, Int.reduceLT, Int.reduceLE, Int.reduceEq, Int.reduceToNat, lk9]
  by_cases h2 : (40 : Int) < by2.length
  · simp (config := { maxSteps := 2000000 }) only [go_sem, reduceIte, Nat.reduceEqDiff, Nat.reduceAdd, Nat.reduceLT, Nat.reduceLeDiff, Nat.reduceBEq, Nat.reduceMul, Nat.reduceSub, Nat.reduceDiv, Int.reduceNeg, Int.reduceLT, Int.reduceLE, Int.reduceEq, Int.reduceToNat, lk9, h1, h2]
    refine aops_pure' (works15) rfl rfl (by first | exact wk_refls _ | (repeat constructor)) ?_
    simp (config := { maxSteps := 2000000 }) only [go_sem, reduceIte, Nat.reduceEqDiff, Nat.reduceAdd, Nat.reduceLT, Nat.reduceLeDiff, Nat.reduceBEq, Nat.reduceMul, Nat.reduceSub, Nat.reduceDiv, Int.reduceNeg, Int.reduceLT, Int.reduceLE, Int.reduceEq, Int.reduceToNat, lk9]
  obtain ⟨hc, ha, hb⟩ := fine_ok hf
  obtain ⟨hsa, hna⟩ := chip_spec hc ha
  obtain ⟨hsb, hnb⟩ := chip_spec hc hb
  have hx := trueT_ok hc by'
  have hy := trueT_ok hc by2
  have t1 := true43 c by' hc hby
  have t2 := true43 c by2 hc hb2
  have h8 := hc.n8
  generalize trueT c by' = x at *
  generalize trueT c by2 = y at *
  have hN := nar_ok hc hx hy
  simp (config := { maxSteps := 2000000 }) only [go_sem, reduceIte, Nat.reduceEqDiff, Nat.reduceAdd, Nat.reduceLT, Nat.reduceLeDiff, Nat.reduceBEq, Nat.reduceMul, Nat.reduceSub, Nat.reduceDiv, Int.reduceNeg, Int.reduceLT, Int.reduceLE, Int.reduceEq, Int.reduceToNat, lk9, h1, h2, csC]
  refine de_pure (t1) rfl rfl (by first | exact wk_refls _ | (repeat constructor)) ?_
  simp (config := { maxSteps := 2000000 }) only [go_sem, reduceIte, Nat.reduceEqDiff, Nat.reduceAdd, Nat.reduceLT, Nat.reduceLeDiff, Nat.reduceBEq, Nat.reduceMul, Nat.reduceSub, Nat.reduceDiv, Int.reduceNeg, Int.reduceLT, Int.reduceLE, Int.reduceEq, Int.reduceToNat, lk9, csC]
  refine de_pure (t2) rfl rfl (by first | exact wk_refls _ | (repeat constructor)) ?_
  simp (config := { maxSteps := 2000000 }) only [go_sem, reduceIte, Nat.reduceEqDiff, Nat.reduceAdd, Nat.reduceLT, Nat.reduceLeDiff, Nat.reduceBEq, Nat.reduceMul, Nat.reduceSub, Nat.reduceDiv, Int.reduceNeg, Int.reduceLT, Int.reduceLE, Int.reduceEq, Int.reduceToNat, lk9, trV, trC, csC]
  refine ⟨pairsOk_ord (by kernel_rfl), ?_⟩
  refine goE_loop (bad := [3]) (kp := kp9) (fun k : Nat => { slots := [(1, ints a), (2, ints b), (5, .c (.ptr 0 0)), (11, .c (.ptr 1 0)), (12, .c (.ptr 2 0)), (13, .c (.ptr 3 0)), (14, I k)], heap := [.cells (csC c), .cells (trC x), .cells (trC y), .cells [.own 5 [], .own 4 ((narM x y k).map rgD)], .grow k 2, .grow 0 1], marks := [] }) (fun k => k ≤ c.lamp.length) (fun k => c.lamp.length - k) 0 mo (by kernel_rfl) ?_ (Nat.zero_le _) ?_
  · refine Ent.trans (ent_own_cell 3 1 2 rfl rfl) ?_
    refine Ent.trans (ent_own_cell 3 0 1 rfl rfl) ?_
    refine ent_weaken [] rfl rfl (Nat.zero_le _) rfl rfl ?_
    simp (config := { maxSteps := 2000000 }) only [go_sem, reduceIte, Nat.reduceEqDiff, Nat.reduceAdd, Nat.reduceLT, Nat.reduceLeDiff, Nat.reduceBEq, Nat.reduceMul, Nat.reduceSub, Nat.reduceDiv, Int.reduceNeg, Int.reduceLT, Int.reduceLE, Int.reduceEq, Int.reduceToNat, lk9, ints, csC, trC, Int.natCast_zero]
    all_goals first | exact .refl _ | exact ⟨.refl _, .refl _⟩ | exact ⟨.refl _, .refl _, .refl _⟩ | exact ⟨.refl _, _, rfl⟩ | exact ⟨_, rfl⟩ | exact ⟨.refl _, [], by simp⟩ | exact ⟨[], by simp⟩
  rintro k hk
  simp (config := { maxSteps := 2000000 }) only [go_sem, reduceIte, Nat.reduceEqDiff, Nat.reduceAdd, Nat.reduceLT, Nat.reduceLeDiff, Nat.reduceBEq, Nat.reduceMul, Nat.reduceSub, Nat.reduceDiv, Int.reduceNeg, Int.reduceLT, Int.reduceLE, Int.reduceEq, Int.reduceToNat, lk9, ints, csC, trC]
  by_cases hlt : k < c.lamp.length
  · have hlt' : (k : Int) < c.lamp.length := by omega
    have m1 : c.lamp.length - (k + 1) < c.lamp.length - k := by omega
    have gx := Tr.l_lt (c := x) (b := k) (by rw [hx.ln]; exact hlt)
    have gy := Tr.l_lt (c := y) (b := k) (by rw [hy.ln]; exact hlt)
    have kx : (k : Int) < x.lamp.length := by rw [hx.ln]; exact hlt'
    have ky : (k : Int) < y.lamp.length := by rw [hy.ln]; exact hlt'
    have hq := own_ok16 (m := k) (by omega)
    have hq1 : (k + 1 + (k + 1) / 4 + 256) * 16 ≤ 281474976710656 := by omega
    have hq2 : k + 1 ≤ 140737488355328 := by omega
    have w3 : wr .i64 ((k : Int) + 1) = ((k + 1 : Nat) : Int) := wr_succ hlt (by omega)
    have hall : ((narM x y k).map rgD).all (fun r => r.length == 2) = true := by simp [rgD]
    simp (config := { maxSteps := 2000000 }) only [go_sem, reduceIte, Nat.reduceEqDiff, Nat.reduceAdd, Nat.reduceLT, Nat.reduceLeDiff, Nat.reduceBEq, Nat.reduceMul, Nat.reduceSub, Nat.reduceDiv, Int.reduceNeg, Int.reduceLT, Int.reduceLE, Int.reduceEq, Int.reduceToNat, lk9, hlt', gx, gy, kx, ky, nn, iD, minL2, maxL2, narM_len, rgD, w3]
    refine ⟨by simpa using hq, k + 1, hlt, m1, ?_⟩
    refine ent_weaken [] (by rw [narM_succ, List.map_append]; rfl) rfl (Nat.zero_le _) rfl rfl ?_
    simp (config := { maxSteps := 2000000 }) only [go_sem, reduceIte, Nat.reduceEqDiff, Nat.reduceAdd, Nat.reduceLT, Nat.reduceLeDiff, Nat.reduceBEq, Nat.reduceMul, Nat.reduceSub, Nat.reduceDiv, Int.reduceNeg, Int.reduceLT, Int.reduceLE, Int.reduceEq, Int.reduceToNat, lk9, ints, csC, trC]
    all_goals first | exact .refl _ | exact ⟨.refl _, .refl _⟩ | exact ⟨.refl _, .refl _, .refl _⟩ | exact ⟨.refl _, _, rfl⟩ | exact ⟨_, rfl⟩ | exact ⟨.refl _, [], by simp⟩ | exact ⟨[], by simp⟩
  have hlt' : ¬ (k : Int) < c.lamp.length := by omega
  have e : k = c.lamp.length := by omega
  simp (config := { maxSteps := 2000000 }) only [go_sem, reduceIte, Nat.reduceEqDiff, Nat.reduceAdd, Nat.reduceLT, Nat.reduceLeDiff, Nat.reduceBEq, Nat.reduceMul, Nat.reduceSub, Nat.reduceDiv, Int.reduceNeg, Int.reduceLT, Int.reduceLE, Int.reduceEq, Int.reduceToNat, lk9, hlt']
  rw [e]
  clear hk hlt hlt' e k
  generalize hNN : c.lamp.length = N at *
  have hxl : x.lamp.length = N := hx.ln.trans hNN
  refine goE_loop (bad := [3]) (kp := kp9) (fun i : Nat => { slots := [(1, ints a), (2, ints b), (5, .c (.ptr 0 0)), (11, .c (.ptr 1 0)), (12, .c (.ptr 2 0)), (13, .c (.ptr 3 0)), (15, I i)], heap := [.cells (csC c), .cells (trC x), .cells (trC y), .cells [.own 5 (narEs x y N i), .own 4 ((narM x y N).map rgD)], .grow N 2, .grow i 1], marks := [] }) (fun i => i ≤ 3) (fun i => 3 - i) 0 mo (by kernel_rfl) ?_ (Nat.zero_le _) ?_
  · refine ent_weaken [] rfl rfl (Nat.zero_le _) rfl rfl ?_
    simp (config := { maxSteps := 2000000 }) only [go_sem, reduceIte, Nat.reduceEqDiff, Nat.reduceAdd, Nat.reduceLT, Nat.reduceLeDiff, Nat.reduceBEq, Nat.reduceMul, Nat.reduceSub, Nat.reduceDiv, Int.reduceNeg, Int.reduceLT, Int.reduceLE, Int.reduceEq, Int.reduceToNat, lk9, ints, csC, trC, Int.natCast_zero]
    all_goals first | exact .refl _ | exact ⟨.refl _, .refl _⟩ | exact ⟨.refl _, .refl _, .refl _⟩ | exact ⟨.refl _, _, rfl⟩ | exact ⟨_, rfl⟩ | exact ⟨.refl _, [], by simp⟩ | exact ⟨[], by simp⟩
  rintro i hi
  simp (config := { maxSteps := 2000000 }) only [go_sem, reduceIte, Nat.reduceEqDiff, Nat.reduceAdd, Nat.reduceLT, Nat.reduceLeDiff, Nat.reduceBEq, Nat.reduceMul, Nat.reduceSub, Nat.reduceDiv, Int.reduceNeg, Int.reduceLT, Int.reduceLE, Int.reduceEq, Int.reduceToNat, lk9, ints, csC, trC]
  by_cases hlt2 : i < 3
  · have hlt2' : (i : Int) < 3 := by omega
    have m2 : 3 - (i + 1) < 3 - i := by omega
    have w4 : wr .i64 ((i : Int) + 1) = ((i + 1 : Nat) : Int) := by rw [wr_i64] <;> omega
    obtain ⟨rx, hrx⟩ := get_of_lt (show i < x.eye.length by rw [hx.e3]; exact hlt2)
    obtain ⟨ry, hry⟩ := get_of_lt (show i < y.eye.length by rw [hy.e3]; exact hlt2)
    have lx := (hx.er rx (List.mem_of_getElem? hrx)).trans hNN
    have ly := (hy.er ry (List.mem_of_getElem? hry)).trans hNN
    have kx : (i : Int) < x.eye.length := by rw [hx.e3]; exact hlt2'
    have ky : (i : Int) < y.eye.length := by rw [hy.e3]; exact hlt2'
    simp (config := { maxSteps := 2000000 }) only [go_sem, reduceIte, Nat.reduceEqDiff, Nat.reduceAdd, Nat.reduceLT, Nat.reduceLeDiff, Nat.reduceBEq, Nat.reduceMul, Nat.reduceSub, Nat.reduceDiv, Int.reduceNeg, Int.reduceLT, Int.reduceLE, Int.reduceEq, Int.reduceToNat, lk9, hlt2']
    refine goE_loop (bad := [3]) (kp := kp9) (fun k : Nat => { slots := [(1, ints a), (2, ints b), (5, .c (.ptr 0 0)), (11, .c (.ptr 1 0)), (12, .c (.ptr 2 0)), (13, .c (.ptr 3 0)), (15, I i), (16, .c (.own 6 ((narN x y i k).map rgD))), (17, I k)], heap := [.cells (csC c), .cells (trC x), .cells (trC y), .cells [.own 5 (narEs x y N i), .own 4 ((narM x y N).map rgD)], .grow N 2, .grow i 1, .grow k 2], marks := [] }) (fun k => k ≤ N) (fun k => N - k) 0 mo (by kernel_rfl) ?_ (Nat.zero_le _) ?_
    · refine Ent.trans (ent_own 16 2 rfl) ?_
      refine ent_weaken [] rfl rfl (Nat.zero_le _) rfl rfl ?_
      simp (config := { maxSteps := 2000000 }) only [go_sem, reduceIte, Nat.reduceEqDiff, Nat.reduceAdd, Nat.reduceLT, Nat.reduceLeDiff, Nat.reduceBEq, Nat.reduceMul, Nat.reduceSub, Nat.reduceDiv, Int.reduceNeg, Int.reduceLT, Int.reduceLE, Int.reduceEq, Int.reduceToNat, lk9, ints, csC, trC, Int.natCast_zero]
      all_goals first | exact .refl _ | exact ⟨.refl _, .refl _⟩ | exact ⟨.refl _, .refl _, .refl _⟩ | exact ⟨.refl _, _, rfl⟩ | exact ⟨_, rfl⟩ | exact ⟨.refl _, [], by simp⟩ | exact ⟨[], by simp⟩
    rintro k hk
    simp (config := { maxSteps := 2000000 }) only [go_sem, reduceIte, Nat.reduceEqDiff, Nat.reduceAdd, Nat.reduceLT, Nat.reduceLeDiff, Nat.reduceBEq, Nat.reduceMul, Nat.reduceSub, Nat.reduceDiv, Int.reduceNeg, Int.reduceLT, Int.reduceLE, Int.reduceEq, Int.reduceToNat, lk9, ints, csC, trC, hNN]
    by_cases hltk : k < N
    · have hltk' : (k : Int) < N := by omega
      have m3 : N - (k + 1) < N - k := by omega
      have gx := Tr.e_at hrx (b := k) (by omega)
      have gy := Tr.e_at hry (b := k) (by omega)
      have kx2 : (k : Int) < rx.length := by rw [lx]; exact hltk'
      have ky2 : (k : Int) < ry.length := by rw [ly]; exact hltk'
      have hq := own_ok16 (m := k) (by omega)
      have w3 : wr .i64 ((k : Int) + 1) = ((k + 1 : Nat) : Int) := wr_succ hltk (by omega)
      simp (config := { maxSteps := 2000000 }) only [go_sem, reduceIte, Nat.reduceEqDiff, Nat.reduceAdd, Nat.reduceLT, Nat.reduceLeDiff, Nat.reduceBEq, Nat.reduceMul, Nat.reduceSub, Nat.reduceDiv, Int.reduceNeg, Int.reduceLT, Int.reduceLE, Int.reduceEq, Int.reduceToNat, lk9, hltk', hrx, hry, gx, gy, kx, ky, kx2, ky2, nn, iD, rowI, minL2, maxL2, narN_len, rgD, w3]
      refine ⟨by simpa using hq, k + 1, hltk, m3, ?_⟩
      refine ent_weaken [] rfl rfl (Nat.zero_le _) rfl rfl ?_
      simp (config := { maxSteps := 2000000 }) only [go_sem, reduceIte, Nat.reduceEqDiff, Nat.reduceAdd, Nat.reduceLT, Nat.reduceLeDiff, Nat.reduceBEq, Nat.reduceMul, Nat.reduceSub, Nat.reduceDiv, Int.reduceNeg, Int.reduceLT, Int.reduceLE, Int.reduceEq, Int.reduceToNat, lk9, ints, csC, trC, narN_succ, List.map_append, List.map_cons, List.map_nil, rgD, narE]
      all_goals first | exact .refl _ | exact ⟨.refl _, .refl _⟩ | exact ⟨.refl _, .refl _, .refl _⟩ | exact ⟨.refl _, _, rfl⟩ | exact ⟨_, rfl⟩ | exact ⟨.refl _, [], by simp⟩ | exact ⟨[], by simp⟩
    · have hltk' : ¬ (k : Int) < N := fun h => hltk (Int.ofNat_lt.1 h)
      have e : k = N := Nat.le_antisymm hk (Nat.le_of_not_lt hltk)
      have hq3 := own_ok3 (m := i) (Nat.le_trans hi (by decide))
      rw [e]
      have hNo : ¬ (N : Int) < N := Int.lt_irrefl _
      simp (config := { maxSteps := 2000000 }) only [go_sem, reduceIte, Nat.reduceEqDiff, Nat.reduceAdd, Nat.reduceLT, Nat.reduceLeDiff, Nat.reduceBEq, Nat.reduceMul, Nat.reduceSub, Nat.reduceDiv, Int.reduceNeg, Int.reduceLT, Int.reduceLE, Int.reduceEq, Int.reduceToNat, lk9, hNo, nn, w4, narEs_len, narEs_one]
      refine ⟨by simpa using hq3, i + 1, hlt2, m2, ?_⟩
      refine ent_weaken [.grow N 2] (by rw [narEs_succ]; rfl) rfl (Nat.zero_le _) rfl rfl ?_
      simp (config := { maxSteps := 2000000 }) only [go_sem, reduceIte, Nat.reduceEqDiff, Nat.reduceAdd, Nat.reduceLT, Nat.reduceLeDiff, Nat.reduceBEq, Nat.reduceMul, Nat.reduceSub, Nat.reduceDiv, Int.reduceNeg, Int.reduceLT, Int.reduceLE, Int.reduceEq, Int.reduceToNat, lk9, ints, csC, trC]
      all_goals first | exact .refl _ | exact ⟨.refl _, .refl _⟩ | exact ⟨.refl _, .refl _, .refl _⟩ | exact ⟨.refl _, _, rfl⟩ | exact ⟨_, rfl⟩ | exact ⟨.refl _, [], by simp⟩ | exact ⟨[], by simp⟩
  have hlt2' : ¬ (i : Int) < 3 := by omega
  have e3 : i = 3 := by omega
  subst e3
  have he : narEs x y N 3 = (narC N x y).eye.map rowR := by simp [narEs, narC]
  have c0 : okChips c a b = 0 := (okChips_iff c a b).2 ⟨hc, ha, hb⟩
  have c1 : chip1 c a = 0 := (chip1_iff c a).2 ⟨hc, ha⟩
  have ha2 : okChip (narC N x y) a = 0 := by rw [← hNN]; exact nar_chip ha
  have hb2' : okChip (narC N x y) b = 0 := by rw [← hNN]; exact nar_chip hb
  have d0 : okChips (narC N x y) a b = 0 := (okChips_iff _ a b).2 ⟨hN, ha2, hb2'⟩
  have d1 : chip1 (narC N x y) a = 0 := (chip1_iff _ a).2 ⟨hN, ha2⟩
  have s1 := spans18 c a
  have s2 := spans18 (narC N x y) a
  have s3 := apart24 c a b
  have s4 := apart24 (narC N x y) a b
  have q1 := surely27 c a b
  have q2 := surely27 (narC N x y) a b
  rw [show spaV c a = .tup [rgs (spansL c a), I 0] by simp only [spaV, c1, if_true]] at s1
  rw [show spaV (narC N x y) a = .tup [rgs (spansL (narC N x y) a), I 0] by simp only [spaV, d1, if_true]] at s2
  rw [show apaV c a b = .tup [rgs (spansL c (lessL a b)), I 0] by simp only [apaV, apaL, c0, if_true]] at s3
  rw [show apaV (narC N x y) a b = .tup [rgs (spansL (narC N x y) (lessL a b)), I 0] by simp only [apaV, apaL, d0, if_true]] at s4
  have i1 := fun k hk => nar_inside (k := k) hc hx hy (l := a) (hna.trans hNN.symm) hk
  have i2 := fun k hk => nar_inside (k := k) hc hx hy (l := lessL a b) ((lessL_len a b).trans (hna.trans hNN.symm)) hk
  have i3 := nar_sure hc hx hy (l := lessL a b) ((lessL_len a b).trans (hna.trans hNN.symm))
  rw [hNN] at i1 i2 i3
  have s1l : (spansL c a).length = 3 := rfl
  have s2l : (spansL (narC N x y) a).length = 3 := rfl
  have s3l : (spansL c (lessL a b)).length = 3 := rfl
  have s4l : (spansL (narC N x y) (lessL a b)).length = 3 := rfl
  have narV : csV (narC N x y) = .agg [.d (.sl (narEs x y N 3)), .d (.sl ((narM x y N).map rgD))] := by rw [he]; rfl
  generalize spansL c a = g1 at *
  generalize spansL (narC N x y) a = g2 at *
  generalize spansL c (lessL a b) = g3 at *
  generalize spansL (narC N x y) (lessL a b) = g4 at *
  rw [narV] at s2 s4 q2
  simp (config := { maxSteps := 2000000 }) only [go_sem, reduceIte, Nat.reduceEqDiff, Nat.reduceAdd, Nat.reduceLT, Nat.reduceLeDiff, Nat.reduceBEq, Nat.reduceMul, Nat.reduceSub, Nat.reduceDiv, Int.reduceNeg, Int.reduceLT, Int.reduceLE, Int.reduceEq, Int.reduceToNat, lk9, hlt2']
  refine aops_pure' (s1) rfl rfl (by first | exact wk_refls _ | (repeat constructor)) ?_
  simp (config := { maxSteps := 2000000 }) only [go_sem, reduceIte, Nat.reduceEqDiff, Nat.reduceAdd, Nat.reduceLT, Nat.reduceLeDiff, Nat.reduceBEq, Nat.reduceMul, Nat.reduceSub, Nat.reduceDiv, Int.reduceNeg, Int.reduceLT, Int.reduceLE, Int.reduceEq, Int.reduceToNat, lk9, csC]
  refine aops_pure' (s2) rfl rfl (by first | exact wk_refls _ | (repeat constructor)) ?_
  simp (config := { maxSteps := 2000000 }) only [go_sem, reduceIte, Nat.reduceEqDiff, Nat.reduceAdd, Nat.reduceLT, Nat.reduceLeDiff, Nat.reduceBEq, Nat.reduceMul, Nat.reduceSub, Nat.reduceDiv, Int.reduceNeg, Int.reduceLT, Int.reduceLE, Int.reduceEq, Int.reduceToNat, lk9, csC]
  refine aops_pure' (s3) rfl rfl (by first | exact wk_refls _ | (repeat constructor)) ?_
  simp (config := { maxSteps := 2000000 }) only [go_sem, reduceIte, Nat.reduceEqDiff, Nat.reduceAdd, Nat.reduceLT, Nat.reduceLeDiff, Nat.reduceBEq, Nat.reduceMul, Nat.reduceSub, Nat.reduceDiv, Int.reduceNeg, Int.reduceLT, Int.reduceLE, Int.reduceEq, Int.reduceToNat, lk9, csC]
  refine aops_pure' (s4) rfl rfl (by first | exact wk_refls _ | (repeat constructor)) ?_
  simp (config := { maxSteps := 2000000 }) only [go_sem, reduceIte, Nat.reduceEqDiff, Nat.reduceAdd, Nat.reduceLT, Nat.reduceLeDiff, Nat.reduceBEq, Nat.reduceMul, Nat.reduceSub, Nat.reduceDiv, Int.reduceNeg, Int.reduceLT, Int.reduceLE, Int.reduceEq, Int.reduceToNat, lk9, rgs, s1l, s2l, s3l, s4l, y3]
  refine goE_loop (bad := [3]) (kp := kp9) (fun i : Nat => { slots := [(1, ints a), (2, ints b), (5, .c (.ptr 0 0)), (13, .c (.ptr 3 0)), (18, rgs g1), (20, rgs g2), (22, rgs g3), (24, rgs g4), (26, I i)], heap := [.cells (csC c), .cells (trC x), .cells (trC y), .cells [.own 5 (narEs x y N 3), .own 4 ((narM x y N).map rgD)], .grow N 2, .grow 3 1], marks := [] }) (fun i => i ≤ 3) (fun i => 3 - i) 0 mo (by kernel_rfl) ?_ (Nat.zero_le _) ?_
  · refine ent_weaken [] rfl rfl (Nat.zero_le _) rfl rfl ?_
    simp (config := { maxSteps := 2000000 }) only [go_sem, reduceIte, Nat.reduceEqDiff, Nat.reduceAdd, Nat.reduceLT, Nat.reduceLeDiff, Nat.reduceBEq, Nat.reduceMul, Nat.reduceSub, Nat.reduceDiv, Int.reduceNeg, Int.reduceLT, Int.reduceLE, Int.reduceEq, Int.reduceToNat, lk9, ints, rgs, csC, trC, Int.natCast_zero]
    all_goals first | exact .refl _ | exact ⟨.refl _, .refl _⟩ | exact ⟨.refl _, .refl _, .refl _⟩ | exact ⟨.refl _, _, rfl⟩ | exact ⟨_, rfl⟩ | exact ⟨.refl _, [], by simp⟩ | exact ⟨[], by simp⟩
  rintro i hi
  simp (config := { maxSteps := 2000000 }) only [go_sem, reduceIte, Nat.reduceEqDiff, Nat.reduceAdd, Nat.reduceLT, Nat.reduceLeDiff, Nat.reduceBEq, Nat.reduceMul, Nat.reduceSub, Nat.reduceDiv, Int.reduceNeg, Int.reduceLT, Int.reduceLE, Int.reduceEq, Int.reduceToNat, lk9, ints, rgs, csC, trC]
  by_cases hlt : i < 3
  · have hlt' : (i : Int) < 3 := by omega
    obtain ⟨r1, r2, e1, e2, h12⟩ := i1 i hlt
    obtain ⟨r3, r4, e3, e4, h34⟩ := i2 i hlt
    have z1 := inside44 r2 r1
    have z2 := inside44 r4 r3
    rw [h12] at z1
    rw [h34] at z2
    have m1 : 3 - (i + 1) < 3 - i := by omega
    have k1 : (i : Int) < g1.length := by rw [s1l]; exact hlt'
    have k2 : (i : Int) < g2.length := by rw [s2l]; exact hlt'
    have k3 : (i : Int) < g3.length := by rw [s3l]; exact hlt'
    have k4 : (i : Int) < g4.length := by rw [s4l]; exact hlt'
    have w3 : wr .i64 ((i : Int) + 1) = ((i + 1 : Nat) : Int) := wr_succ hlt (by decide)
    simp (config := { maxSteps := 2000000 }) only [go_sem, reduceIte, Nat.reduceEqDiff, Nat.reduceAdd, Nat.reduceLT, Nat.reduceLeDiff, Nat.reduceBEq, Nat.reduceMul, Nat.reduceSub, Nat.reduceDiv, Int.reduceNeg, Int.reduceLT, Int.reduceLE, Int.reduceEq, Int.reduceToNat, lk9, hlt', e1, e2, e3, e4, k1, k2, k3, k4, nn, rgD]
    refine dops_pure' (z1) rfl rfl (by first | exact wk_refls _ | (repeat constructor)) (by kernel_rfl) ?_
    simp (config := { maxSteps := 2000000 }) only [go_sem, reduceIte, Nat.reduceEqDiff, Nat.reduceAdd, Nat.reduceLT, Nat.reduceLeDiff, Nat.reduceBEq, Nat.reduceMul, Nat.reduceSub, Nat.reduceDiv, Int.reduceNeg, Int.reduceLT, Int.reduceLE, Int.reduceEq, Int.reduceToNat, lk9, hlt', e1, e2, e3, e4, k1, k2, k3, k4, nn, rgD]
    refine dops_pure' (z2) rfl rfl (by first | exact wk_refls _ | (repeat constructor)) (by kernel_rfl) ?_
    simp (config := { maxSteps := 2000000 }) only [go_sem, reduceIte, Nat.reduceEqDiff, Nat.reduceAdd, Nat.reduceLT, Nat.reduceLeDiff, Nat.reduceBEq, Nat.reduceMul, Nat.reduceSub, Nat.reduceDiv, Int.reduceNeg, Int.reduceLT, Int.reduceLE, Int.reduceEq, Int.reduceToNat, lk9, w3]
    refine ⟨i + 1, hlt, m1, ?_⟩
    refine ent_weaken [] rfl rfl (Nat.zero_le _) rfl rfl ?_
    simp (config := { maxSteps := 2000000 }) only [go_sem, reduceIte, Nat.reduceEqDiff, Nat.reduceAdd, Nat.reduceLT, Nat.reduceLeDiff, Nat.reduceBEq, Nat.reduceMul, Nat.reduceSub, Nat.reduceDiv, Int.reduceNeg, Int.reduceLT, Int.reduceLE, Int.reduceEq, Int.reduceToNat, lk9, ints, rgs, csC, trC]
    all_goals first | exact .refl _ | exact ⟨.refl _, .refl _⟩ | exact ⟨.refl _, .refl _, .refl _⟩ | exact ⟨.refl _, _, rfl⟩ | exact ⟨_, rfl⟩ | exact ⟨.refl _, [], by simp⟩ | exact ⟨[], by simp⟩
  have hlt' : ¬ (i : Int) < 3 := by omega
  have p1 : sureP c a b = if partB c (lessL a b) then 19 else 0 := by simp only [sureP, c0, if_true]
  have p2 : sureP (narC N x y) a b = if partB (narC N x y) (lessL a b) then 19 else 0 := by simp only [sureP, d0, if_true]
  rw [p1] at q1
  rw [p2] at q2
  simp (config := { maxSteps := 2000000 }) only [go_sem, reduceIte, Nat.reduceEqDiff, Nat.reduceAdd, Nat.reduceLT, Nat.reduceLeDiff, Nat.reduceBEq, Nat.reduceMul, Nat.reduceSub, Nat.reduceDiv, Int.reduceNeg, Int.reduceLT, Int.reduceLE, Int.reduceEq, Int.reduceToNat, lk9, hlt']
  refine dops_pure' (q1) rfl rfl (by first | exact wk_refls _ | (repeat constructor)) (by kernel_rfl) ?_
  simp (config := { maxSteps := 2000000 }) only [go_sem, reduceIte, Nat.reduceEqDiff, Nat.reduceAdd, Nat.reduceLT, Nat.reduceLeDiff, Nat.reduceBEq, Nat.reduceMul, Nat.reduceSub, Nat.reduceDiv, Int.reduceNeg, Int.reduceLT, Int.reduceLE, Int.reduceEq, Int.reduceToNat, lk9, csC]
  refine dops_pure' (q2) rfl rfl (by first | exact wk_refls _ | (repeat constructor)) (by kernel_rfl) ?_
  cases hp : partB c (lessL a b) with
  | true =>
    simp (config := { maxSteps := 2000000 }) only [go_sem, reduceIte, Nat.reduceEqDiff, Nat.reduceAdd, Nat.reduceLT, Nat.reduceLeDiff, Nat.reduceBEq, Nat.reduceMul, Nat.reduceSub, Nat.reduceDiv, Int.reduceNeg, Int.reduceLT, Int.reduceLE, Int.reduceEq, Int.reduceToNat, lk9]
    refine aops_pure' (works15) rfl rfl (by first | exact wk_refls _ | (repeat constructor)) ?_
    simp (config := { maxSteps := 2000000 }) only [go_sem, reduceIte, Nat.reduceEqDiff, Nat.reduceAdd, Nat.reduceLT, Nat.reduceLeDiff, Nat.reduceBEq, Nat.reduceMul, Nat.reduceSub, Nat.reduceDiv, Int.reduceNeg, Int.reduceLT, Int.reduceLE, Int.reduceEq, Int.reduceToNat, lk9]
  | false =>
    rw [i3 hp]
    simp (config := { maxSteps := 2000000 }) only [go_sem, reduceIte, Nat.reduceEqDiff, Nat.reduceAdd, Nat.reduceLT, Nat.reduceLeDiff, Nat.reduceBEq, Nat.reduceMul, Nat.reduceSub, Nat.reduceDiv, Int.reduceNeg, Int.reduceLT, Int.reduceLE, Int.reduceEq, Int.reduceToNat, lk9]
    refine aops_pure' (works15) rfl rfl (by first | exact wk_refls _ | (repeat constructor)) ?_
    simp (config := { maxSteps := 2000000 }) only [go_sem, reduceIte, Nat.reduceEqDiff, Nat.reduceAdd, Nat.reduceLT, Nat.reduceLeDiff, Nat.reduceBEq, Nat.reduceMul, Nat.reduceSub, Nat.reduceDiv, Int.reduceNeg, Int.reduceLT, Int.reduceLE, Int.reduceEq, Int.reduceToNat, lk9]
end Go.Proofs.Ytjkpfojkkfopmaa
