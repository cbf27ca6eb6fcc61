/- Metamers: a truth whose slices are written later. -/
import Derived.Test.YtjkpfojkkfopmaaM15
import Derived.Test.YtjkpfojkkfopmaaAbsC
set_option linter.unusedSimpArgs false
set_option linter.unusedVariables false
set_option maxRecDepth 100000
namespace Go.Proofs.Ytjkpfojkkfopmaa
open Go Go.Abs Go.Proofs

theorem c3 (i : Nat) : ((i : Nat) : Int) = Int.ofNat i := rfl
/-- The blocks of a truth. -/
def tvB (c : Cs) (n : Nat) (l r0 r1 r2 : List Int) : List AB := [.cells (csC c), .cells [.vs 4 3, .vs 3 n], .cells [.vs 4 3, .vs 3 n], vI n l, .vec 3 1 [.vs 5 n, .vs 6 n, .vs 7 n], vI n r0, vI n r1, vI n r2]
def tvX (n : Nat) : V := .agg [.vs 4 3, .vs 3 n]
def tH (c : Cs) (by' : List Int) (i : Nat) : List AB := match i with
  | 0 => [.cells (csC c), .cells [.full [], .full []], .cells [.vs 4 0, .vs 3 c.lamp.length], vI c.lamp.length (trueL c by' c.lamp.length), .vec 0 1 []]
  | 1 => [.cells (csC c), .cells [.full [], .full []], .cells [.vs 4 1, .vs 3 c.lamp.length], vI c.lamp.length (trueL c by' c.lamp.length), .vec 1 1 [.vs 5 c.lamp.length], vI c.lamp.length (trueN c by' 0 c.lamp.length)]
  | 2 => [.cells (csC c), .cells [.full [], .full []], .cells [.vs 4 2, .vs 3 c.lamp.length], vI c.lamp.length (trueL c by' c.lamp.length), .vec 2 1 [.vs 5 c.lamp.length, .vs 6 c.lamp.length], vI c.lamp.length (trueN c by' 0 c.lamp.length), vI c.lamp.length (trueN c by' 1 c.lamp.length)]
  | _ => [.cells (csC c), .cells [.full [], .full []], .cells [.vs 4 3, .vs 3 c.lamp.length], vI c.lamp.length (trueL c by' c.lamp.length), .vec 3 1 [.vs 5 c.lamp.length, .vs 6 c.lamp.length, .vs 7 c.lamp.length], vI c.lamp.length (trueN c by' 0 c.lamp.length), vI c.lamp.length (trueN c by' 1 c.lamp.length), vI c.lamp.length (trueN c by' 2 c.lamp.length)]
set_option maxHeartbeats 8000000 in
theorem true43v (c : Cs) (by' : List Int) (hc : OkC c) (hb : B16 by') : ACall Try.prog 43 [csV c, u16s by'] [] (one (tvX c.lamp.length) (tvB c c.lamp.length (trueL c by' c.lamp.length) (trueN c by' 0 c.lamp.length) (trueN c by' 1 c.lamp.length) (trueN c by' 2 c.lamp.length))) := by
  refine acall_fitE (bad := []) (kp := kp43) (X := tx) (nt := 73) (rs := [.cell 4 29]) Try.func43 rfl rfl rfl rfl mo (by kernel_rfl) (fun hf => ?_)
  have h8 := hc.n8
  have he3 := hc.e3
  have he3' : (c.eye.length : Int) = 3 := by omega
  simp (maxSteps := 2000000) only [go_sem, reduceIte, Nat.reduceEqDiff, Nat.reduceAdd, lk43, csV, csC, u16s]
  refine goE_loop (bad := []) (kp := kp43) (fun b : Nat => { slots := [(1, u16s by'), (2, .c (.ptr 0 0)), (4, .c (.ptr 1 0)), (5, .c (.ptr 2 0)), (6, I b), (7, I b)], heap := [.cells (csC c), .cells [.full [], .full []], .cells [.vs 4 0, .vs 3 b], vI b (trueL c by' b), .vec 0 1 []], marks := [] }) (fun b => b ≤ c.lamp.length) (fun b => c.lamp.length - b) 0 mo (by kernel_rfl) ?_ (Nat.zero_le _) ?_
  · refine Ent.trans (ent_vec_cell 2 1 1 rfl rfl) ?_
    refine Ent.trans (ent_vec_cell 2 0 1 rfl rfl) ?_
    refine ent_weaken [] rfl rfl (Nat.zero_le _) rfl rfl ?_
    simp (maxSteps := 2000000) only [go_sem, reduceIte, Nat.reduceEqDiff, Nat.reduceAdd, Nat.reduceLT, lk43, u16s, csC]
    all_goals first | exact .refl _ | exact ⟨.refl _, .refl _⟩ | exact ⟨.refl _, .refl _, .refl _⟩ | exact ⟨.refl _, _, rfl⟩ | exact ⟨_, rfl⟩ | exact ⟨.refl _, [], by simp⟩ | exact ⟨[], by simp⟩
  rintro b hb1
  simp (maxSteps := 2000000) only [go_sem, reduceIte, Nat.reduceEqDiff, Nat.reduceAdd, Nat.reduceBEq, lk43, u16s, csC, vI]
  by_cases hlt : b < c.lamp.length
  · have hlt' : (b : Int) < c.lamp.length := by omega
    have m1 : c.lamp.length - (b + 1) < c.lamp.length - b := by omega
    have g1 := Cs.l_lt hlt
    have q1 := hc.bl b
    have hq := own_ok (m := b) (by omega)
    have w3 : wr .i64 ((b : Int) + 1) = ((b + 1 : Nat) : Int) := wr_succ hlt (by omega)
    have hp := pick47 (c.l b) by' b (by omega) (by omega) (by omega) hb (by omega)
    have e1 : intsC (trueL c by' (b + 1)) = intsC (trueL c by' b) ++ [.d (.int .i64 (pickV (c.l b) by' b))] := by rw [trueL_succ, intsC_app]; rfl
    simp (maxSteps := 2000000) only [go_sem, reduceIte, Nat.reduceEqDiff, Nat.reduceAdd, Nat.reduceBEq, lk43, hlt', g1, rgD, nn]
    refine dops_pure' (hp) rfl rfl (by first | exact wk_refls _ | (repeat constructor)) (by kernel_rfl) ?_
    simp (maxSteps := 2000000) only [go_sem, reduceIte, Nat.reduceEqDiff, Nat.reduceAdd, Nat.reduceLT, Nat.reduceLeDiff, Nat.reduceBEq, Nat.reduceMul, lk43, trueL_len, w3]
    refine ⟨by simpa using hq, b + 1, hlt, m1, ?_⟩
    refine ent_weaken [] (by simp only [vI, e1]; rfl) rfl (Nat.zero_le _) (by simp [AB.low, vI, intsC_low, csC, C.lowL, C.low]) rfl ?_
    simp (maxSteps := 2000000) only [go_sem, reduceIte, Nat.reduceEqDiff, Nat.reduceAdd, Nat.reduceLT, lk43, u16s, csC, vI]
    all_goals first | exact .refl _ | exact ⟨.refl _, .refl _⟩ | exact ⟨.refl _, .refl _, .refl _⟩ | exact ⟨.refl _, _, rfl⟩ | exact ⟨_, rfl⟩ | exact ⟨.refl _, [], by simp⟩ | exact ⟨[], by simp⟩
  have hlt' : ¬ (b : Int) < c.lamp.length := by omega
  have e : b = c.lamp.length := by omega
  subst e
  simp (maxSteps := 2000000) only [go_sem, reduceIte, Nat.reduceEqDiff, Nat.reduceAdd, lk43, hlt']
  refine goE_loop (bad := []) (kp := kp43) (fun i : Nat => { slots := [(1, u16s by'), (2, .c (.ptr 0 0)), (4, .c (.ptr 1 0)), (5, .c (.ptr 2 0)), (6, I ((c.lamp.length + i * c.lamp.length : Nat) : Int)), (8, I i)], heap := tH c by' i, marks := [] }) (fun i => i ≤ 3) (fun i => 3 - i) 0 mo (by kernel_rfl) ?_ (Nat.zero_le _) ?_
  · refine ent_weaken [] rfl rfl (Nat.zero_le _) (by simp [tH, AB.low, vI, intsC_low, csC, C.lowL, C.low]) rfl ?_
    simp (maxSteps := 2000000) only [go_sem, reduceIte, Nat.reduceEqDiff, Nat.reduceAdd, Nat.reduceLT, lk43, u16s, csC, tH, vI, Nat.zero_mul, Nat.add_zero]
    all_goals first | exact .refl _ | exact ⟨.refl _, .refl _⟩ | exact ⟨.refl _, .refl _, .refl _⟩ | exact ⟨.refl _, _, rfl⟩ | exact ⟨_, rfl⟩ | exact ⟨.refl _, [], by simp⟩ | exact ⟨[], by simp⟩
  rintro i hi
  have hc4 : i = 0 ∨ i = 1 ∨ i = 2 ∨ i = 3 := by omega
  rcases hc4 with rfl | rfl | rfl | rfl
  · obtain ⟨row, hr, hrl⟩ := hc.row (show 0 < 3 by decide)
    have hrl' : (row.length : Int) = c.lamp.length := by omega
    have m2 : 3 - (0 + 1) < 3 - 0 := by decide
    have w4 : wr .i64 ((0 : Int) + 1) = 1 := by decide
    simp (maxSteps := 2000000) only [go_sem, reduceIte, Nat.reduceEqDiff, Nat.reduceAdd, Nat.reduceLeDiff, Nat.reduceBEq, Nat.reduceSub, Int.reduceLT, lk43, u16s, csC, tH, vI, y0, y1, y2, y3, he3', hr]
    refine goE_loop (bad := []) (kp := kp43) (fun b : Nat => { slots := [(1, u16s by'), (2, .c (.ptr 0 0)), (4, .c (.ptr 1 0)), (5, .c (.ptr 2 0)), (6, I ((c.lamp.length + 0 * c.lamp.length + b : Nat) : Int)), (8, I 0), (9, .c (.vs 5 b)), (10, I b)], heap := [.cells (csC c), .cells [.full [], .full []], .cells [.vs 4 0, .vs 3 c.lamp.length], vI c.lamp.length (trueL c by' c.lamp.length), .vec 0 1 [], vI b (trueN c by' 0 b)], marks := [] }) (fun b => b ≤ c.lamp.length) (fun b => c.lamp.length - b) 0 mo (by kernel_rfl) ?_ (Nat.zero_le _) ?_
    · refine Ent.trans (ent_vec 9 1 rfl) ?_
      refine ent_weaken [] (by simp only [vI]; rfl) rfl (Nat.zero_le _) (by simp [AB.low, vI, intsC_low, csC, C.lowL, C.low]) rfl ?_
      simp (maxSteps := 2000000) only [go_sem, reduceIte, Nat.reduceEqDiff, Nat.reduceAdd, Nat.reduceLT, lk43, u16s, csC, vI, Nat.add_zero, y0, y1, y2, y3]
      all_goals first | exact .refl _ | exact ⟨.refl _, .refl _⟩ | exact ⟨.refl _, .refl _, .refl _⟩ | exact ⟨.refl _, _, rfl⟩ | exact ⟨_, rfl⟩ | exact ⟨.refl _, [], by simp⟩ | exact ⟨[], by simp⟩
    rintro b hb2
    simp (maxSteps := 2000000) only [go_sem, reduceIte, Nat.reduceEqDiff, Nat.reduceAdd, Nat.reduceLeDiff, Nat.reduceBEq, Int.reduceLE, Int.reduceToNat, lk43, u16s, csC, vI]
    by_cases hltb : b < c.lamp.length
    · have hltb' : (b : Int) < c.lamp.length := by omega
      have m3 : c.lamp.length - (b + 1) < c.lamp.length - b := by omega
      have g2 := Cs.e_at hr (b := b) (by omega)
      have q1 := hc.be 0 b
      have hq := own_ok (m := b) (by omega)
      have w5 : wr .i64 ((b : Int) + 1) = ((b + 1 : Nat) : Int) := wr_succ hltb (by omega)
      have w6 := at_succ h8 (show 0 < 3 by decide) hltb
      have hp := pick47 (c.e 0 b) by' (c.lamp.length + 0 * c.lamp.length + b) q1.2.1 (by omega) (by omega) hb (at_le h8 (by decide) hltb)
      have e1 : intsC (trueN c by' 0 (b + 1)) = intsC (trueN c by' 0 b) ++ [.d (.int .i64 (trueR c by' 0 b))] := by rw [trueN_succ, intsC_app]; rfl
      unfold trueR at e1
      simp (maxSteps := 2000000) only [go_sem, reduceIte, Nat.reduceEqDiff, Nat.reduceAdd, Nat.reduceLeDiff, Nat.reduceBEq, Int.reduceLT, Int.reduceLE, Int.reduceToNat, lk43, hr, rowR, rgD, nn, he3', hrl', hltb', g2]
      refine aops_pure' (hp) rfl rfl (by first | exact wk_refls _ | (repeat constructor)) ?_
      simp (maxSteps := 2000000) only [go_sem, reduceIte, Nat.reduceEqDiff, Nat.reduceLT, Nat.reduceLeDiff, Nat.reduceBEq, Nat.reduceMul, lk43, trueN_len, w5, w6]
      refine ⟨by simpa using hq, b + 1, hltb, m3, ?_⟩
      refine ent_weaken [] (by simp only [vI, e1]; rfl) rfl (Nat.zero_le _) (by simp [AB.low, vI, intsC_low, csC, C.lowL, C.low]) rfl ?_
      simp (maxSteps := 2000000) only [go_sem, reduceIte, Nat.reduceEqDiff, Nat.reduceAdd, Nat.reduceLT, lk43, u16s, csC, vI]
      all_goals first | exact .refl _ | exact ⟨.refl _, .refl _⟩ | exact ⟨.refl _, .refl _, .refl _⟩ | exact ⟨.refl _, _, rfl⟩ | exact ⟨_, rfl⟩ | exact ⟨.refl _, [], by simp⟩ | exact ⟨[], by simp⟩
    · have hltb' : ¬ (b : Int) < c.lamp.length := by omega
      have e : b = c.lamp.length := by omega
      subst e
      simp (maxSteps := 2000000) only [go_sem, reduceIte, Nat.reduceEqDiff, Nat.reduceAdd, Nat.reduceLT, Nat.reduceLeDiff, Nat.reduceBEq, Nat.reduceMul, Nat.reduceDiv, Int.reduceLT, lk43, hr, rowR, nn, he3', hrl', hltb', w4]
      refine ⟨1, by decide, m2, ?_⟩
      refine ent_weaken [] rfl rfl (Nat.zero_le _) (by simp [tH, AB.low, vI, intsC_low, csC, C.lowL, C.low]) rfl ?_
      simp (maxSteps := 2000000) only [go_sem, reduceIte, Nat.reduceEqDiff, Nat.reduceAdd, Nat.reduceLT, lk43, u16s, csC, vI, tH, Nat.succ_mul, y0, y1, y2, y3]
      first | done | exact .refl _ | (rw [Nat.add_assoc]; exact .refl _)
  · obtain ⟨row, hr, hrl⟩ := hc.row (show 1 < 3 by decide)
    have hrl' : (row.length : Int) = c.lamp.length := by omega
    have m2 : 3 - (1 + 1) < 3 - 1 := by decide
    have w4 : wr .i64 ((1 : Int) + 1) = 2 := by decide
    simp (maxSteps := 2000000) only [go_sem, reduceIte, Nat.reduceEqDiff, Nat.reduceAdd, Nat.reduceLeDiff, Nat.reduceBEq, Nat.reduceSub, Int.reduceLT, lk43, u16s, csC, tH, vI, y0, y1, y2, y3, he3', hr]
    refine goE_loop (bad := []) (kp := kp43) (fun b : Nat => { slots := [(1, u16s by'), (2, .c (.ptr 0 0)), (4, .c (.ptr 1 0)), (5, .c (.ptr 2 0)), (6, I ((c.lamp.length + 1 * c.lamp.length + b : Nat) : Int)), (8, I 1), (9, .c (.vs 6 b)), (10, I b)], heap := [.cells (csC c), .cells [.full [], .full []], .cells [.vs 4 1, .vs 3 c.lamp.length], vI c.lamp.length (trueL c by' c.lamp.length), .vec 1 1 [.vs 5 c.lamp.length], vI c.lamp.length (trueN c by' 0 c.lamp.length), vI b (trueN c by' 1 b)], marks := [] }) (fun b => b ≤ c.lamp.length) (fun b => c.lamp.length - b) 0 mo (by kernel_rfl) ?_ (Nat.zero_le _) ?_
    · refine Ent.trans (ent_vec 9 1 rfl) ?_
      refine ent_weaken [] (by simp only [vI]; rfl) rfl (Nat.zero_le _) (by simp [AB.low, vI, intsC_low, csC, C.lowL, C.low]) rfl ?_
      simp (maxSteps := 2000000) only [go_sem, reduceIte, Nat.reduceEqDiff, Nat.reduceAdd, Nat.reduceLT, lk43, u16s, csC, vI, Nat.add_zero, y0, y1, y2, y3]
      all_goals first | exact .refl _ | exact ⟨.refl _, .refl _⟩ | exact ⟨.refl _, .refl _, .refl _⟩ | exact ⟨.refl _, _, rfl⟩ | exact ⟨_, rfl⟩ | exact ⟨.refl _, [], by simp⟩ | exact ⟨[], by simp⟩
    rintro b hb2
    simp (maxSteps := 2000000) only [go_sem, reduceIte, Nat.reduceEqDiff, Nat.reduceAdd, Nat.reduceLeDiff, Nat.reduceBEq, Int.reduceLE, Int.reduceToNat, lk43, u16s, csC, vI]
    by_cases hltb : b < c.lamp.length
    · have hltb' : (b : Int) < c.lamp.length := by omega
      have m3 : c.lamp.length - (b + 1) < c.lamp.length - b := by omega
      have g2 := Cs.e_at hr (b := b) (by omega)
      have q1 := hc.be 1 b
      have hq := own_ok (m := b) (by omega)
      have w5 : wr .i64 ((b : Int) + 1) = ((b + 1 : Nat) : Int) := wr_succ hltb (by omega)
      have w6 := at_succ h8 (show 1 < 3 by decide) hltb
      have hp := pick47 (c.e 1 b) by' (c.lamp.length + 1 * c.lamp.length + b) q1.2.1 (by omega) (by omega) hb (at_le h8 (by decide) hltb)
      have e1 : intsC (trueN c by' 1 (b + 1)) = intsC (trueN c by' 1 b) ++ [.d (.int .i64 (trueR c by' 1 b))] := by rw [trueN_succ, intsC_app]; rfl
      unfold trueR at e1
      simp (maxSteps := 2000000) only [go_sem, reduceIte, Nat.reduceEqDiff, Nat.reduceAdd, Nat.reduceLeDiff, Nat.reduceBEq, Int.reduceLT, Int.reduceLE, Int.reduceToNat, lk43, hr, rowR, rgD, nn, he3', hrl', hltb', g2]
      refine aops_pure' (hp) rfl rfl (by first | exact wk_refls _ | (repeat constructor)) ?_
      simp (maxSteps := 2000000) only [go_sem, reduceIte, Nat.reduceEqDiff, Nat.reduceLT, Nat.reduceLeDiff, Nat.reduceBEq, Nat.reduceMul, lk43, trueN_len, w5, w6]
      refine ⟨by simpa using hq, b + 1, hltb, m3, ?_⟩
      refine ent_weaken [] (by simp only [vI, e1]; rfl) rfl (Nat.zero_le _) (by simp [AB.low, vI, intsC_low, csC, C.lowL, C.low]) rfl ?_
      simp (maxSteps := 2000000) only [go_sem, reduceIte, Nat.reduceEqDiff, Nat.reduceAdd, Nat.reduceLT, lk43, u16s, csC, vI]
      all_goals first | exact .refl _ | exact ⟨.refl _, .refl _⟩ | exact ⟨.refl _, .refl _, .refl _⟩ | exact ⟨.refl _, _, rfl⟩ | exact ⟨_, rfl⟩ | exact ⟨.refl _, [], by simp⟩ | exact ⟨[], by simp⟩
    · have hltb' : ¬ (b : Int) < c.lamp.length := by omega
      have e : b = c.lamp.length := by omega
      subst e
      simp (maxSteps := 2000000) only [go_sem, reduceIte, Nat.reduceEqDiff, Nat.reduceAdd, Nat.reduceLT, Nat.reduceLeDiff, Nat.reduceBEq, Nat.reduceMul, Nat.reduceDiv, Int.reduceLT, lk43, hr, rowR, nn, he3', hrl', hltb', w4]
      refine ⟨2, by decide, m2, ?_⟩
      refine ent_weaken [] rfl rfl (Nat.zero_le _) (by simp [tH, AB.low, vI, intsC_low, csC, C.lowL, C.low]) rfl ?_
      simp (maxSteps := 2000000) only [go_sem, reduceIte, Nat.reduceEqDiff, Nat.reduceAdd, Nat.reduceLT, lk43, u16s, csC, vI, tH, Nat.succ_mul, y0, y1, y2, y3]
      first | done | exact .refl _ | (rw [Nat.add_assoc]; exact .refl _)
  · obtain ⟨row, hr, hrl⟩ := hc.row (show 2 < 3 by decide)
    have hrl' : (row.length : Int) = c.lamp.length := by omega
    have m2 : 3 - (2 + 1) < 3 - 2 := by decide
    have w4 : wr .i64 ((2 : Int) + 1) = 3 := by decide
    simp (maxSteps := 2000000) only [go_sem, reduceIte, Nat.reduceEqDiff, Nat.reduceAdd, Nat.reduceLeDiff, Nat.reduceBEq, Nat.reduceSub, Int.reduceLT, lk43, u16s, csC, tH, vI, y0, y1, y2, y3, he3', hr]
    refine goE_loop (bad := []) (kp := kp43) (fun b : Nat => { slots := [(1, u16s by'), (2, .c (.ptr 0 0)), (4, .c (.ptr 1 0)), (5, .c (.ptr 2 0)), (6, I ((c.lamp.length + 2 * c.lamp.length + b : Nat) : Int)), (8, I 2), (9, .c (.vs 7 b)), (10, I b)], heap := [.cells (csC c), .cells [.full [], .full []], .cells [.vs 4 2, .vs 3 c.lamp.length], vI c.lamp.length (trueL c by' c.lamp.length), .vec 2 1 [.vs 5 c.lamp.length, .vs 6 c.lamp.length], vI c.lamp.length (trueN c by' 0 c.lamp.length), vI c.lamp.length (trueN c by' 1 c.lamp.length), vI b (trueN c by' 2 b)], marks := [] }) (fun b => b ≤ c.lamp.length) (fun b => c.lamp.length - b) 0 mo (by kernel_rfl) ?_ (Nat.zero_le _) ?_
    · refine Ent.trans (ent_vec 9 1 rfl) ?_
      refine ent_weaken [] (by simp only [vI]; rfl) rfl (Nat.zero_le _) (by simp [AB.low, vI, intsC_low, csC, C.lowL, C.low]) rfl ?_
      simp (maxSteps := 2000000) only [go_sem, reduceIte, Nat.reduceEqDiff, Nat.reduceAdd, Nat.reduceLT, lk43, u16s, csC, vI, Nat.add_zero, y0, y1, y2, y3]
      all_goals first | exact .refl _ | exact ⟨.refl _, .refl _⟩ | exact ⟨.refl _, .refl _, .refl _⟩ | exact ⟨.refl _, _, rfl⟩ | exact ⟨_, rfl⟩ | exact ⟨.refl _, [], by simp⟩ | exact ⟨[], by simp⟩
    rintro b hb2
    simp (maxSteps := 2000000) only [go_sem, reduceIte, Nat.reduceEqDiff, Nat.reduceAdd, Nat.reduceLeDiff, Nat.reduceBEq, Int.reduceLE, Int.reduceToNat, lk43, u16s, csC, vI]
    by_cases hltb : b < c.lamp.length
    · have hltb' : (b : Int) < c.lamp.length := by omega
      have m3 : c.lamp.length - (b + 1) < c.lamp.length - b := by omega
      have g2 := Cs.e_at hr (b := b) (by omega)
      have q1 := hc.be 2 b
      have hq := own_ok (m := b) (by omega)
      have w5 : wr .i64 ((b : Int) + 1) = ((b + 1 : Nat) : Int) := wr_succ hltb (by omega)
      have w6 := at_succ h8 (show 2 < 3 by decide) hltb
      have hp := pick47 (c.e 2 b) by' (c.lamp.length + 2 * c.lamp.length + b) q1.2.1 (by omega) (by omega) hb (at_le h8 (by decide) hltb)
      have e1 : intsC (trueN c by' 2 (b + 1)) = intsC (trueN c by' 2 b) ++ [.d (.int .i64 (trueR c by' 2 b))] := by rw [trueN_succ, intsC_app]; rfl
      unfold trueR at e1
      simp (maxSteps := 2000000) only [go_sem, reduceIte, Nat.reduceEqDiff, Nat.reduceAdd, Nat.reduceLeDiff, Nat.reduceBEq, Int.reduceLT, Int.reduceLE, Int.reduceToNat, lk43, hr, rowR, rgD, nn, he3', hrl', hltb', g2]
      refine aops_pure' (hp) rfl rfl (by first | exact wk_refls _ | (repeat constructor)) ?_
      simp (maxSteps := 2000000) only [go_sem, reduceIte, Nat.reduceEqDiff, Nat.reduceLT, Nat.reduceLeDiff, Nat.reduceBEq, Nat.reduceMul, lk43, trueN_len, w5, w6]
      refine ⟨by simpa using hq, b + 1, hltb, m3, ?_⟩
      refine ent_weaken [] (by simp only [vI, e1]; rfl) rfl (Nat.zero_le _) (by simp [AB.low, vI, intsC_low, csC, C.lowL, C.low]) rfl ?_
      simp (maxSteps := 2000000) only [go_sem, reduceIte, Nat.reduceEqDiff, Nat.reduceAdd, Nat.reduceLT, lk43, u16s, csC, vI]
      all_goals first | exact .refl _ | exact ⟨.refl _, .refl _⟩ | exact ⟨.refl _, .refl _, .refl _⟩ | exact ⟨.refl _, _, rfl⟩ | exact ⟨_, rfl⟩ | exact ⟨.refl _, [], by simp⟩ | exact ⟨[], by simp⟩
    · have hltb' : ¬ (b : Int) < c.lamp.length := by omega
      have e : b = c.lamp.length := by omega
      subst e
      simp (maxSteps := 2000000) only [go_sem, reduceIte, Nat.reduceEqDiff, Nat.reduceAdd, Nat.reduceLT, Nat.reduceLeDiff, Nat.reduceBEq, Nat.reduceMul, Nat.reduceDiv, Int.reduceLT, lk43, hr, rowR, nn, he3', hrl', hltb', w4]
      refine ⟨3, by decide, m2, ?_⟩
      refine ent_weaken [] rfl rfl (Nat.zero_le _) (by simp [tH, AB.low, vI, intsC_low, csC, C.lowL, C.low]) rfl ?_
      simp (maxSteps := 2000000) only [go_sem, reduceIte, Nat.reduceEqDiff, Nat.reduceAdd, Nat.reduceLT, lk43, u16s, csC, vI, tH, Nat.succ_mul, y0, y1, y2, y3]
      first | done | exact .refl _ | (rw [Nat.add_assoc]; exact .refl _)
  · simp (maxSteps := 2000000) only [go_sem, reduceIte, Nat.reduceEqDiff, Nat.reduceAdd, Nat.reduceLeDiff, Nat.reduceBEq, Nat.reduceSub, Int.reduceLT, lk43, u16s, csC, tH, vI, y0, y1, y2, y3, he3']
    exact ⟨rfl, rfl⟩
end Go.Proofs.Ytjkpfojkkfopmaa
