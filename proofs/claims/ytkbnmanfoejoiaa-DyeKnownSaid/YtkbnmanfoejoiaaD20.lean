/- Dyes: Wider. -/
import Derived.Test.YtkbnmanfoejoiaaD19
import Derived.Test.YtkbnmanfoejoiaaD9
set_option linter.unusedSimpArgs false
set_option linter.unusedVariables false
set_option maxRecDepth 100000
namespace Go.Proofs.Ytkbnmanfoejoiaa
open Go Go.Abs Go.Proofs
def kp22 : List (Nat × List Nat) := [(0, [0, 3]), (1, [0, 3, 6]), (2, [0, 3, 6, 18]), (3, [4, 5]), (4, [3, 7]), (5, [3, 7]), (6, [3, 7, 8]), (7, [3, 7, 8, 9]), (8, [3, 7, 8, 9, 28, 29]), (9, [3, 7, 8, 9, 28, 29, 30]), (10, [3, 7, 8, 9, 10, 11, 28, 29]), (11, [3, 7, 8, 9, 28, 29]), (12, [3, 7, 8, 9, 28, 29]), (13, [3, 7, 8, 13]), (14, [3, 7, 8, 59]), (15, [3, 7, 8]), (16, [4, 5])]
theorem lk22 : lookK kp22 0 = some [0, 3] ∧ lookK kp22 1 = some [0, 3, 6] ∧ lookK kp22 2 = some [0, 3, 6, 18] ∧ lookK kp22 3 = some [4, 5] ∧ lookK kp22 4 = some [3, 7] ∧ lookK kp22 5 = some [3, 7] ∧ lookK kp22 6 = some [3, 7, 8] ∧ lookK kp22 7 = some [3, 7, 8, 9] ∧ lookK kp22 8 = some [3, 7, 8, 9, 28, 29] ∧ lookK kp22 9 = some [3, 7, 8, 9, 28, 29, 30] ∧ lookK kp22 10 = some [3, 7, 8, 9, 10, 11, 28, 29] ∧ lookK kp22 11 = some [3, 7, 8, 9, 28, 29] ∧ lookK kp22 12 = some [3, 7, 8, 9, 28, 29] ∧ lookK kp22 13 = some [3, 7, 8, 13] ∧ lookK kp22 14 = some [3, 7, 8, 59] ∧ lookK kp22 15 = some [3, 7, 8] ∧ lookK kp22 16 = some [4, 5] := ⟨rfl, rfl, rfl, rfl, rfl, rfl, rfl, rfl, rfl, rfl, rfl, rfl, rfl, rfl, rfl, rfl, rfl⟩

theorem costB_case {l : List Dy} (hl : OkL l) (w : Wn) : (costB l w < 1099511627776 ∧ costB l w ≠ MX) ∨ (¬ costB l w < 1099511627776 ∧ costB l w = MX) := by
  have := costB_bd hl w
  unfold MX at *
  omega
theorem wid_wr {w : Wn} (hv : OkW w) {k : Nat} (hk : k ≤ 20) : (wr .i64 (w.x.lo - k) = w.x.lo - k ∧ wr .i64 (w.x.hi + k) = w.x.hi + k) ∧ (wr .i64 (w.y.lo - k) = w.y.lo - k ∧ wr .i64 (w.y.hi + k) = w.y.hi + k) := by
  have h1 := hv.x0
  have h2 := hv.x1
  have h3 := hv.x2
  have h4 := hv.y0
  have h5 := hv.y1
  have h6 := hv.y2
  exact ⟨⟨wr_in (by omega), wr_in (by omega)⟩, wr_in (by omega), wr_in (by omega)⟩
def partW (w : Wn) (b : Int) (k : Nat) : Wn := if k = 0 then w else if k = 1 then ⟨(widenW w b).x, w.y, w.f⟩ else widenW w b
set_option maxHeartbeats 4000000 in
theorem wider22 (l : List Dy) (w : Wn) : Pure Try.prog 22 [dys l, wnV w] (.tup [I (wiN l w), I (okWn l w)]) := by
  refine pure_wkE (bad := []) (kp := kp22) (X := tx) (nt := 63) (rs := [.tmp 4, .tmp 5]) Try.func22 rfl rfl rfl rfl mo (by kernel_rfl) rfl rfl (fun hf => ?_)
  have hw := wanted43 l w
  unfold wnV wnC at hw
  simp (maxSteps := 2000000) only [go_sem, reduceIte, Nat.reduceEqDiff, Nat.reduceAdd, lk22, wnV, wnC]
  refine aops_pure' (hw) rfl rfl (by first | exact wk_refls _ | (repeat constructor)) ?_
  by_cases h0 : okWn l w = 0
  case neg =>
    have e3 : wiN l w = 0 := by unfold wiN; rw [if_neg h0]
    simp (maxSteps := 2000000) only [go_sem, reduceIte, Nat.reduceEqDiff, Nat.reduceAdd, lk22, h0, e3]
    all_goals first | exact .refl _ | exact ⟨.refl _, .refl _⟩ | exact ⟨.refl _, .refl _, .refl _⟩ | exact ⟨.refl _, _, rfl⟩ | exact ⟨_, rfl⟩ | exact ⟨.refl _, [], by simp⟩ | exact ⟨[], by simp⟩
  obtain ⟨hl, hv⟩ := (okWn_iff l w).1 h0
  have e3 : wiN l w = (widF l w 20 : Nat) := by unfold wiN; rw [if_pos h0]
  have hb := bench51 l [.cells (wnC w)]
  have hff := fill52b l w (fun _ => 0) 0 w.f hl
  have hlow : ∀ f q, ([.cells (wnC w), .cells (benchC l f q)] : List AB).all (AB.low 2) = true := fun f q => by simp [AB.low, bench_low, wnC, C.lowL, C.low]
  simp (maxSteps := 2000000) only [go_sem, lk22, wnV, wnC, sC, List.cons_append, List.nil_append] at hb hff
  simp (maxSteps := 2000000) only [go_sem, reduceIte, Nat.reduceEqDiff, Nat.reduceAdd, lk22, h0]
  refine aops_at (hb) rfl rfl (by first | exact wk_refls _ | (repeat constructor)) ?_
  simp (maxSteps := 2000000) only [go_sem, reduceIte, Nat.reduceEqDiff, Nat.reduceAdd, Nat.reduceBEq, lk22]
  refine aops_at (hff) rfl rfl (by first | exact wk_refls _ | (repeat constructor)) ?_
  simp (maxSteps := 2000000) only [go_sem, reduceIte, Nat.reduceEqDiff, lk22]
  refine goE_loop (bad := []) (kp := kp22) (fun k : Nat => { slots := [(3, .c (.ptr 0 0)), (7, .c (.ptr 1 0)), (8, I k)], heap := [.cells (wnC w), .cells (benchC l (fillF l w.f l.length) w.f)], marks := [] }) (fun k => k ≤ 20 ∧ widF l w (20 - k) = widF l w 20) (fun k => 21 - k) 0 mo (by kernel_rfl) ?_ ⟨Nat.zero_le _, rfl⟩ ?_
  · refine ent_weaken [] rfl rfl (Nat.zero_le _) (hlow _ _) rfl ?_
    simp (maxSteps := 2000000) only [go_sem, reduceIte, Nat.reduceEqDiff, Nat.reduceAdd, Nat.reduceLT, lk22]
    all_goals first | exact .refl _ | exact ⟨.refl _, .refl _⟩ | exact ⟨.refl _, .refl _, .refl _⟩ | exact ⟨.refl _, _, rfl⟩ | exact ⟨_, rfl⟩ | exact ⟨.refl _, [], by simp⟩ | exact ⟨[], by simp⟩
  rintro k ⟨hk, hR⟩
  have hk' : (k : Int) ≤ 20 := by omega
  have hbb := (best53 l w (widenW w k) (fillF l w.f l.length) w.f hl (widen_ok hv (by omega))).frame2 rfl (hlow _ _) rfl rfl [.cells (wnC (widenW w k))]
  rw [show bestC (widenW w k) (fillF l w.f l.length) l.length = costB l (widenW w k) from rfl] at hbb
  have hk20 : k = 20 → costB l (widenW w k) ≠ MX := fun e => by subst e; exact cost_w20 hl hv
  have hR2 := fun h : k < 20 => hR.symm.trans (widF_at (l := l) (w := w) h)
  have hcc := costB_case hl (widenW w k)
  have hkk : k < 20 ∨ k = 20 := by omega
  have hne20 : k < 20 → ¬ (k : Int) = 20 := fun h => by omega
  have m1 : 21 - (k + 1) < 21 - k := by omega
  have w7 : wr .i64 ((k : Int) + 1) = ((k + 1 : Nat) : Int) := wr_succ (n := 21) (by omega) (by decide)
  obtain ⟨⟨w1, w2⟩, w3, w4⟩ := wid_wr hv hk
  simp (maxSteps := 2000000) only [go_sem, lk22, wnV, wnC, sC, List.cons_append, List.nil_append] at hbb
  simp (maxSteps := 2000000) only [go_sem, reduceIte, Nat.reduceEqDiff, Nat.reduceAdd, Nat.reduceLeDiff, Nat.reduceBEq, lk22, wnC]
  refine goE_loop (bad := []) (kp := kp22) (fun j : Nat => { slots := [(3, .c (.ptr 0 0)), (7, .c (.ptr 1 0)), (8, I k), (9, .c (.ptr 2 0)), (28, .agg [.d (.int .i64 w.x.lo), .d (.int .i64 w.x.hi), .d (.int .i64 w.y.lo), .d (.int .i64 w.y.hi)]), (29, I j)], heap := [.cells (wnC w), .cells (benchC l (fillF l w.f l.length) w.f), .cells (wnC (partW w k j))], marks := [] }) (fun j => j ≤ 2) (fun j => 2 - j) 0 mo (by kernel_rfl) ?_ (Nat.zero_le _) ?_
  · refine ent_weaken [] rfl rfl (Nat.zero_le _) (by simp [AB.low, bench_low, wnC, C.lowL, C.low]) rfl ?_
    simp (maxSteps := 2000000) only [go_sem, reduceIte, Nat.reduceEqDiff, Nat.reduceAdd, Nat.reduceLT, lk22]
    all_goals first | exact .refl _ | exact ⟨.refl _, .refl _⟩ | exact ⟨.refl _, .refl _, .refl _⟩ | exact ⟨.refl _, _, rfl⟩ | exact ⟨_, rfl⟩ | exact ⟨.refl _, [], by simp⟩ | exact ⟨[], by simp⟩
  rintro j hj
  have hk3 : j = 0 ∨ j = 1 ∨ j = 2 := by omega
  rcases hk3 with rfl | rfl | rfl
  · have w0 : wr .i64 ((0 : Int) + 1) = 1 := by decide
    simp (maxSteps := 2000000) only [go_sem, reduceIte, Nat.reduceEqDiff, Nat.reduceAdd, Nat.reduceLeDiff, Nat.reduceBEq, Nat.reduceMul, Nat.reduceSub, Int.reduceLT, Int.reduceLE, Int.reduceToNat, lk22, wnC, w1, w2, w0, maxL1, minL1]
    refine ⟨1, by decide, by decide, ?_⟩
    refine ent_weaken [.cells (rgC w.x)] rfl rfl (Nat.zero_le _) (by simp [AB.low, bench_low, wnC, C.lowL, C.low]) rfl ?_
    simp (maxSteps := 2000000) only [go_sem, reduceIte, Nat.reduceEqDiff, Nat.reduceAdd, Nat.reduceLT, lk22, wnC]
    all_goals first | exact .refl _ | exact ⟨.refl _, .refl _⟩ | exact ⟨.refl _, .refl _, .refl _⟩ | exact ⟨.refl _, _, rfl⟩ | exact ⟨_, rfl⟩ | exact ⟨.refl _, [], by simp⟩ | exact ⟨[], by simp⟩
  · have w0 : wr .i64 ((1 : Int) + 1) = 2 := by decide
    simp (maxSteps := 2000000) only [go_sem, reduceIte, Nat.reduceEqDiff, Nat.reduceAdd, Nat.reduceLeDiff, Nat.reduceBEq, Nat.reduceMul, Nat.reduceSub, Int.reduceLT, Int.reduceLE, Int.reduceToNat, lk22, wnC, w3, w4, w0, maxL1, minL1]
    refine ⟨2, by decide, by decide, ?_⟩
    refine ent_weaken [.cells (rgC w.y)] rfl rfl (Nat.zero_le _) (by simp [AB.low, bench_low, wnC, C.lowL, C.low]) rfl ?_
    simp (maxSteps := 2000000) only [go_sem, reduceIte, Nat.reduceEqDiff, Nat.reduceAdd, Nat.reduceLT, lk22, wnC]
    all_goals first | exact .refl _ | exact ⟨.refl _, .refl _⟩ | exact ⟨.refl _, .refl _, .refl _⟩ | exact ⟨.refl _, _, rfl⟩ | exact ⟨_, rfl⟩ | exact ⟨.refl _, [], by simp⟩ | exact ⟨[], by simp⟩
  · have e2 : partW w k 2 = widenW w k := rfl
    simp (maxSteps := 2000000) only [go_sem, reduceIte, Nat.reduceEqDiff, Nat.reduceAdd, Nat.reduceSub, Int.reduceLT, lk22, wnC, e2]
    refine aops_at (hbb) rfl rfl (by first | exact wk_refls _ | (repeat constructor)) ?_
    rcases hcc with ⟨hc, hcM⟩ | ⟨hc, hcM⟩
    · have hW : widF l w 20 = k := by
        rcases hkk with e | e
        · rw [hR2 e, if_pos hcM]
        · subst e; rw [← hR]; rfl
      simp (maxSteps := 2000000) only [go_sem, reduceIte, Nat.reduceEqDiff, Nat.reduceAdd, lk22, hc, e3, hW, h0]
      all_goals first | exact .refl _ | exact ⟨.refl _, .refl _⟩ | exact ⟨.refl _, .refl _, .refl _⟩ | exact ⟨.refl _, _, rfl⟩ | exact ⟨_, rfl⟩ | exact ⟨.refl _, [], by simp⟩ | exact ⟨[], by simp⟩
    · have hlt : k < 20 := by
        rcases hkk with e | e
        · exact e
        · exact absurd hcM (hk20 e)
      have hne := hne20 hlt
      have hR3 := hR2 hlt
      rw [if_neg (fun h => h hcM)] at hR3
      simp (maxSteps := 2000000) only [go_sem, reduceIte, Nat.reduceEqDiff, Nat.reduceAdd, lk22, hc, hne, w7]
      refine ⟨k + 1, ⟨hlt, hR3.symm⟩, m1, ?_⟩
      refine ent_weaken [.cells (wnC (widenW w k)), .cells (sC (bestS (widenW w k) (fillF l w.f l.length) l.length))] rfl rfl (Nat.zero_le _) (by simp [AB.low, bench_low, wnC, C.lowL, C.low]) rfl ?_
      simp (maxSteps := 2000000) only [go_sem, reduceIte, Nat.reduceEqDiff, Nat.reduceAdd, Nat.reduceLT, lk22, wnC]
      all_goals first | exact .refl _ | exact ⟨.refl _, .refl _⟩ | exact ⟨.refl _, .refl _, .refl _⟩ | exact ⟨.refl _, _, rfl⟩ | exact ⟨_, rfl⟩ | exact ⟨.refl _, [], by simp⟩ | exact ⟨[], by simp⟩
end Go.Proofs.Ytkbnmanfoejoiaa
