/- Dyes: the statement More. -/
import Derived.Test.YtkbnmanfoejoiaaDL5
import Derived.Test.YtkbnmanfoejoiaaD23
set_option linter.unusedSimpArgs false
set_option linter.unusedVariables false
set_option maxRecDepth 100000
namespace Go.Proofs.Ytkbnmanfoejoiaa
open Go Go.Abs Go.Proofs
def kp8 : List (Nat × List Nat) := [(0, [0, 3, 5, 6]), (1, [0, 3, 5, 6, 19]), (2, [8]), (3, [0, 3, 5, 6, 10, 11]), (4, [0, 3, 5, 6, 10, 11, 33]), (5, [8]), (6, [0, 5, 6, 10, 11, 13, 14]), (7, [0, 5, 6, 10, 11, 55]), (8, [8]), (9, [0, 5, 10, 11, 15]), (10, [0, 5, 10, 11, 15, 64]), (11, [0, 5, 10, 11, 13, 14]), (12, [0, 5, 10, 11, 82]), (13, [8]), (14, [0, 5, 10, 11]), (15, [0, 5, 10, 11, 90]), (16, [8]), (17, [10, 11, 13, 14]), (18, [8])]
theorem lk8 : lookK kp8 0 = some [0, 3, 5, 6] ∧ lookK kp8 1 = some [0, 3, 5, 6, 19] ∧ lookK kp8 2 = some [8] ∧ lookK kp8 3 = some [0, 3, 5, 6, 10, 11] ∧ lookK kp8 4 = some [0, 3, 5, 6, 10, 11, 33] ∧ lookK kp8 5 = some [8] ∧ lookK kp8 6 = some [0, 5, 6, 10, 11, 13, 14] ∧ lookK kp8 7 = some [0, 5, 6, 10, 11, 55] ∧ lookK kp8 8 = some [8] ∧ lookK kp8 9 = some [0, 5, 10, 11, 15] ∧ lookK kp8 10 = some [0, 5, 10, 11, 15, 64] ∧ lookK kp8 11 = some [0, 5, 10, 11, 13, 14] ∧ lookK kp8 12 = some [0, 5, 10, 11, 82] ∧ lookK kp8 13 = some [8] ∧ lookK kp8 14 = some [0, 5, 10, 11] ∧ lookK kp8 15 = some [0, 5, 10, 11, 90] ∧ lookK kp8 16 = some [8] ∧ lookK kp8 17 = some [10, 11, 13, 14] ∧ lookK kp8 18 = some [8] := ⟨rfl, rfl, rfl, rfl, rfl, rfl, rfl, rfl, rfl, rfl, rfl, rfl, rfl, rfl, rfl, rfl, rfl, rfl, rfl⟩

theorem ch_nn {l : List Dy} {w : Wn} (h : okWn l w = 0) : chE l w = 0 ∨ chE l w = 13 := by
  rcases chE_val h with ⟨_, e, _⟩ | ⟨_, e, _⟩
  · exact .inl e
  · exact .inr e
theorem dys_app (l : List Dy) (d : Dy) : l.map dyD ++ [[.int .i64 d.a, .int .i64 d.b, .int .i64 d.p, .int .i64 d.f]] = (l ++ [d]).map dyD := by simp [dyD]
set_option maxHeartbeats 4000000 in
theorem moreLaw (l : List Dy) (w : Wn) (d : Dy) (b : Int) (hb0 : 0 ≤ b) (hb : b < 256) : Pure Try.prog 8 [dys l, wnV w, dyV d, .c (.d (.int .u8 b))] (B true) := by
  refine pure_wkE (bad := [9]) (kp := kp8) (X := tx) (nt := 117) (rs := [.tmp 8]) Try.func8 rfl rfl rfl rfl mo (by kernel_rfl) rfl rfl (fun hf => ?_)
  have hfit := fit_dys (hf (dys l) (by simp))
  have h1 := fine32 l w
  have hw := works13
  have m1 := cheapest21 l w
  by_cases h0 : okWn l w = 0
  case neg =>
    rw [decide_eq_false h0] at h1
    unfold wnV wnC at h1
    simp (maxSteps := 2000000) only [go_sem, reduceIte, Nat.reduceEqDiff, Nat.reduceAdd, Nat.reduceBEq, lk8, wnV, wnC, dyV, dyC]
    refine aops_pure' (h1) rfl rfl (by first | exact wk_refls _ | (repeat constructor)) ?_
    simp (maxSteps := 2000000) only [go_sem, reduceIte, Nat.reduceEqDiff, Nat.reduceAdd, Nat.reduceBEq, lk8]
    refine aops_pure' (hw) rfl rfl (by first | exact wk_refls _ | (repeat constructor)) ?_
    simp (maxSteps := 2000000) only [go_sem, reduceIte, Nat.reduceEqDiff, lk8]
  obtain ⟨hl, hv⟩ := (okWn_iff l w).1 h0
  rw [decide_eq_true h0] at h1
  have hv2 : OkW (widenW w (b % 21)) := widen_ok hv (by omega)
  have h02 : okWn l (widenW w (b % 21)) = 0 := (okWn_iff _ _).2 ⟨hl, hv2⟩
  have m2 := cheapest21 l (widenW w (b % 21))
  have wd := widened34 w (b % 21) hv (by omega) (by omega)
  have hle2 := cost_wide hl hv (show (0 : Int) ≤ b % 21 by omega)
  have t1 := tmod_u8 hb0
  have wb : wr .i64 b = b := wr_in (by omega)
  have wb2 : wr .i64 (b % 21) = b % 21 := wr_in (by omega)
  have f32x := fine32 (l ++ [d]) w
  have m3 := cheapest21 (l ++ [d]) w
  have hf8 := hv.f8
  have hf1 := hv.f1
  have wf : wr .i64 (w.f + 1) = w.f + 1 := wr_in (by omega)
  have f32y := fine32 l ⟨w.x, w.y, w.f + 1⟩
  have m4 := cheapest21 l ⟨w.x, w.y, w.f + 1⟩
  have happ := dys_app l d
  simp (maxSteps := 2000000) only [go_sem, lk8, dys, happ] at h1 m1 m2 f32x m3 f32y m4
  simp (maxSteps := 2000000) only [go_sem, lk8, wnV, wnC, dyV, dyC] at h1 m1 m2 wd f32x m3 f32y m4
  have h8 := hl.n8
  have hc9 : (decide ((l.length + l.length / 4 + 256) * 32 ≤ 281474976710656) && decide (l.length ≤ 140737488355328)) = true := by simp; omega
  have hc10 : (decide ((l.length + 1 + (l.length + 1) / 4 + 256) * 32 ≤ 281474976710656) && decide (l.length ≤ 140737488355327)) = true := by simp; omega
  have hap1 : (l.all fun x => (dyD x).length == 4) = true := List.all_eq_true.2 fun _ _ => rfl
  rcases chE_val h0 with ⟨c1, e1, e2, e3⟩ | ⟨c1, e1, e2, e3⟩
  · rw [e1, e2] at m1
    obtain ⟨c2, k1, k2, k3⟩ : costB l (widenW w (b % 21)) ≠ MX ∧ chE l (widenW w (b % 21)) = 0 ∧ chC l (widenW w (b % 21)) = costB l (widenW w (b % 21)) ∧ chR l (widenW w (b % 21)) = bestR l (widenW w (b % 21)) := by
      rcases chE_val h02 with h | h
      · exact h
      · have := costB_bd hl w
        have := h.1
        omega
    rw [k1, k2] at m2
    have hgt : ¬ costB l w < costB l (widenW w (b % 21)) := by omega
    simp (maxSteps := 2000000) only [go_sem, reduceIte, Nat.reduceEqDiff, Nat.reduceAdd, Nat.reduceBEq, lk8, wnV, wnC, dyV, dyC, dys]
    refine aops_pure' (h1) rfl rfl (by first | exact wk_refls _ | (repeat constructor)) ?_
    simp (maxSteps := 2000000) only [go_sem, reduceIte, Nat.reduceEqDiff, Nat.reduceAdd, Nat.reduceBEq, lk8]
    refine aops_pure' (m1) rfl rfl (by first | exact wk_refls _ | (repeat constructor)) ?_
    simp (maxSteps := 2000000) only [go_sem, reduceIte, Nat.reduceEqDiff, Nat.reduceAdd, Nat.reduceBEq, Int.reduceEq, lk8, wb, t1, wb2]
    refine aops_pure' (wd) rfl rfl (by first | exact wk_refls _ | (repeat constructor)) ?_
    simp (maxSteps := 2000000) only [go_sem, reduceIte, Nat.reduceEqDiff, lk8]
    refine aops_pure' (m2) rfl rfl (by first | exact wk_refls _ | (repeat constructor)) ?_
    simp (maxSteps := 2000000) only [go_sem, reduceIte, Nat.reduceEqDiff, Nat.reduceAdd, Nat.reduceLT, Nat.reduceLeDiff, Nat.reduceBEq, Nat.reduceMul, lk8, hgt, hap1, hc9]
    refine ⟨hc10, pairsOk_ord (by kernel_rfl), ?_⟩
    simp (maxSteps := 2000000) only [go_sem, lk8, happ]
    by_cases h0x : okWn (l ++ [d]) w = 0
    · have hlx := ((okWn_iff _ _).1 h0x).1
      have hle3 := cost_more hl hv hlx
      rw [decide_eq_true h0x] at f32x
      obtain ⟨x1, x2, x3⟩ : costB (l ++ [d]) w ≠ MX ∧ chE (l ++ [d]) w = 0 ∧ chC (l ++ [d]) w = costB (l ++ [d]) w := by
        rcases chE_val h0x with h | h
        · exact ⟨h.1, h.2.1, h.2.2.1⟩
        · have := costB_bd hl w
          have := h.1
          omega
      have hgt3 : ¬ costB l w < costB (l ++ [d]) w := by omega
      refine aops_pure' (f32x) rfl rfl (by first | exact wk_refls _ | (repeat constructor)) ?_
      simp (maxSteps := 2000000) only [go_sem, reduceIte, Nat.reduceEqDiff, Nat.reduceAdd, Nat.reduceBEq, lk8]
      refine aops_pure' (m3) rfl rfl (by first | exact wk_refls _ | (repeat constructor)) ?_
      simp (maxSteps := 2000000) only [go_sem, reduceIte, Nat.reduceEqDiff, Nat.reduceAdd, Nat.reduceBEq, lk8, x2, x3, hgt3, wf]
      by_cases h0y : okWn l ⟨w.x, w.y, w.f + 1⟩ = 0
      case neg =>
        rw [decide_eq_false h0y] at f32y
        refine aops_pure' (f32y) rfl rfl (by first | exact wk_refls _ | (repeat constructor)) ?_
        simp (maxSteps := 2000000) only [go_sem, reduceIte, Nat.reduceEqDiff, Nat.reduceAdd, Nat.reduceBEq, lk8]
        refine aops_pure' (hw) rfl rfl (by first | exact wk_refls _ | (repeat constructor)) ?_
        simp (maxSteps := 2000000) only [go_sem, reduceIte, Nat.reduceEqDiff, lk8]
      rw [decide_eq_true h0y] at f32y
      have hle4 : costB l w ≤ costB l ⟨w.x, w.y, w.f + 1⟩ := cost_fast hl hv hv.f1 (by omega) ((okWn_iff _ _).1 h0y).2.f8
      rcases chE_val h0y with ⟨y0, y1, y2, y3⟩ | ⟨y0, y1, y2, y3⟩
      · refine aops_pure' (f32y) rfl rfl (by first | exact wk_refls _ | (repeat constructor)) ?_
        simp (maxSteps := 2000000) only [go_sem, reduceIte, Nat.reduceEqDiff, Nat.reduceAdd, Nat.reduceBEq, lk8]
        refine aops_pure' (m4) rfl rfl (by first | exact wk_refls _ | (repeat constructor)) ?_
        simp (maxSteps := 2000000) only [go_sem, reduceIte, Nat.reduceEqDiff, lk8, y1, y2, hle4]
        refine aops_pure' (hw) rfl rfl (by first | exact wk_refls _ | (repeat constructor)) ?_
        simp (maxSteps := 2000000) only [go_sem, reduceIte, Nat.reduceEqDiff, lk8]
      · refine aops_pure' (f32y) rfl rfl (by first | exact wk_refls _ | (repeat constructor)) ?_
        simp (maxSteps := 2000000) only [go_sem, reduceIte, Nat.reduceEqDiff, Nat.reduceAdd, Nat.reduceBEq, lk8]
        refine aops_pure' (m4) rfl rfl (by first | exact wk_refls _ | (repeat constructor)) ?_
        simp (maxSteps := 2000000) only [go_sem, reduceIte, Nat.reduceEqDiff, Int.reduceEq, lk8, y1, y2]
        refine aops_pure' (hw) rfl rfl (by first | exact wk_refls _ | (repeat constructor)) ?_
        simp (maxSteps := 2000000) only [go_sem, reduceIte, Nat.reduceEqDiff, lk8]
    · rw [decide_eq_false h0x] at f32x
      refine aops_pure' (f32x) rfl rfl (by first | exact wk_refls _ | (repeat constructor)) ?_
      simp (maxSteps := 2000000) only [go_sem, reduceIte, Nat.reduceEqDiff, Nat.reduceAdd, Nat.reduceBEq, lk8, wf]
      by_cases h0y : okWn l ⟨w.x, w.y, w.f + 1⟩ = 0
      case neg =>
        rw [decide_eq_false h0y] at f32y
        refine aops_pure' (f32y) rfl rfl (by first | exact wk_refls _ | (repeat constructor)) ?_
        simp (maxSteps := 2000000) only [go_sem, reduceIte, Nat.reduceEqDiff, Nat.reduceAdd, Nat.reduceBEq, lk8]
        refine aops_pure' (hw) rfl rfl (by first | exact wk_refls _ | (repeat constructor)) ?_
        simp (maxSteps := 2000000) only [go_sem, reduceIte, Nat.reduceEqDiff, lk8]
      rw [decide_eq_true h0y] at f32y
      have hle4 : costB l w ≤ costB l ⟨w.x, w.y, w.f + 1⟩ := cost_fast hl hv hv.f1 (by omega) ((okWn_iff _ _).1 h0y).2.f8
      rcases chE_val h0y with ⟨y0, y1, y2, y3⟩ | ⟨y0, y1, y2, y3⟩
      · refine aops_pure' (f32y) rfl rfl (by first | exact wk_refls _ | (repeat constructor)) ?_
        simp (maxSteps := 2000000) only [go_sem, reduceIte, Nat.reduceEqDiff, Nat.reduceAdd, Nat.reduceBEq, lk8]
        refine aops_pure' (m4) rfl rfl (by first | exact wk_refls _ | (repeat constructor)) ?_
        simp (maxSteps := 2000000) only [go_sem, reduceIte, Nat.reduceEqDiff, lk8, y1, y2, hle4]
        refine aops_pure' (hw) rfl rfl (by first | exact wk_refls _ | (repeat constructor)) ?_
        simp (maxSteps := 2000000) only [go_sem, reduceIte, Nat.reduceEqDiff, lk8]
      · refine aops_pure' (f32y) rfl rfl (by first | exact wk_refls _ | (repeat constructor)) ?_
        simp (maxSteps := 2000000) only [go_sem, reduceIte, Nat.reduceEqDiff, Nat.reduceAdd, Nat.reduceBEq, lk8]
        refine aops_pure' (m4) rfl rfl (by first | exact wk_refls _ | (repeat constructor)) ?_
        simp (maxSteps := 2000000) only [go_sem, reduceIte, Nat.reduceEqDiff, Int.reduceEq, lk8, y1, y2]
        refine aops_pure' (hw) rfl rfl (by first | exact wk_refls _ | (repeat constructor)) ?_
        simp (maxSteps := 2000000) only [go_sem, reduceIte, Nat.reduceEqDiff, lk8]
  · rw [e1, e2] at m1
    simp (maxSteps := 2000000) only [go_sem, reduceIte, Nat.reduceEqDiff, Nat.reduceAdd, Nat.reduceBEq, lk8, wnV, wnC, dyV, dyC, dys]
    refine aops_pure' (h1) rfl rfl (by first | exact wk_refls _ | (repeat constructor)) ?_
    simp (maxSteps := 2000000) only [go_sem, reduceIte, Nat.reduceEqDiff, Nat.reduceAdd, Nat.reduceBEq, lk8]
    refine aops_pure' (m1) rfl rfl (by first | exact wk_refls _ | (repeat constructor)) ?_
    simp (maxSteps := 2000000) only [go_sem, reduceIte, Nat.reduceEqDiff, Nat.reduceAdd, Nat.reduceBEq, Int.reduceEq, lk8, wb, t1, wb2]
    refine aops_pure' (wd) rfl rfl (by first | exact wk_refls _ | (repeat constructor)) ?_
    simp (maxSteps := 2000000) only [go_sem, reduceIte, Nat.reduceEqDiff, lk8]
    refine aops_pure' (m2) rfl rfl (by first | exact wk_refls _ | (repeat constructor)) ?_
    simp (maxSteps := 2000000) only [go_sem, reduceIte, Nat.reduceEqDiff, Nat.reduceAdd, Nat.reduceLT, Nat.reduceLeDiff, Nat.reduceBEq, Nat.reduceMul, Int.reduceEq, lk8, hap1, hc9]
    refine ⟨hc10, pairsOk_ord (by kernel_rfl), ?_⟩
    simp (maxSteps := 2000000) only [go_sem, lk8, happ]
    by_cases h0x : okWn (l ++ [d]) w = 0
    · have hlx := ((okWn_iff _ _).1 h0x).1
      have hle3 := cost_more hl hv hlx
      rw [decide_eq_true h0x] at f32x
      refine aops_pure' (f32x) rfl rfl (by first | exact wk_refls _ | (repeat constructor)) ?_
      simp (maxSteps := 2000000) only [go_sem, reduceIte, Nat.reduceEqDiff, Nat.reduceAdd, Nat.reduceBEq, lk8]
      refine aops_pure' (m3) rfl rfl (by first | exact wk_refls _ | (repeat constructor)) ?_
      simp (maxSteps := 2000000) only [go_sem, reduceIte, Nat.reduceEqDiff, Nat.reduceAdd, Nat.reduceBEq, Int.reduceEq, lk8, wf]
      by_cases h0y : okWn l ⟨w.x, w.y, w.f + 1⟩ = 0
      case neg =>
        rw [decide_eq_false h0y] at f32y
        refine aops_pure' (f32y) rfl rfl (by first | exact wk_refls _ | (repeat constructor)) ?_
        simp (maxSteps := 2000000) only [go_sem, reduceIte, Nat.reduceEqDiff, Nat.reduceAdd, Nat.reduceBEq, lk8]
        refine aops_pure' (hw) rfl rfl (by first | exact wk_refls _ | (repeat constructor)) ?_
        simp (maxSteps := 2000000) only [go_sem, reduceIte, Nat.reduceEqDiff, lk8]
      rw [decide_eq_true h0y] at f32y
      have hle4 : costB l w ≤ costB l ⟨w.x, w.y, w.f + 1⟩ := cost_fast hl hv hv.f1 (by omega) ((okWn_iff _ _).1 h0y).2.f8
      rcases chE_val h0y with ⟨y0, y1, y2, y3⟩ | ⟨y0, y1, y2, y3⟩
      · have := costB_bd hl ⟨w.x, w.y, w.f + 1⟩
        omega
      · refine aops_pure' (f32y) rfl rfl (by first | exact wk_refls _ | (repeat constructor)) ?_
        simp (maxSteps := 2000000) only [go_sem, reduceIte, Nat.reduceEqDiff, Nat.reduceAdd, Nat.reduceBEq, lk8]
        refine aops_pure' (m4) rfl rfl (by first | exact wk_refls _ | (repeat constructor)) ?_
        simp (maxSteps := 2000000) only [go_sem, reduceIte, Nat.reduceEqDiff, Int.reduceEq, lk8, y1, y2]
        refine aops_pure' (hw) rfl rfl (by first | exact wk_refls _ | (repeat constructor)) ?_
        simp (maxSteps := 2000000) only [go_sem, reduceIte, Nat.reduceEqDiff, lk8]
    · rw [decide_eq_false h0x] at f32x
      refine aops_pure' (f32x) rfl rfl (by first | exact wk_refls _ | (repeat constructor)) ?_
      simp (maxSteps := 2000000) only [go_sem, reduceIte, Nat.reduceEqDiff, Nat.reduceAdd, Nat.reduceBEq, lk8, wf]
      by_cases h0y : okWn l ⟨w.x, w.y, w.f + 1⟩ = 0
      case neg =>
        rw [decide_eq_false h0y] at f32y
        refine aops_pure' (f32y) rfl rfl (by first | exact wk_refls _ | (repeat constructor)) ?_
        simp (maxSteps := 2000000) only [go_sem, reduceIte, Nat.reduceEqDiff, Nat.reduceAdd, Nat.reduceBEq, lk8]
        refine aops_pure' (hw) rfl rfl (by first | exact wk_refls _ | (repeat constructor)) ?_
        simp (maxSteps := 2000000) only [go_sem, reduceIte, Nat.reduceEqDiff, lk8]
      rw [decide_eq_true h0y] at f32y
      have hle4 : costB l w ≤ costB l ⟨w.x, w.y, w.f + 1⟩ := cost_fast hl hv hv.f1 (by omega) ((okWn_iff _ _).1 h0y).2.f8
      rcases chE_val h0y with ⟨y0, y1, y2, y3⟩ | ⟨y0, y1, y2, y3⟩
      · have := costB_bd hl ⟨w.x, w.y, w.f + 1⟩
        omega
      · refine aops_pure' (f32y) rfl rfl (by first | exact wk_refls _ | (repeat constructor)) ?_
        simp (maxSteps := 2000000) only [go_sem, reduceIte, Nat.reduceEqDiff, Nat.reduceAdd, Nat.reduceBEq, lk8]
        refine aops_pure' (m4) rfl rfl (by first | exact wk_refls _ | (repeat constructor)) ?_
        simp (maxSteps := 2000000) only [go_sem, reduceIte, Nat.reduceEqDiff, Int.reduceEq, lk8, y1, y2]
        refine aops_pure' (hw) rfl rfl (by first | exact wk_refls _ | (repeat constructor)) ?_
        simp (maxSteps := 2000000) only [go_sem, reduceIte, Nat.reduceEqDiff, lk8]
end Go.Proofs.Ytkbnmanfoejoiaa
