/- Dyes: fill. -/
import Derived.Test.YtkbnmanfoejoiaaNC
set_option linter.unusedSimpArgs false
set_option linter.unusedVariables false
set_option maxRecDepth 100000
namespace Go.Proofs.Ytkbnmanfoejoiaa
open Go Go.Abs Go.Proofs
def kp52 : List (Nat × List Nat) := [(0, [1, 2]), (1, [2]), (2, [2]), (3, [2, 19]), (4, [2, 4]), (5, []), (6, [2]), (7, [2, 30]), (8, [2, 5]), (9, [2, 5]), (10, [2, 5, 48]), (11, [2, 5, 49]), (12, [2, 5, 6]), (13, [2, 5, 6, 7]), (14, [2, 5, 7, 8]), (15, [2, 5, 7, 8, 69]), (16, [5, 8, 9]), (17, [5, 8, 9, 10]), (18, [])]
theorem lk52 : lookK kp52 0 = some [1, 2] ∧ lookK kp52 1 = some [2] ∧ lookK kp52 2 = some [2] ∧ lookK kp52 3 = some [2, 19] ∧ lookK kp52 4 = some [2, 4] ∧ lookK kp52 5 = some [] ∧ lookK kp52 6 = some [2] ∧ lookK kp52 7 = some [2, 30] ∧ lookK kp52 8 = some [2, 5] ∧ lookK kp52 9 = some [2, 5] ∧ lookK kp52 10 = some [2, 5, 48] ∧ lookK kp52 11 = some [2, 5, 49] ∧ lookK kp52 12 = some [2, 5, 6] ∧ lookK kp52 13 = some [2, 5, 6, 7] ∧ lookK kp52 14 = some [2, 5, 7, 8] ∧ lookK kp52 15 = some [2, 5, 7, 8, 69] ∧ lookK kp52 16 = some [5, 8, 9] ∧ lookK kp52 17 = some [5, 8, 9, 10] ∧ lookK kp52 18 = some [] := ⟨rfl, rfl, rfl, rfl, rfl, rfl, rfl, rfl, rfl, rfl, rfl, rfl, rfl, rfl, rfl, rfl, rfl, rfl, rfl⟩

def slA : List (Nat × V) := [(2, .c (.ptr 2 0)), (19, .c (.fn (.func 77) []))]
def fA (k j : Nat) : Int := if j < k then MX else 0
def HA (w : Wn) (l : List Dy) (q : Int) (A Bd : Code) (st : LoopState) (k : Nat) : List AB := [.cells (wnC w), .cells (benchC l (fA k) q), .cells [.ptr 1 0], .df, .lp { state := st, pend := none, slots := slA, nt := 89, ps := #[20], assign := A, body := Bd, D := 3 }]
theorem wn_low (m : Nat) (w : Wn) : C.lowL m (wnC w) = true := rfl
theorem HA_low (w : Wn) (l : List Dy) (q : Int) (A Bd : Code) (st : LoopState) (k : Nat) : (HA w l q A Bd st k).all (AB.low 5) = true := by
  simp only [HA, List.all_cons, List.all_nil, AB.low, bench_low, wn_low, Bool.and_true, Bool.true_and]
  rfl
theorem fA_succ {k j : Nat} : upd (fA k) k MX j = fA (k + 1) j := by
  unfold upd fA
  by_cases e : j = k
  · rw [if_pos e, if_pos (by omega)]
  · rw [if_neg e]
    by_cases h : j < k
    · rw [if_pos h, if_pos (by omega)]
    · rw [if_neg h, if_neg (by omega)]
theorem fA_up (k : Nat) : upd (fA k) k 1099511627776 = fA (k + 1) := funext fun j => fA_succ
theorem fA_end : upd (fA 441) 0 0 = fill0 := funext fun j => by
  unfold upd fA fill0
  split <;> rfl
theorem bench_set0 {l : List Dy} {f : Nat → Int} {q : Int} {v : Int} : (benchC l f q).set 1 (.d (.int .i64 v)) = benchC l (upd f 0 v) q := bench_set (k := 0) (by decide)
theorem bench_rowi {l : List Dy} {f : Nat → Int} {q : Int} {i : Nat} (h : i < 9) : ((benchC l f q).drop (1 + i * 441)).take 441 = numsC 441 (fun j => f (i * 441 + j)) := bench_row (by omega)
theorem bench_copyi {l : List Dy} {f : Nat → Int} {q : Int} {i : Nat} (h : i < 8) : setMany (benchC l f q) (1 + (i + 1) * 441) (numsC 441 (fun j => f (i * 441 + j))) = benchC l (copyRow i f) q := by
  rw [← bench_rowi (l := l) (q := q) (by omega), bench_copy h]
def slB : List (Nat × V) := [(2, .c (.ptr 2 0)), (30, .c (.fn (.func 79) [.ptr 5 0, .ptr 6 0]))]
def HB (w : Wn) (l : List Dy) (q : Int) (A Bd A2 B2 : Code) (st : LoopState) (f : Nat → Int) : List AB := [.cells (wnC w), .cells (benchC l f q), .cells [.ptr 1 0], .gone, .lp { state := .exhausted, pend := none, slots := slA, nt := 89, ps := #[20], assign := A, body := Bd, D := 3 }, .cells [.ptr 1 0], .cells [.mv (.func 78) (.ptr 1 0)], .df, .lp { state := st, pend := none, slots := slB, nt := 89, ps := #[31], assign := A2, body := B2, D := 7 }]
theorem HB_low (w : Wn) (l : List Dy) (q : Int) (A Bd A2 B2 : Code) (st : LoopState) (f : Nat → Int) : (HB w l q A Bd A2 B2 st f).all (AB.low 9) = true := by
  simp only [HB, List.all_cons, List.all_nil, AB.low, bench_low, wn_low, Bool.and_true, Bool.true_and]
  rfl
theorem code_genR {l id : Nat} {X : Cx} {g : Operand} {ps : Array Tmp} {A B : Code} {Q : Exit → St → Prop} {s : St} (h : ∀ A' B', A' = A → B' = B → AWPr l id X (.rangeFunc g ps A' B') Q s) : AWPr l id X (.rangeFunc g ps A B) Q s := h A B rfl rfl
def slC : List (Nat × V) := [(2, .c (.ptr 2 0)), (5, .c (.ptr 10 0)), (49, .c (.fn (.func 77) []))]
def HC (w : Wn) (l : List Dy) (q : Int) (A Bd A2 B2 A3 B3 : Code) (d : Dy) (i : Nat) (st : LoopState) (f : Nat → Int) : List AB := HB w l q A Bd A2 B2 .busy f ++ [.cells (dyC d), .cells (goC d i true), .lp { state := st, pend := none, slots := slC, nt := 89, ps := #[50], assign := A3, body := B3, D := 7 }]
theorem HC_low (w : Wn) (l : List Dy) (q : Int) (A Bd A2 B2 A3 B3 : Code) (d : Dy) (i : Nat) (st : LoopState) (f : Nat → Int) : (HC w l q A Bd A2 B2 A3 B3 d i st f).all (AB.low 12) = true := by
  simp only [HC, HB, List.cons_append, List.nil_append, List.all_cons, List.all_nil, AB.low, bench_low, wn_low, Bool.and_true, Bool.true_and]
  rfl
theorem HBd_low (w : Wn) (l : List Dy) (q : Int) (A Bd A2 B2 : Code) (d : Dy) (st : LoopState) (f : Nat → Int) : (HB w l q A Bd A2 B2 st f ++ [AB.cells (dyC d)]).all (AB.low 10) = true := by
  simp only [HB, List.cons_append, List.nil_append, List.all_cons, List.all_nil, AB.low, bench_low, wn_low, Bool.and_true, Bool.true_and]
  rfl
set_option maxHeartbeats 4000000 in
theorem fill52b (l : List Dy) (w : Wn) (f0 : Nat → Int) (q0 q : Int) (hl : OkL l) : ACall Try.prog 52 [.c (.ptr 1 0), I q] [.cells (wnC w), .cells (benchC l f0 q0)] (Go.Abs.one (.tup []) [.cells (wnC w), .cells (benchC l (fillF l q l.length) q)]) := by
  refine ACall.drop2 (Nat.le_refl _) rfl (by simp [AB.low, bench_low, wnC, C.lowL, C.low]) ?_
  refine acall_fitE (bad := []) (kp := kp52) (X := tx) (nt := 89) (rs := []) Try.func52 rfl rfl rfl rfl mo (by kernel_rfl) (fun hf => ?_)
  simp (maxSteps := 2000000) only [go_sem, reduceIte, Nat.reduceEqDiff, Nat.reduceAdd, Nat.reduceLeDiff, Nat.reduceBEq, Nat.reduceMul, lk52, bench_len, bench_setq, bench_clear]
  refine ⟨by decide, ?_⟩
  refine aops_pure' (spots67) rfl rfl (by first | exact wk_refls _ | (repeat constructor)) ?_
  simp (maxSteps := 2000000) only [go_sem, reduceIte, Nat.reduceEqDiff, lk52]
  refine code_gen (fun A Bd hA hB => ?_)
  refine awp_rangeFuncH (gf := 77) (caps := []) rfl rfl (show 2 ≤ 3 by decide) rfl ?_
  refine ACall.mono (spots77 4 (HA w l q A Bd .ready) (fun k hk => ⟨HA_low _ _ _ _ _ _ _, Nat.le_refl _, (show 4 < 5 by decide)⟩) (fun x y hx hy => ?_)) ?_
  · refine yc_ofC (bad := []) (kp := kp52) (X := tx) mo rfl hA hB rfl rfl (by kernel_rfl) (by kernel_rfl) (fun lp => ?_)
    have hc := cost68 (HA w l q A Bd .busy (x * 21 + y) ++ [AB.cells (spC x y)]) 1 (show 1 < 6 by decide) 0 x y (by decide) hx hy
    have e0 : cix 0 x y = x * 21 + y := by unfold cix; omega
    have hk : x * 21 + y < 3969 := by omega
    rw [e0] at hc
    generalize x * 21 + y = k at *
    simp (maxSteps := 2000000) only [go_sem, lk52, HA, slA, spV, spC, List.cons_append, List.nil_append] at hc
    simp (maxSteps := 2000000) only [go_sem, reduceIte, Nat.reduceEqDiff, Nat.reduceAdd, lk52, putPs, HA, slA, spV, spC]
    refine ⟨_, rfl, ?_⟩
    simp (maxSteps := 2000000) only [go_sem, reduceIte, Nat.reduceEqDiff, Nat.reduceAdd, lk52, putPs, HA, slA, spV, spC]
    refine aops_at (hc) rfl rfl (by first | exact wk_refls _ | (repeat constructor)) ?_
    have hs := fun v => bench_set (l := l) (f := fA k) (q := q) (v := v) hk
    have c1 : decide (1 + k + 1 ≤ 3971) = true := by simp; omega
    have c2 : decide (1 + k ≤ 3970) = true := by simp; omega
    simp (maxSteps := 2000000) only [go_sem, reduceIte, Nat.reduceEqDiff, Nat.reduceLeDiff, lk52, bench_len, hs, c1, c2, fA_up]
    refine ⟨{ slots := [], heap := HA w l q A Bd .busy (k + 1), marks := [] }, ent_weaken [.cells (spC x y)] rfl rfl (Nat.le_refl _) (HA_low _ _ _ _ _ _ _) rfl trivial, _, rfl, rfl, rfl⟩
  · rintro _ H2 rfl
    refine ⟨fun h => (by cases h), rfl, rfl, ?_⟩
    simp (maxSteps := 2000000) only [go_sem, reduceIte, Nat.reduceEqDiff, Nat.reduceAdd, lk52, HA, slA]
    have hc := cost68 [.cells (wnC w), .cells (benchC l (fA 441) q), .cells [.ptr 1 0], .gone, .lp { state := .exhausted, pend := none, slots := slA, nt := 89, ps := #[20], assign := A, body := Bd, D := 3 }] 1 (show 1 < 5 by decide) 0 0 0 (by decide) (by decide) (by decide)
    rw [show cix 0 0 0 = 0 from rfl] at hc
    simp (maxSteps := 2000000) only [go_sem, lk52, slA, spV, spC] at hc
    refine aops_at (hc) rfl rfl (by first | exact wk_refls _ | (repeat constructor)) ?_
    simp (maxSteps := 2000000) only [go_sem, reduceIte, Nat.reduceEqDiff, Nat.reduceAdd, Nat.reduceLeDiff, lk52, bench_len, bench_set0, fA_end]
    have hg := goers69 [.cells (wnC w), .cells (benchC l fill0 q), .cells [.ptr 1 0], .gone, .lp { state := .exhausted, pend := none, slots := slA, nt := 89, ps := #[20], assign := A, body := Bd, D := 3 }] 1 (by
      simp only [slA, List.all_cons, List.all_nil, AB.low, bench_low, wn_low, Bool.and_true, Bool.true_and]
      rfl) (show 1 < 5 by decide)
    simp (maxSteps := 2000000) only [go_sem, Nat.reduceAdd, lk52, slA, List.cons_append, List.nil_append] at hg
    refine aops_at (hg) rfl rfl (by first | exact wk_refls _ | (repeat constructor)) ?_
    simp (maxSteps := 2000000) only [go_sem, reduceIte, Nat.reduceEqDiff, lk52]
    refine code_gen (fun A2 B2 hA2 hB2 => ?_)
    refine awp_rangeFuncH (gf := 79) (caps := [.ptr 5 0, .ptr 6 0]) rfl rfl (show 2 ≤ 7 by decide) rfl ?_
    refine ACall.mono (goers79 8 5 6 1 l (fillF l q) q (fun i => HB w l q A Bd A2 B2 .ready (fillF l q i)) hl.n8 (fun k hk => ⟨HB_low _ _ _ _ _ _ _ _ _, rfl⟩) (show 8 < 9 by decide) (fun _ _ => rfl) (fun _ _ => rfl) (fun _ _ => rfl) (fun i hi => ?_)) ?_
    · have h8 := hl.n8
      have i9 : (i : Int) < 9 := by omega
      have j9 : ((i + 1 : Nat) : Int) < 9 := by omega
      have w7 : wr .i64 ((i : Int) + 1) = ((i + 1 : Nat) : Int) := wr_succ hi (Nat.le_trans h8 (by decide))
      have hrow := bench_rowi (l := l) (f := fillF l q i) (q := q) (i := i) (by omega)
      have hcp := bench_copyi (l := l) (f := fillF l q i) (q := q) (i := i) (by omega)
      have c1 : decide (1 + i * 441 + 441 ≤ 3971) = true := by simp; omega
      have c1' : decide (1 + i * 441 ≤ 3530) = true := by simp; omega
      have c2 : decide (1 + (i + 1) * 441 + 441 ≤ 3971) = true := by simp; omega
      have c2' : decide (1 + (i + 1) * 441 ≤ 3530) = true := by simp; omega
      by_cases hq : q ≤ (gD l i).f
      case neg =>
        have e : fillF l q (i + 1) = copyRow i (fillF l q i) := by rw [fillF, if_neg hq]
        rw [e]
        refine ycs_ofN (bad := []) (kp := kp52) (X := tx) mo rfl hA2 hB2 rfl rfl (by kernel_rfl) (by kernel_rfl) (fun lp => ?_)
        simp (maxSteps := 2000000) only [go_sem, reduceIte, Nat.reduceEqDiff, Nat.reduceAdd, lk52, putPs, HB, slA, slB, goC, dyC, List.cons_append, List.nil_append]
        refine ⟨_, rfl, ?_⟩
        simp (maxSteps := 2000000) only [go_sem, reduceIte, Nat.reduceEqDiff, Nat.reduceAdd, Nat.reduceLeDiff, Nat.reduceBEq, lk52, putPs, HB, slA, slB, goC, dyC, List.cons_append, List.nil_append, i9, j9, nn, w7, hrow, hcp, bench_len, numsC_len, c1, c1', c2, c2', hq]
        refine ⟨{ slots := [], heap := HB w l q A Bd A2 B2 .busy (copyRow i (fillF l q i)) ++ [.cells (dyC (gD l i))], marks := [] }, ent_weaken [.cells (goC (gD l i) i false)] rfl rfl (Nat.le_refl _) (HBd_low _ _ _ _ _ _ _ _ _ _) rfl trivial, _, rfl, rfl, rfl⟩
      case pos =>
        have e : fillF l q (i + 1) = runS (relaxD (gD l i) i) (copyRow i (fillF l q i)) 441 := by rw [fillF, if_pos hq]
        rw [e]
        have hB0 : Go.Proofs.Ytkbnmanfoejoiaa.Bd (copyRow i (fillF l q i)) := Go.Proofs.Ytkbnmanfoejoiaa.Bd.copy (Go.Proofs.Ytkbnmanfoejoiaa.Bd.fill hl q i (by omega))
        refine ycs_ofN (bad := []) (kp := kp52) (X := tx) mo rfl hA2 hB2 rfl rfl (by kernel_rfl) (by kernel_rfl) (fun lp => ?_)
        simp (maxSteps := 2000000) only [go_sem, reduceIte, Nat.reduceEqDiff, Nat.reduceAdd, lk52, putPs, HB, slA, slB, goC, dyC, List.cons_append, List.nil_append]
        refine ⟨_, rfl, ?_⟩
        simp (maxSteps := 2000000) only [go_sem, reduceIte, Nat.reduceEqDiff, Nat.reduceAdd, Nat.reduceLeDiff, Nat.reduceBEq, lk52, putPs, HB, slA, slB, goC, dyC, List.cons_append, List.nil_append, i9, j9, nn, w7, hrow, hcp, bench_len, numsC_len, c1, c1', c2, c2', hq]
        refine aops_pure' (spots67) rfl rfl (by first | exact wk_refls _ | (repeat constructor)) ?_
        simp (maxSteps := 2000000) only [go_sem, reduceIte, Nat.reduceEqDiff, lk52]
        refine code_genR (fun A3 B3 hA3 hB3 => ?_)
        refine awpr_rangeFunc (gf := 77) (caps := []) rfl rfl rfl ?_
        refine ACall.mono (spots77 11 (fun k => HC w l q A Bd A2 B2 A3 B3 (gD l i) i .ready (runS (relaxD (gD l i) i) (copyRow i (fillF l q i)) k)) (fun k hk => ⟨HC_low _ _ _ _ _ _ _ _ _ _ _ _ _, Nat.le_refl _, (show 11 < 12 by decide)⟩) (fun x y hx hy => ?_)) ?_
        · have hd : OkD (gD l i) := hl.g hi
          have er : runS (relaxD (gD l i) i) (copyRow i (fillF l q i)) (x * 21 + y + 1) = relaxD (gD l i) i (runS (relaxD (gD l i) i) (copyRow i (fillF l q i)) (x * 21 + y)) x y := by
            rw [runS, show (x * 21 + y) / 21 = x by omega, show (x * 21 + y) % 21 = y by omega]
          have hG := Go.Proofs.Ytkbnmanfoejoiaa.Bd.runS (st := relaxD (gD l i) i) (fun f x y h => Go.Proofs.Ytkbnmanfoejoiaa.Bd.relax h hd x y) hB0 (x * 21 + y)
          rw [er]
          generalize runS (relaxD (gD l i) i) (copyRow i (fillF l q i)) (x * 21 + y) = g at *
          have d1 := hd.a0
          have d2 := hd.a6
          have d3 := hd.b0
          have d4 := hd.b6
          have d5 := hd.p0
          have d6 := hd.p6
          obtain ⟨a, ha⟩ : ∃ a, a = (gD l i).a.toNat := ⟨_, rfl⟩
          obtain ⟨b, hb⟩ : ∃ b, b = (gD l i).b.toNat := ⟨_, rfl⟩
          have hp : Pure Try.prog 63 [spV x y, dyV (gD l i), I 1] (spV ((x + a : Nat) : Int) ((y + b : Nat) : Int)) := by
            have h := plus63 x y 1 (gD l i) (wr_in (by omega)) (wr_in (by omega)) (wr_in (by omega)) (wr_in (by omega))
            rw [show (x : Int) + 1 * (gD l i).a = ((x + a : Nat) : Int) by omega, show (y : Int) + 1 * (gD l i).b = ((y + b : Nat) : Int) by omega] at h
            exact h
          have hw := whole70 ((x + a : Nat) : Int) ((y + b : Nat) : Int)
          have hc1 := cost68 (HC w l q A Bd A2 B2 A3 B3 (gD l i) i .busy g ++ [AB.cells (spC x y), AB.cells (spC ((x + a : Nat) : Int) ((y + b : Nat) : Int))]) 1 (show 1 < 14 by decide) (i + 1) x y (by omega) hx hy
          have k1 := cix_lt (show i + 1 < 9 by omega) hx hy
          have hre : relaxD (gD l i) i g x y = if (x + a < 21 ∧ y + b < 21) ∧ g (cix (i + 1) x y) ≠ MX then upd g (cix (i + 1) (x + a) (y + b)) (min (g (cix (i + 1) (x + a) (y + b))) (g (cix (i + 1) x y) + (gD l i).p)) else g := by rw [ha, hb]; rfl
          rw [hre]
          have v1 := bench_at (l := l) (f := g) (q := q) k1
          have b1 := hG (cix (i + 1) x y)
          generalize cix (i + 1) x y = k at *
          have r1 : decide (1 + k + 1 ≤ 3971) = true := by simp; omega
          have r1' : decide (1 + k ≤ 3970) = true := by simp; omega
          clear hre er
          simp (maxSteps := 2000000) only [go_sem, lk52, HC, HB, slA, slB, slC, goC, dyC, spV, spC, dyV, List.cons_append, List.nil_append] at hc1 hp hw
          by_cases hx1 : x + a < 21
          case neg =>
            have hx1' : ¬ ((x + a : Nat) : Int) < 21 := by omega
            rw [if_neg (by omega)]
            refine yc_ofC (bad := []) (kp := kp52) (X := tx) mo rfl hA3 hB3 rfl rfl (by kernel_rfl) (by kernel_rfl) (fun lp2 => ?_)
            simp (maxSteps := 2000000) only [go_sem, reduceIte, Nat.reduceEqDiff, Nat.reduceAdd, lk52, putPs, HC, HB, slA, slB, slC, goC, dyC, spV, spC, List.cons_append, List.nil_append]
            refine ⟨_, rfl, ?_⟩
            simp (maxSteps := 2000000) only [go_sem, reduceIte, Nat.reduceEqDiff, Nat.reduceAdd, Nat.reduceLeDiff, Nat.reduceBEq, lk52, putPs, HC, HB, slA, slB, slC, goC, dyC, spV, spC, List.cons_append, List.nil_append]
            refine aops_pure' (hp) rfl rfl (by first | exact wk_refls _ | (repeat constructor)) ?_
            simp (maxSteps := 2000000) only [go_sem, reduceIte, Nat.reduceEqDiff, Nat.reduceAdd, Nat.reduceLeDiff, Nat.reduceBEq, lk52, w7]
            refine aops_at (hc1) rfl rfl (by first | exact wk_refls _ | (repeat constructor)) ?_
            simp (maxSteps := 2000000) only [go_sem, reduceIte, Nat.reduceEqDiff, Nat.reduceAdd, Nat.reduceLeDiff, lk52, v1, bench_len, r1, r1']
            refine aops_pure' (hw) rfl rfl (by first | exact wk_refls _ | (repeat constructor)) ?_
            simp (maxSteps := 2000000) only [go_sem, reduceIte, Nat.reduceEqDiff, lk52, hx1']
            refine ⟨{ slots := [], heap := HC w l q A Bd A2 B2 A3 B3 (gD l i) i .busy g, marks := [] }, ent_weaken [.cells (spC x y), .cells (spC ((x + a : Nat) : Int) ((y + b : Nat) : Int))] rfl rfl (Nat.le_refl _) (HC_low _ _ _ _ _ _ _ _ _ _ _ _ _) rfl trivial, _, rfl, rfl, rfl⟩
          have hx1' : ((x + a : Nat) : Int) < 21 := by omega
          by_cases hy1 : y + b < 21
          case neg =>
            have hy1' : ¬ ((y + b : Nat) : Int) < 21 := by omega
            rw [if_neg (by omega)]
            refine yc_ofC (bad := []) (kp := kp52) (X := tx) mo rfl hA3 hB3 rfl rfl (by kernel_rfl) (by kernel_rfl) (fun lp2 => ?_)
            simp (maxSteps := 2000000) only [go_sem, reduceIte, Nat.reduceEqDiff, Nat.reduceAdd, lk52, putPs, HC, HB, slA, slB, slC, goC, dyC, spV, spC, List.cons_append, List.nil_append]
            refine ⟨_, rfl, ?_⟩
            simp (maxSteps := 2000000) only [go_sem, reduceIte, Nat.reduceEqDiff, Nat.reduceAdd, Nat.reduceLeDiff, Nat.reduceBEq, lk52, putPs, HC, HB, slA, slB, slC, goC, dyC, spV, spC, List.cons_append, List.nil_append]
            refine aops_pure' (hp) rfl rfl (by first | exact wk_refls _ | (repeat constructor)) ?_
            simp (maxSteps := 2000000) only [go_sem, reduceIte, Nat.reduceEqDiff, Nat.reduceAdd, Nat.reduceLeDiff, Nat.reduceBEq, lk52, w7]
            refine aops_at (hc1) rfl rfl (by first | exact wk_refls _ | (repeat constructor)) ?_
            simp (maxSteps := 2000000) only [go_sem, reduceIte, Nat.reduceEqDiff, Nat.reduceAdd, Nat.reduceLeDiff, lk52, v1, bench_len, r1, r1']
            refine aops_pure' (hw) rfl rfl (by first | exact wk_refls _ | (repeat constructor)) ?_
            simp (maxSteps := 2000000) only [go_sem, reduceIte, Nat.reduceEqDiff, lk52, hx1', hy1']
            refine ⟨{ slots := [], heap := HC w l q A Bd A2 B2 A3 B3 (gD l i) i .busy g, marks := [] }, ent_weaken [.cells (spC x y), .cells (spC ((x + a : Nat) : Int) ((y + b : Nat) : Int))] rfl rfl (Nat.le_refl _) (HC_low _ _ _ _ _ _ _ _ _ _ _ _ _) rfl trivial, _, rfl, rfl, rfl⟩
          have hy1' : ((y + b : Nat) : Int) < 21 := by omega
          by_cases hm : g k = MX
          case pos =>
            have hm' : g k = 1099511627776 := hm
            rw [if_neg (fun h => h.2 hm)]
            refine yc_ofC (bad := []) (kp := kp52) (X := tx) mo rfl hA3 hB3 rfl rfl (by kernel_rfl) (by kernel_rfl) (fun lp2 => ?_)
            simp (maxSteps := 2000000) only [go_sem, reduceIte, Nat.reduceEqDiff, Nat.reduceAdd, lk52, putPs, HC, HB, slA, slB, slC, goC, dyC, spV, spC, List.cons_append, List.nil_append]
            refine ⟨_, rfl, ?_⟩
            simp (maxSteps := 2000000) only [go_sem, reduceIte, Nat.reduceEqDiff, Nat.reduceAdd, Nat.reduceLeDiff, Nat.reduceBEq, lk52, putPs, HC, HB, slA, slB, slC, goC, dyC, spV, spC, List.cons_append, List.nil_append]
            refine aops_pure' (hp) rfl rfl (by first | exact wk_refls _ | (repeat constructor)) ?_
            simp (maxSteps := 2000000) only [go_sem, reduceIte, Nat.reduceEqDiff, Nat.reduceAdd, Nat.reduceLeDiff, Nat.reduceBEq, lk52, w7]
            refine aops_at (hc1) rfl rfl (by first | exact wk_refls _ | (repeat constructor)) ?_
            simp (maxSteps := 2000000) only [go_sem, reduceIte, Nat.reduceEqDiff, Nat.reduceAdd, Nat.reduceLeDiff, lk52, v1, bench_len, r1, r1']
            refine aops_pure' (hw) rfl rfl (by first | exact wk_refls _ | (repeat constructor)) ?_
            simp (maxSteps := 2000000) only [go_sem, reduceIte, Nat.reduceEqDiff, lk52, hx1', hy1', hm']
            refine ⟨{ slots := [], heap := HC w l q A Bd A2 B2 A3 B3 (gD l i) i .busy g, marks := [] }, ent_weaken [.cells (spC x y), .cells (spC ((x + a : Nat) : Int) ((y + b : Nat) : Int))] rfl rfl (Nat.le_refl _) (HC_low _ _ _ _ _ _ _ _ _ _ _ _ _) rfl trivial, _, rfl, rfl, rfl⟩
          have hm' : ¬ g k = 1099511627776 := hm
          rw [if_pos ⟨⟨hx1, hy1⟩, hm⟩]
          have k2 := cix_lt (show i + 1 < 9 by omega) hx1 hy1
          have hc2 := cost68 (HC w l q A Bd A2 B2 A3 B3 (gD l i) i .busy g ++ [AB.cells (spC x y), AB.cells (spC ((x + a : Nat) : Int) ((y + b : Nat) : Int))]) 1 (show 1 < 14 by decide) (i + 1) (x + a) (y + b) (by omega) hx1 hy1
          have v2 := bench_at (l := l) (f := g) (q := q) k2
          have b2 := hG (cix (i + 1) (x + a) (y + b))
          have s2 := fun v => bench_set (l := l) (f := g) (q := q) (v := v) k2
          generalize cix (i + 1) (x + a) (y + b) = m at *
          have r2 : decide (1 + m + 1 ≤ 3971) = true := by simp; omega
          have r2' : decide (1 + m ≤ 3970) = true := by simp; omega
          have w9 : wr .i64 (g k + (gD l i).p) = g k + (gD l i).p := wr_in (by unfold MX at b1; omega)
          have hls := least71 (g m) (g k + (gD l i).p)
          have em : (if g k + (gD l i).p < g m then g k + (gD l i).p else g m) = min (g m) (g k + (gD l i).p) := by split <;> omega
          rw [em] at hls
          simp (maxSteps := 2000000) only [go_sem, lk52, HC, HB, slA, slB, slC, goC, dyC, spV, spC, dyV, List.cons_append, List.nil_append] at hc2
          simp (maxSteps := 2000000) only [go_sem, lk52, ints, iD] at hls
          refine yc_ofC (bad := []) (kp := kp52) (X := tx) mo rfl hA3 hB3 rfl rfl (by kernel_rfl) (by kernel_rfl) (fun lp2 => ?_)
          simp (maxSteps := 2000000) only [go_sem, reduceIte, Nat.reduceEqDiff, Nat.reduceAdd, lk52, putPs, HC, HB, slA, slB, slC, goC, dyC, spV, spC, List.cons_append, List.nil_append]
          refine ⟨_, rfl, ?_⟩
          simp (maxSteps := 2000000) only [go_sem, reduceIte, Nat.reduceEqDiff, Nat.reduceAdd, Nat.reduceLeDiff, Nat.reduceBEq, lk52, putPs, HC, HB, slA, slB, slC, goC, dyC, spV, spC, List.cons_append, List.nil_append]
          refine aops_pure' (hp) rfl rfl (by first | exact wk_refls _ | (repeat constructor)) ?_
          simp (maxSteps := 2000000) only [go_sem, reduceIte, Nat.reduceEqDiff, Nat.reduceAdd, Nat.reduceLeDiff, Nat.reduceBEq, lk52, w7]
          refine aops_at (hc1) rfl rfl (by first | exact wk_refls _ | (repeat constructor)) ?_
          simp (maxSteps := 2000000) only [go_sem, reduceIte, Nat.reduceEqDiff, Nat.reduceAdd, Nat.reduceLeDiff, lk52, v1, bench_len, r1, r1']
          refine aops_pure' (hw) rfl rfl (by first | exact wk_refls _ | (repeat constructor)) ?_
          simp (maxSteps := 2000000) only [go_sem, reduceIte, Nat.reduceEqDiff, Nat.reduceAdd, Nat.reduceLT, Nat.reduceLeDiff, Nat.reduceBEq, Nat.reduceMul, lk52, hx1', hy1', hm', w7]
          refine aops_at (hc2) rfl rfl (by first | exact wk_refls _ | (repeat constructor)) ?_
          simp (maxSteps := 2000000) only [go_sem, reduceIte, Nat.reduceEqDiff, Nat.reduceAdd, Nat.reduceLeDiff, Nat.reduceBEq, lk52, v2, bench_len, r2, r2', w9]
          refine aops_pure' (hls) rfl rfl (by first | exact wk_refls _ | (repeat constructor)) ?_
          simp (maxSteps := 2000000) only [go_sem, reduceIte, Nat.reduceEqDiff, Nat.reduceLeDiff, lk52, s2, bench_len, r2, r2']
          refine ⟨{ slots := [], heap := HC w l q A Bd A2 B2 A3 B3 (gD l i) i .busy (upd g m (min (g m) (g k + (gD l i).p))), marks := [] }, ent_weaken [.cells (spC x y), .cells (spC ((x + a : Nat) : Int) ((y + b : Nat) : Int))] rfl rfl (Nat.le_refl _) (HC_low _ _ _ _ _ _ _ _ _ _ _ _ _) rfl trivial, _, rfl, rfl, rfl⟩
        · rintro _ H2 rfl
          refine ⟨fun h => (by cases h), rfl, ?_⟩
          simp (maxSteps := 2000000) only [go_sem, Nat.reduceAdd, lk52, HC, HB, slA, slB, slC, goC, dyC, List.cons_append, List.nil_append]
          refine ⟨{ slots := [], heap := HB w l q A Bd A2 B2 .busy (runS (relaxD (gD l i) i) (copyRow i (fillF l q i)) 441) ++ [.cells (dyC (gD l i))], marks := [] }, ent_weaken [.cells (goC (gD l i) i true), .lp { state := .exhausted, pend := none, slots := slC, nt := 89, ps := #[50], assign := A3, body := B3, D := 7 }] rfl rfl (Nat.le_refl _) (HBd_low _ _ _ _ _ _ _ _ _ _) rfl trivial, _, rfl, rfl, rfl⟩
    · rintro _ H2 rfl
      refine ⟨fun h => (by cases h), rfl, rfl, ?_⟩
      simp (maxSteps := 2000000) only [go_sem, Nat.reduceAdd, lk52, HB, slA, slB]
      all_goals first | exact .refl _ | exact ⟨.refl _, .refl _⟩ | exact ⟨.refl _, .refl _, .refl _⟩ | exact ⟨.refl _, _, rfl⟩ | exact ⟨_, rfl⟩ | exact ⟨.refl _, [], by simp⟩ | exact ⟨[], by simp⟩
end Go.Proofs.Ytkbnmanfoejoiaa
