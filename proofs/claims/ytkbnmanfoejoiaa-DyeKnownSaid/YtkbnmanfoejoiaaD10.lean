/- Dyes: right. -/
import Derived.Test.YtkbnmanfoejoiaaD9
set_option linter.unusedSimpArgs false
set_option linter.unusedVariables false
set_option maxRecDepth 100000
namespace Go.Proofs.Ytkbnmanfoejoiaa
open Go Go.Abs Go.Proofs
def kp59 : List (Nat × List Nat) := [(0, [1, 2]), (1, [2]), (2, [2, 5]), (3, [2, 5, 21]), (4, [2, 5, 6]), (5, [2, 5, 6, 23]), (6, [2, 5, 6, 7]), (7, [2, 5, 6, 7, 8]), (8, [2, 5, 6, 7, 8]), (9, [2, 5, 6, 8, 9]), (10, [2, 5, 6, 8, 9, 54]), (11, []), (12, [4])]
theorem lk59 : lookK kp59 0 = some [1, 2] ∧ lookK kp59 1 = some [2] ∧ lookK kp59 2 = some [2, 5] ∧ lookK kp59 3 = some [2, 5, 21] ∧ lookK kp59 4 = some [2, 5, 6] ∧ lookK kp59 5 = some [2, 5, 6, 23] ∧ lookK kp59 6 = some [2, 5, 6, 7] ∧ lookK kp59 7 = some [2, 5, 6, 7, 8] ∧ lookK kp59 8 = some [2, 5, 6, 7, 8] ∧ lookK kp59 9 = some [2, 5, 6, 8, 9] ∧ lookK kp59 10 = some [2, 5, 6, 8, 9, 54] ∧ lookK kp59 11 = some [] ∧ lookK kp59 12 = some [4] := ⟨rfl, rfl, rfl, rfl, rfl, rfl, rfl, rfl, rfl, rfl, rfl, rfl, rfl⟩

/-- The step of right at a spot. -/
def stepR (d : Dy) (q : Int) (i : Nat) (f : Nat → Int) (x y : Nat) (b : Bool) : Bool :=
  if q ≤ d.f ∧ x + d.a.toNat < 21 ∧ y + d.b.toNat < 21 then (b && decide (f (cix (i + 1) x y) ≤ f (cix i x y))) && decide (f (cix (i + 1) (x + d.a.toNat) (y + d.b.toNat)) ≤ f (cix (i + 1) x y) + d.p) else b && decide (f (cix (i + 1) x y) ≤ f (cix i x y))
def runB (st : Nat → Nat → Bool → Bool) (b : Bool) : Nat → Bool
  | 0 => b
  | k + 1 => st (k / 21) (k % 21) (runB st b k)
def rightI (l : List Dy) (q : Int) (f : Nat → Int) : Nat → Bool
  | 0 => decide (f 0 = 0)
  | i + 1 => runB (stepR (gD l i) q i f) (rightI l q f i) 441
theorem bench_at0 {l : List Dy} {f : Nat → Int} {q : Int} : (benchC l f q)[1]? = some (.d (.int .i64 (f 0))) := bench_at (k := 0) (by decide)
def slD : List (Nat × V) := [(2, .c (.ptr 2 0)), (5, .c (.ptr 3 0)), (21, .c (.fn (.func 79) [.ptr 4 0, .ptr 5 0]))]
def HD (w : Wn) (l : List Dy) (f : Nat → Int) (q : Int) (A Bd : Code) (st : LoopState) (b : Bool) : List AB := [.cells (wnC w), .cells (benchC l f q), .cells [.ptr 1 0], .cells [.d (.bool b)], .cells [.ptr 1 0], .cells [.mv (.func 78) (.ptr 1 0)], .df, .lp { state := st, pend := none, slots := slD, nt := 73, ps := #[22], assign := A, body := Bd, D := 6 }]
theorem HD_low (w : Wn) (l : List Dy) (f : Nat → Int) (q : Int) (A Bd : Code) (st : LoopState) (b : Bool) : (HD w l f q A Bd st b).all (AB.low 8) = true := by
  simp only [HD, List.all_cons, List.all_nil, AB.low, bench_low, wn_low, Bool.and_true, Bool.true_and]
  rfl
theorem HDd_low (w : Wn) (l : List Dy) (f : Nat → Int) (q : Int) (A Bd : Code) (d : Dy) (st : LoopState) (b : Bool) : (HD w l f q A Bd st b ++ [AB.cells (dyC d)]).all (AB.low 9) = true := by
  simp only [HD, List.cons_append, List.nil_append, List.all_cons, List.all_nil, AB.low, bench_low, wn_low, Bool.and_true, Bool.true_and]
  rfl
def slE : List (Nat × V) := [(2, .c (.ptr 2 0)), (5, .c (.ptr 3 0)), (6, .c (.ptr 9 0)), (23, .c (.fn (.func 77) []))]
def HE (w : Wn) (l : List Dy) (f : Nat → Int) (q : Int) (A Bd A3 B3 : Code) (d : Dy) (i : Nat) (m : Bool) (st : LoopState) (b : Bool) : List AB := HD w l f q A Bd .busy b ++ [.cells (dyC d), .cells (goC d i m), .lp { state := st, pend := none, slots := slE, nt := 73, ps := #[24], assign := A3, body := B3, D := 6 }]
theorem HE_low (w : Wn) (l : List Dy) (f : Nat → Int) (q : Int) (A Bd A3 B3 : Code) (d : Dy) (i : Nat) (m : Bool) (st : LoopState) (b : Bool) : (HE w l f q A Bd A3 B3 d i m st b).all (AB.low 11) = true := by
  simp only [HE, HD, List.cons_append, List.nil_append, List.all_cons, List.all_nil, AB.low, bench_low, wn_low, Bool.and_true, Bool.true_and]
  rfl
set_option maxHeartbeats 4000000 in
theorem right59 (l : List Dy) (w : Wn) (f : Nat → Int) (q0 q : Int) (hl : OkL l) (hB : Bd f) : ACall Try.prog 59 [.c (.ptr 1 0), I q] [.cells (wnC w), .cells (benchC l f q0)] (Go.Abs.one (B (rightI l q f l.length)) [.cells (wnC w), .cells (benchC l f q)]) := by
  refine ACall.drop2 (Nat.le_refl _) rfl (by simp [AB.low, bench_low, wnC, C.lowL, C.low]) ?_
  refine acall_fitE (bad := []) (kp := kp59) (X := tx) (nt := 73) (rs := [.tmp 4]) Try.func59 rfl rfl rfl rfl mo (by kernel_rfl) (fun hf => ?_)
  have hc := cost68 [.cells (wnC w), .cells (benchC l f q), .cells [.ptr 1 0]] 1 (show 1 < 3 by decide) 0 0 0 (by decide) (by decide) (by decide)
  rw [show cix 0 0 0 = 0 from rfl] at hc
  simp (maxSteps := 2000000) only [go_sem, lk59, spV, spC] at hc
  simp (maxSteps := 2000000) only [go_sem, reduceIte, Nat.reduceEqDiff, Nat.reduceAdd, Nat.reduceBEq, lk59, bench_len, bench_setq]
  refine aops_at (hc) rfl rfl (by first | exact wk_refls _ | (repeat constructor)) ?_
  simp (maxSteps := 2000000) only [go_sem, reduceIte, Nat.reduceEqDiff, Nat.reduceAdd, Nat.reduceLeDiff, lk59, bench_len, bench_at0]
  have hg := goers69 [.cells (wnC w), .cells (benchC l f q), .cells [.ptr 1 0], .cells [.d (.bool (decide (f 0 = 0)))]] 1 (by
    simp only [List.all_cons, List.all_nil, AB.low, bench_low, wn_low, Bool.and_true, Bool.true_and]
    rfl) (show 1 < 4 by decide)
  simp (maxSteps := 2000000) only [go_sem, Nat.reduceAdd, lk59, List.cons_append, List.nil_append] at hg
  refine aops_at (hg) rfl rfl (by first | exact wk_refls _ | (repeat constructor)) ?_
  simp (maxSteps := 2000000) only [go_sem, reduceIte, Nat.reduceEqDiff, lk59]
  refine code_gen (fun A Bd hA hB' => ?_)
  refine awp_rangeFuncH (gf := 79) (caps := [.ptr 4 0, .ptr 5 0]) rfl rfl (show 2 ≤ 6 by decide) rfl ?_
  refine ACall.mono (goers79 7 4 5 1 l (fun _ => f) q (fun i => HD w l f q A Bd .ready (rightI l q f i)) hl.n8 (fun k hk => ⟨HD_low _ _ _ _ _ _ _ _, rfl⟩) (show 7 < 8 by decide) (fun _ _ => rfl) (fun _ _ => rfl) (fun _ _ => rfl) (fun i hi => ?_)) ?_
  · have h8 := hl.n8
    have w7 : wr .i64 ((i : Int) + 1) = ((i + 1 : Nat) : Int) := wr_succ hi (Nat.le_trans h8 (by decide))
    rw [rightI]
    generalize rightI l q f i = b0 at *
    refine ycs_ofN (bad := []) (kp := kp59) (X := tx) mo rfl hA hB' rfl rfl (by kernel_rfl) (by kernel_rfl) (fun lp => ?_)
    simp (maxSteps := 2000000) only [go_sem, reduceIte, Nat.reduceEqDiff, Nat.reduceAdd, lk59, putPs, HD, slD, goC, dyC, List.cons_append, List.nil_append]
    refine ⟨_, rfl, ?_⟩
    simp (maxSteps := 2000000) only [go_sem, lk59, putPs, HD, slD, goC, dyC, List.cons_append, List.nil_append]
    refine aops_pure' (spots67) rfl rfl (by first | exact wk_refls _ | (repeat constructor)) ?_
    simp (maxSteps := 2000000) only [go_sem, reduceIte, Nat.reduceEqDiff, lk59]
    refine code_genR (fun A3 B3 hA3 hB3 => ?_)
    refine awpr_rangeFunc (gf := 77) (caps := []) rfl rfl rfl ?_
    refine ACall.mono (spots77 10 (fun k => HE w l f q A Bd A3 B3 (gD l i) i (decide (q ≤ (gD l i).f)) .ready (runB (stepR (gD l i) q i f) b0 k)) (fun k hk => ⟨HE_low _ _ _ _ _ _ _ _ _ _ _ _ _, Nat.le_refl _, (show 10 < 11 by decide)⟩) (fun x y hx hy => ?_)) ?_
    · have hd : OkD (gD l i) := hl.g hi
      have er : runB (stepR (gD l i) q i f) b0 (x * 21 + y + 1) = stepR (gD l i) q i f x y (runB (stepR (gD l i) q i f) b0 (x * 21 + y)) := by
        rw [runB, show (x * 21 + y) / 21 = x by omega, show (x * 21 + y) % 21 = y by omega]
      rw [er]
      generalize runB (stepR (gD l i) q i f) b0 (x * 21 + y) = b at *
      clear er
      have d1 := hd.a0
      have d2 := hd.a6
      have d3 := hd.b0
      have d4 := hd.b6
      have d5 := hd.p0
      have d6 := hd.p6
      obtain ⟨ga, ha⟩ : ∃ a, a = (gD l i).a.toNat := ⟨_, rfl⟩
      obtain ⟨gb, hb⟩ : ∃ b, b = (gD l i).b.toNat := ⟨_, rfl⟩
      have hp : Pure Try.prog 63 [spV x y, dyV (gD l i), I 1] (spV ((x + ga : Nat) : Int) ((y + gb : Nat) : Int)) := by
        have h := plus63 x y 1 (gD l i) (wr_in (by omega)) (wr_in (by omega)) (wr_in (by omega)) (wr_in (by omega))
        rw [show (x : Int) + 1 * (gD l i).a = ((x + ga : Nat) : Int) by omega, show (y : Int) + 1 * (gD l i).b = ((y + gb : Nat) : Int) by omega] at h
        exact h
      have hw := whole70 ((x + ga : Nat) : Int) ((y + gb : Nat) : Int)
      have hre : stepR (gD l i) q i f x y b = if q ≤ (gD l i).f ∧ x + ga < 21 ∧ y + gb < 21 then (b && decide (f (cix (i + 1) x y) ≤ f (cix i x y))) && decide (f (cix (i + 1) (x + ga) (y + gb)) ≤ f (cix (i + 1) x y) + (gD l i).p) else b && decide (f (cix (i + 1) x y) ≤ f (cix i x y)) := by rw [ha, hb]; rfl
      rw [hre]
      clear hre
      have hc1 := cost68 (HE w l f q A Bd A3 B3 (gD l i) i (decide (q ≤ (gD l i).f)) .busy b ++ [AB.cells (spC x y)]) 1 (show 1 < 12 by decide) (i + 1) x y (by omega) hx hy
      have hc0 := cost68 (HE w l f q A Bd A3 B3 (gD l i) i (decide (q ≤ (gD l i).f)) .busy b ++ [AB.cells (spC x y)]) 1 (show 1 < 12 by decide) i x y (by omega) hx hy
      have hc2 := fun (hx1 : x + ga < 21) (hy1 : y + gb < 21) bN => cost68 (HE w l f q A Bd A3 B3 (gD l i) i (decide (q ≤ (gD l i).f)) .busy bN ++ [AB.cells (spC x y), AB.cells (spC ((x + ga : Nat) : Int) ((y + gb : Nat) : Int))]) 1 (show 1 < 13 by decide) (i + 1) (x + ga) (y + gb) (by omega) hx1 hy1
      have k1 := cix_lt (show i + 1 < 9 by omega) hx hy
      have k0 := cix_lt (show i < 9 by omega) hx hy
      have k2 := fun (hx1 : x + ga < 21) (hy1 : y + gb < 21) => cix_lt (show i + 1 < 9 by omega) hx1 hy1
      have v1 := bench_at (l := l) (f := f) (q := q) k1
      have v0 := bench_at (l := l) (f := f) (q := q) k0
      have b1 := hB (cix (i + 1) x y)
      generalize cix (i + 1) x y = k at *
      generalize cix i x y = kz at *
      generalize cix (i + 1) (x + ga) (y + gb) = m at *
      have v2 := fun hx1 hy1 => bench_at (l := l) (f := f) (q := q) (k2 hx1 hy1)
      have r1 : decide (1 + k + 1 ≤ 3971) = true := by simp; omega
      have r1' : decide (1 + k ≤ 3970) = true := by simp; omega
      have r0 : decide (1 + kz + 1 ≤ 3971) = true := by simp; omega
      have r0' : decide (1 + kz ≤ 3970) = true := by simp; omega
      have w9 : wr .i64 (f k + (gD l i).p) = f k + (gD l i).p := wr_in (by unfold MX at b1; omega)
      simp (maxSteps := 2000000) only [go_sem, lk59, HE, HD, slD, slE, goC, dyC, spV, spC, dyV, List.cons_append, List.nil_append] at hc1 hc0 hc2 hp hw
      cases b with
      | false =>
        by_cases hq : q ≤ (gD l i).f
        case neg =>
          rw [if_neg (fun h => hq h.1)]
          rw [Bool.false_and]
          refine yc_ofC (bad := []) (kp := kp59) (X := tx) mo rfl hA3 hB3 rfl rfl (by kernel_rfl) (by kernel_rfl) (fun lp2 => ?_)
          simp (maxSteps := 2000000) only [go_sem, reduceIte, Nat.reduceEqDiff, Nat.reduceAdd, lk59, putPs, HE, HD, slD, slE, goC, dyC, spV, spC, List.cons_append, List.nil_append]
          refine ⟨_, rfl, ?_⟩
          simp (maxSteps := 2000000) only [go_sem, reduceIte, Nat.reduceEqDiff, Nat.reduceAdd, Nat.reduceLeDiff, Nat.reduceBEq, lk59, putPs, HE, HD, slD, slE, goC, dyC, spV, spC, List.cons_append, List.nil_append, w7]
          refine aops_at (hc1) rfl rfl (by first | exact wk_refls _ | (repeat constructor)) ?_
          simp (maxSteps := 2000000) only [go_sem, reduceIte, Nat.reduceEqDiff, Nat.reduceAdd, Nat.reduceLeDiff, Nat.reduceBEq, lk59, v1, bench_len, r1, r1']
          refine aops_pure' (hp) rfl rfl (by first | exact wk_refls _ | (repeat constructor)) ?_
          simp (maxSteps := 2000000) only [go_sem, reduceIte, Nat.reduceEqDiff, Nat.reduceAdd, Nat.reduceBEq, lk59, hq]
          refine ⟨{ slots := [], heap := HE w l f q A Bd A3 B3 (gD l i) i (decide (q ≤ (gD l i).f)) .busy (false), marks := [] }, ent_weaken [.cells (spC x y), .cells (spC ((x + ga : Nat) : Int) ((y + gb : Nat) : Int))] (by simp only [HE, HD, goC, hq, decide_false]; rfl) rfl (Nat.le_refl _) (HE_low _ _ _ _ _ _ _ _ _ _ _ _ _) rfl trivial, _, rfl, rfl, by simp only [HE, HD, goC, hq, decide_false]; first | rfl | exact ⟨rfl, rfl⟩⟩
        by_cases hx1 : x + ga < 21
        case neg =>
          have hx1' : ¬ ((x + ga : Nat) : Int) < 21 := by omega
          rw [if_neg (fun h => hx1 h.2.1)]
          rw [Bool.false_and]
          refine yc_ofC (bad := []) (kp := kp59) (X := tx) mo rfl hA3 hB3 rfl rfl (by kernel_rfl) (by kernel_rfl) (fun lp2 => ?_)
          simp (maxSteps := 2000000) only [go_sem, reduceIte, Nat.reduceEqDiff, Nat.reduceAdd, lk59, putPs, HE, HD, slD, slE, goC, dyC, spV, spC, List.cons_append, List.nil_append]
          refine ⟨_, rfl, ?_⟩
          simp (maxSteps := 2000000) only [go_sem, reduceIte, Nat.reduceEqDiff, Nat.reduceAdd, Nat.reduceLeDiff, Nat.reduceBEq, lk59, putPs, HE, HD, slD, slE, goC, dyC, spV, spC, List.cons_append, List.nil_append, w7]
          refine aops_at (hc1) rfl rfl (by first | exact wk_refls _ | (repeat constructor)) ?_
          simp (maxSteps := 2000000) only [go_sem, reduceIte, Nat.reduceEqDiff, Nat.reduceAdd, Nat.reduceLeDiff, Nat.reduceBEq, lk59, v1, bench_len, r1, r1']
          refine aops_pure' (hp) rfl rfl (by first | exact wk_refls _ | (repeat constructor)) ?_
          simp (maxSteps := 2000000) only [go_sem, reduceIte, Nat.reduceEqDiff, Nat.reduceAdd, Nat.reduceBEq, lk59, hq]
          refine aops_pure' (hw) rfl rfl (by first | exact wk_refls _ | (repeat constructor)) ?_
          simp (maxSteps := 2000000) only [go_sem, reduceIte, Nat.reduceEqDiff, lk59, hq, hx1', w7]
          refine ⟨{ slots := [], heap := HE w l f q A Bd A3 B3 (gD l i) i (decide (q ≤ (gD l i).f)) .busy (false), marks := [] }, ent_weaken [.cells (spC x y), .cells (spC ((x + ga : Nat) : Int) ((y + gb : Nat) : Int))] (by simp only [HE, HD, goC, hq, decide_true]; rfl) rfl (Nat.le_refl _) (HE_low _ _ _ _ _ _ _ _ _ _ _ _ _) rfl trivial, _, rfl, rfl, by simp only [HE, HD, goC, hq, decide_true]; first | rfl | exact ⟨rfl, rfl⟩⟩
        have hx1' : ((x + ga : Nat) : Int) < 21 := by omega
        by_cases hy1 : y + gb < 21
        case neg =>
          have hy1' : ¬ ((y + gb : Nat) : Int) < 21 := by omega
          rw [if_neg (fun h => hy1 h.2.2)]
          rw [Bool.false_and]
          refine yc_ofC (bad := []) (kp := kp59) (X := tx) mo rfl hA3 hB3 rfl rfl (by kernel_rfl) (by kernel_rfl) (fun lp2 => ?_)
          simp (maxSteps := 2000000) only [go_sem, reduceIte, Nat.reduceEqDiff, Nat.reduceAdd, lk59, putPs, HE, HD, slD, slE, goC, dyC, spV, spC, List.cons_append, List.nil_append]
          refine ⟨_, rfl, ?_⟩
          simp (maxSteps := 2000000) only [go_sem, reduceIte, Nat.reduceEqDiff, Nat.reduceAdd, Nat.reduceLeDiff, Nat.reduceBEq, lk59, putPs, HE, HD, slD, slE, goC, dyC, spV, spC, List.cons_append, List.nil_append, w7]
          refine aops_at (hc1) rfl rfl (by first | exact wk_refls _ | (repeat constructor)) ?_
          simp (maxSteps := 2000000) only [go_sem, reduceIte, Nat.reduceEqDiff, Nat.reduceAdd, Nat.reduceLeDiff, Nat.reduceBEq, lk59, v1, bench_len, r1, r1']
          refine aops_pure' (hp) rfl rfl (by first | exact wk_refls _ | (repeat constructor)) ?_
          simp (maxSteps := 2000000) only [go_sem, reduceIte, Nat.reduceEqDiff, Nat.reduceAdd, Nat.reduceBEq, lk59, hq]
          refine aops_pure' (hw) rfl rfl (by first | exact wk_refls _ | (repeat constructor)) ?_
          simp (maxSteps := 2000000) only [go_sem, reduceIte, Nat.reduceEqDiff, lk59, hq, hx1', hy1', w7]
          refine ⟨{ slots := [], heap := HE w l f q A Bd A3 B3 (gD l i) i (decide (q ≤ (gD l i).f)) .busy (false), marks := [] }, ent_weaken [.cells (spC x y), .cells (spC ((x + ga : Nat) : Int) ((y + gb : Nat) : Int))] (by simp only [HE, HD, goC, hq, decide_true]; rfl) rfl (Nat.le_refl _) (HE_low _ _ _ _ _ _ _ _ _ _ _ _ _) rfl trivial, _, rfl, rfl, by simp only [HE, HD, goC, hq, decide_true]; first | rfl | exact ⟨rfl, rfl⟩⟩
        have hy1' : ((y + gb : Nat) : Int) < 21 := by omega
        rw [if_pos ⟨hq, hx1, hy1⟩]
        rw [Bool.false_and, Bool.false_and]
        have hc2' := hc2 hx1 hy1 false
        simp (maxSteps := 2000000) only [go_sem, lk59, hq] at hc2'
        have v2' := v2 hx1 hy1
        have k2' := k2 hx1 hy1
        have r2 : decide (1 + m + 1 ≤ 3971) = true := by simp; omega
        have r2' : decide (1 + m ≤ 3970) = true := by simp; omega
        refine yc_ofC (bad := []) (kp := kp59) (X := tx) mo rfl hA3 hB3 rfl rfl (by kernel_rfl) (by kernel_rfl) (fun lp2 => ?_)
        simp (maxSteps := 2000000) only [go_sem, reduceIte, Nat.reduceEqDiff, Nat.reduceAdd, lk59, putPs, HE, HD, slD, slE, goC, dyC, spV, spC, List.cons_append, List.nil_append]
        refine ⟨_, rfl, ?_⟩
        simp (maxSteps := 2000000) only [go_sem, reduceIte, Nat.reduceEqDiff, Nat.reduceAdd, Nat.reduceLeDiff, Nat.reduceBEq, lk59, putPs, HE, HD, slD, slE, goC, dyC, spV, spC, List.cons_append, List.nil_append, w7]
        refine aops_at (hc1) rfl rfl (by first | exact wk_refls _ | (repeat constructor)) ?_
        simp (maxSteps := 2000000) only [go_sem, reduceIte, Nat.reduceEqDiff, Nat.reduceAdd, Nat.reduceLeDiff, Nat.reduceBEq, lk59, v1, bench_len, r1, r1']
        refine aops_pure' (hp) rfl rfl (by first | exact wk_refls _ | (repeat constructor)) ?_
        simp (maxSteps := 2000000) only [go_sem, reduceIte, Nat.reduceEqDiff, Nat.reduceAdd, Nat.reduceBEq, lk59, hq]
        refine aops_pure' (hw) rfl rfl (by first | exact wk_refls _ | (repeat constructor)) ?_
        simp (maxSteps := 2000000) only [go_sem, reduceIte, Nat.reduceEqDiff, Nat.reduceAdd, lk59, hq, hx1', hy1', w7]
        refine ⟨{ slots := [], heap := HE w l f q A Bd A3 B3 (gD l i) i (decide (q ≤ (gD l i).f)) .busy (false), marks := [] }, ent_weaken [.cells (spC x y), .cells (spC ((x + ga : Nat) : Int) ((y + gb : Nat) : Int))] (by simp only [HE, HD, goC, hq, decide_true]; rfl) rfl (Nat.le_refl _) (HE_low _ _ _ _ _ _ _ _ _ _ _ _ _) rfl trivial, _, rfl, rfl, by simp only [HE, HD, goC, hq, decide_true]; first | rfl | exact ⟨rfl, rfl⟩⟩
      | true =>
        by_cases c1 : f k ≤ f kz
        case neg =>
          by_cases hq : q ≤ (gD l i).f
          case neg =>
            rw [if_neg (fun h => hq h.1)]
            rw [show (true && decide (f k ≤ f kz)) = false by simp; omega]
            refine yc_ofC (bad := []) (kp := kp59) (X := tx) mo rfl hA3 hB3 rfl rfl (by kernel_rfl) (by kernel_rfl) (fun lp2 => ?_)
            simp (maxSteps := 2000000) only [go_sem, reduceIte, Nat.reduceEqDiff, Nat.reduceAdd, lk59, putPs, HE, HD, slD, slE, goC, dyC, spV, spC, List.cons_append, List.nil_append]
            refine ⟨_, rfl, ?_⟩
            simp (maxSteps := 2000000) only [go_sem, reduceIte, Nat.reduceEqDiff, Nat.reduceAdd, Nat.reduceLeDiff, Nat.reduceBEq, lk59, putPs, HE, HD, slD, slE, goC, dyC, spV, spC, List.cons_append, List.nil_append, w7]
            refine aops_at (hc1) rfl rfl (by first | exact wk_refls _ | (repeat constructor)) ?_
            simp (maxSteps := 2000000) only [go_sem, reduceIte, Nat.reduceEqDiff, Nat.reduceAdd, Nat.reduceLeDiff, Nat.reduceBEq, lk59, v1, bench_len, r1, r1']
            refine aops_at (hc0) rfl rfl (by first | exact wk_refls _ | (repeat constructor)) ?_
            simp (maxSteps := 2000000) only [go_sem, reduceIte, Nat.reduceEqDiff, Nat.reduceAdd, Nat.reduceLeDiff, Nat.reduceBEq, lk59, v0, bench_len, r0, r0', c1]
            refine aops_pure' (hp) rfl rfl (by first | exact wk_refls _ | (repeat constructor)) ?_
            simp (maxSteps := 2000000) only [go_sem, reduceIte, Nat.reduceEqDiff, Nat.reduceAdd, Nat.reduceBEq, lk59, hq]
            refine ⟨{ slots := [], heap := HE w l f q A Bd A3 B3 (gD l i) i (decide (q ≤ (gD l i).f)) .busy (false), marks := [] }, ent_weaken [.cells (spC x y), .cells (spC ((x + ga : Nat) : Int) ((y + gb : Nat) : Int))] (by simp only [HE, HD, goC, hq, decide_false]; rfl) rfl (Nat.le_refl _) (HE_low _ _ _ _ _ _ _ _ _ _ _ _ _) rfl trivial, _, rfl, rfl, by simp only [HE, HD, goC, hq, decide_false]; first | rfl | exact ⟨rfl, rfl⟩⟩
          by_cases hx1 : x + ga < 21
          case neg =>
            have hx1' : ¬ ((x + ga : Nat) : Int) < 21 := by omega
            rw [if_neg (fun h => hx1 h.2.1)]
            rw [show (true && decide (f k ≤ f kz)) = false by simp; omega]
            refine yc_ofC (bad := []) (kp := kp59) (X := tx) mo rfl hA3 hB3 rfl rfl (by kernel_rfl) (by kernel_rfl) (fun lp2 => ?_)
            simp (maxSteps := 2000000) only [go_sem, reduceIte, Nat.reduceEqDiff, Nat.reduceAdd, lk59, putPs, HE, HD, slD, slE, goC, dyC, spV, spC, List.cons_append, List.nil_append]
            refine ⟨_, rfl, ?_⟩
            simp (maxSteps := 2000000) only [go_sem, reduceIte, Nat.reduceEqDiff, Nat.reduceAdd, Nat.reduceLeDiff, Nat.reduceBEq, lk59, putPs, HE, HD, slD, slE, goC, dyC, spV, spC, List.cons_append, List.nil_append, w7]
            refine aops_at (hc1) rfl rfl (by first | exact wk_refls _ | (repeat constructor)) ?_
            simp (maxSteps := 2000000) only [go_sem, reduceIte, Nat.reduceEqDiff, Nat.reduceAdd, Nat.reduceLeDiff, Nat.reduceBEq, lk59, v1, bench_len, r1, r1']
            refine aops_at (hc0) rfl rfl (by first | exact wk_refls _ | (repeat constructor)) ?_
            simp (maxSteps := 2000000) only [go_sem, reduceIte, Nat.reduceEqDiff, Nat.reduceAdd, Nat.reduceLeDiff, Nat.reduceBEq, lk59, v0, bench_len, r0, r0', c1]
            refine aops_pure' (hp) rfl rfl (by first | exact wk_refls _ | (repeat constructor)) ?_
            simp (maxSteps := 2000000) only [go_sem, reduceIte, Nat.reduceEqDiff, Nat.reduceAdd, Nat.reduceBEq, lk59, hq]
            refine aops_pure' (hw) rfl rfl (by first | exact wk_refls _ | (repeat constructor)) ?_
            simp (maxSteps := 2000000) only [go_sem, reduceIte, Nat.reduceEqDiff, lk59, hq, hx1', w7]
            refine ⟨{ slots := [], heap := HE w l f q A Bd A3 B3 (gD l i) i (decide (q ≤ (gD l i).f)) .busy (false), marks := [] }, ent_weaken [.cells (spC x y), .cells (spC ((x + ga : Nat) : Int) ((y + gb : Nat) : Int))] (by simp only [HE, HD, goC, hq, decide_true]; rfl) rfl (Nat.le_refl _) (HE_low _ _ _ _ _ _ _ _ _ _ _ _ _) rfl trivial, _, rfl, rfl, by simp only [HE, HD, goC, hq, decide_true]; first | rfl | exact ⟨rfl, rfl⟩⟩
          have hx1' : ((x + ga : Nat) : Int) < 21 := by omega
          by_cases hy1 : y + gb < 21
          case neg =>
            have hy1' : ¬ ((y + gb : Nat) : Int) < 21 := by omega
            rw [if_neg (fun h => hy1 h.2.2)]
            rw [show (true && decide (f k ≤ f kz)) = false by simp; omega]
            refine yc_ofC (bad := []) (kp := kp59) (X := tx) mo rfl hA3 hB3 rfl rfl (by kernel_rfl) (by kernel_rfl) (fun lp2 => ?_)
            simp (maxSteps := 2000000) only [go_sem, reduceIte, Nat.reduceEqDiff, Nat.reduceAdd, lk59, putPs, HE, HD, slD, slE, goC, dyC, spV, spC, List.cons_append, List.nil_append]
            refine ⟨_, rfl, ?_⟩
            simp (maxSteps := 2000000) only [go_sem, reduceIte, Nat.reduceEqDiff, Nat.reduceAdd, Nat.reduceLeDiff, Nat.reduceBEq, lk59, putPs, HE, HD, slD, slE, goC, dyC, spV, spC, List.cons_append, List.nil_append, w7]
            refine aops_at (hc1) rfl rfl (by first | exact wk_refls _ | (repeat constructor)) ?_
            simp (maxSteps := 2000000) only [go_sem, reduceIte, Nat.reduceEqDiff, Nat.reduceAdd, Nat.reduceLeDiff, Nat.reduceBEq, lk59, v1, bench_len, r1, r1']
            refine aops_at (hc0) rfl rfl (by first | exact wk_refls _ | (repeat constructor)) ?_
            simp (maxSteps := 2000000) only [go_sem, reduceIte, Nat.reduceEqDiff, Nat.reduceAdd, Nat.reduceLeDiff, Nat.reduceBEq, lk59, v0, bench_len, r0, r0', c1]
            refine aops_pure' (hp) rfl rfl (by first | exact wk_refls _ | (repeat constructor)) ?_
            simp (maxSteps := 2000000) only [go_sem, reduceIte, Nat.reduceEqDiff, Nat.reduceAdd, Nat.reduceBEq, lk59, hq]
            refine aops_pure' (hw) rfl rfl (by first | exact wk_refls _ | (repeat constructor)) ?_
            simp (maxSteps := 2000000) only [go_sem, reduceIte, Nat.reduceEqDiff, lk59, hq, hx1', hy1', w7]
            refine ⟨{ slots := [], heap := HE w l f q A Bd A3 B3 (gD l i) i (decide (q ≤ (gD l i).f)) .busy (false), marks := [] }, ent_weaken [.cells (spC x y), .cells (spC ((x + ga : Nat) : Int) ((y + gb : Nat) : Int))] (by simp only [HE, HD, goC, hq, decide_true]; rfl) rfl (Nat.le_refl _) (HE_low _ _ _ _ _ _ _ _ _ _ _ _ _) rfl trivial, _, rfl, rfl, by simp only [HE, HD, goC, hq, decide_true]; first | rfl | exact ⟨rfl, rfl⟩⟩
          have hy1' : ((y + gb : Nat) : Int) < 21 := by omega
          rw [if_pos ⟨hq, hx1, hy1⟩]
          rw [show (true && decide (f k ≤ f kz)) = false by simp; omega, Bool.false_and]
          have hc2' := hc2 hx1 hy1 false
          simp (maxSteps := 2000000) only [go_sem, lk59, hq] at hc2'
          have v2' := v2 hx1 hy1
          have k2' := k2 hx1 hy1
          have r2 : decide (1 + m + 1 ≤ 3971) = true := by simp; omega
          have r2' : decide (1 + m ≤ 3970) = true := by simp; omega
          refine yc_ofC (bad := []) (kp := kp59) (X := tx) mo rfl hA3 hB3 rfl rfl (by kernel_rfl) (by kernel_rfl) (fun lp2 => ?_)
          simp (maxSteps := 2000000) only [go_sem, reduceIte, Nat.reduceEqDiff, Nat.reduceAdd, lk59, putPs, HE, HD, slD, slE, goC, dyC, spV, spC, List.cons_append, List.nil_append]
          refine ⟨_, rfl, ?_⟩
          simp (maxSteps := 2000000) only [go_sem, reduceIte, Nat.reduceEqDiff, Nat.reduceAdd, Nat.reduceLeDiff, Nat.reduceBEq, lk59, putPs, HE, HD, slD, slE, goC, dyC, spV, spC, List.cons_append, List.nil_append, w7]
          refine aops_at (hc1) rfl rfl (by first | exact wk_refls _ | (repeat constructor)) ?_
          simp (maxSteps := 2000000) only [go_sem, reduceIte, Nat.reduceEqDiff, Nat.reduceAdd, Nat.reduceLeDiff, Nat.reduceBEq, lk59, v1, bench_len, r1, r1']
          refine aops_at (hc0) rfl rfl (by first | exact wk_refls _ | (repeat constructor)) ?_
          simp (maxSteps := 2000000) only [go_sem, reduceIte, Nat.reduceEqDiff, Nat.reduceAdd, Nat.reduceLeDiff, Nat.reduceBEq, lk59, v0, bench_len, r0, r0', c1]
          refine aops_pure' (hp) rfl rfl (by first | exact wk_refls _ | (repeat constructor)) ?_
          simp (maxSteps := 2000000) only [go_sem, reduceIte, Nat.reduceEqDiff, Nat.reduceAdd, Nat.reduceBEq, lk59, hq]
          refine aops_pure' (hw) rfl rfl (by first | exact wk_refls _ | (repeat constructor)) ?_
          simp (maxSteps := 2000000) only [go_sem, reduceIte, Nat.reduceEqDiff, Nat.reduceAdd, lk59, hq, hx1', hy1', w7]
          refine ⟨{ slots := [], heap := HE w l f q A Bd A3 B3 (gD l i) i (decide (q ≤ (gD l i).f)) .busy (false), marks := [] }, ent_weaken [.cells (spC x y), .cells (spC ((x + ga : Nat) : Int) ((y + gb : Nat) : Int))] (by simp only [HE, HD, goC, hq, decide_true]; rfl) rfl (Nat.le_refl _) (HE_low _ _ _ _ _ _ _ _ _ _ _ _ _) rfl trivial, _, rfl, rfl, by simp only [HE, HD, goC, hq, decide_true]; first | rfl | exact ⟨rfl, rfl⟩⟩
        by_cases hq : q ≤ (gD l i).f
        case neg =>
          rw [if_neg (fun h => hq h.1)]
          rw [show (true && decide (f k ≤ f kz)) = true by simp [c1]]
          refine yc_ofC (bad := []) (kp := kp59) (X := tx) mo rfl hA3 hB3 rfl rfl (by kernel_rfl) (by kernel_rfl) (fun lp2 => ?_)
          simp (maxSteps := 2000000) only [go_sem, reduceIte, Nat.reduceEqDiff, Nat.reduceAdd, lk59, putPs, HE, HD, slD, slE, goC, dyC, spV, spC, List.cons_append, List.nil_append]
          refine ⟨_, rfl, ?_⟩
          simp (maxSteps := 2000000) only [go_sem, reduceIte, Nat.reduceEqDiff, Nat.reduceAdd, Nat.reduceLeDiff, Nat.reduceBEq, lk59, putPs, HE, HD, slD, slE, goC, dyC, spV, spC, List.cons_append, List.nil_append, w7]
          refine aops_at (hc1) rfl rfl (by first | exact wk_refls _ | (repeat constructor)) ?_
          simp (maxSteps := 2000000) only [go_sem, reduceIte, Nat.reduceEqDiff, Nat.reduceAdd, Nat.reduceLeDiff, Nat.reduceBEq, lk59, v1, bench_len, r1, r1']
          refine aops_at (hc0) rfl rfl (by first | exact wk_refls _ | (repeat constructor)) ?_
          simp (maxSteps := 2000000) only [go_sem, reduceIte, Nat.reduceEqDiff, Nat.reduceAdd, Nat.reduceLeDiff, Nat.reduceBEq, lk59, v0, bench_len, r0, r0', c1]
          refine aops_pure' (hp) rfl rfl (by first | exact wk_refls _ | (repeat constructor)) ?_
          simp (maxSteps := 2000000) only [go_sem, reduceIte, Nat.reduceEqDiff, Nat.reduceAdd, Nat.reduceBEq, lk59, hq]
          refine ⟨{ slots := [], heap := HE w l f q A Bd A3 B3 (gD l i) i (decide (q ≤ (gD l i).f)) .busy (true), marks := [] }, ent_weaken [.cells (spC x y), .cells (spC ((x + ga : Nat) : Int) ((y + gb : Nat) : Int))] (by simp only [HE, HD, goC, hq, decide_false]; rfl) rfl (Nat.le_refl _) (HE_low _ _ _ _ _ _ _ _ _ _ _ _ _) rfl trivial, _, rfl, rfl, by simp only [HE, HD, goC, hq, decide_false]; first | rfl | exact ⟨rfl, rfl⟩⟩
        by_cases hx1 : x + ga < 21
        case neg =>
          have hx1' : ¬ ((x + ga : Nat) : Int) < 21 := by omega
          rw [if_neg (fun h => hx1 h.2.1)]
          rw [show (true && decide (f k ≤ f kz)) = true by simp [c1]]
          refine yc_ofC (bad := []) (kp := kp59) (X := tx) mo rfl hA3 hB3 rfl rfl (by kernel_rfl) (by kernel_rfl) (fun lp2 => ?_)
          simp (maxSteps := 2000000) only [go_sem, reduceIte, Nat.reduceEqDiff, Nat.reduceAdd, lk59, putPs, HE, HD, slD, slE, goC, dyC, spV, spC, List.cons_append, List.nil_append]
          refine ⟨_, rfl, ?_⟩
          simp (maxSteps := 2000000) only [go_sem, reduceIte, Nat.reduceEqDiff, Nat.reduceAdd, Nat.reduceLeDiff, Nat.reduceBEq, lk59, putPs, HE, HD, slD, slE, goC, dyC, spV, spC, List.cons_append, List.nil_append, w7]
          refine aops_at (hc1) rfl rfl (by first | exact wk_refls _ | (repeat constructor)) ?_
          simp (maxSteps := 2000000) only [go_sem, reduceIte, Nat.reduceEqDiff, Nat.reduceAdd, Nat.reduceLeDiff, Nat.reduceBEq, lk59, v1, bench_len, r1, r1']
          refine aops_at (hc0) rfl rfl (by first | exact wk_refls _ | (repeat constructor)) ?_
          simp (maxSteps := 2000000) only [go_sem, reduceIte, Nat.reduceEqDiff, Nat.reduceAdd, Nat.reduceLeDiff, Nat.reduceBEq, lk59, v0, bench_len, r0, r0', c1]
          refine aops_pure' (hp) rfl rfl (by first | exact wk_refls _ | (repeat constructor)) ?_
          simp (maxSteps := 2000000) only [go_sem, reduceIte, Nat.reduceEqDiff, Nat.reduceAdd, Nat.reduceBEq, lk59, hq]
          refine aops_pure' (hw) rfl rfl (by first | exact wk_refls _ | (repeat constructor)) ?_
          simp (maxSteps := 2000000) only [go_sem, reduceIte, Nat.reduceEqDiff, lk59, hq, hx1', w7]
          refine ⟨{ slots := [], heap := HE w l f q A Bd A3 B3 (gD l i) i (decide (q ≤ (gD l i).f)) .busy (true), marks := [] }, ent_weaken [.cells (spC x y), .cells (spC ((x + ga : Nat) : Int) ((y + gb : Nat) : Int))] (by simp only [HE, HD, goC, hq, decide_true]; rfl) rfl (Nat.le_refl _) (HE_low _ _ _ _ _ _ _ _ _ _ _ _ _) rfl trivial, _, rfl, rfl, by simp only [HE, HD, goC, hq, decide_true]; first | rfl | exact ⟨rfl, rfl⟩⟩
        have hx1' : ((x + ga : Nat) : Int) < 21 := by omega
        by_cases hy1 : y + gb < 21
        case neg =>
          have hy1' : ¬ ((y + gb : Nat) : Int) < 21 := by omega
          rw [if_neg (fun h => hy1 h.2.2)]
          rw [show (true && decide (f k ≤ f kz)) = true by simp [c1]]
          refine yc_ofC (bad := []) (kp := kp59) (X := tx) mo rfl hA3 hB3 rfl rfl (by kernel_rfl) (by kernel_rfl) (fun lp2 => ?_)
          simp (maxSteps := 2000000) only [go_sem, reduceIte, Nat.reduceEqDiff, Nat.reduceAdd, lk59, putPs, HE, HD, slD, slE, goC, dyC, spV, spC, List.cons_append, List.nil_append]
          refine ⟨_, rfl, ?_⟩
          simp (maxSteps := 2000000) only [go_sem, reduceIte, Nat.reduceEqDiff, Nat.reduceAdd, Nat.reduceLeDiff, Nat.reduceBEq, lk59, putPs, HE, HD, slD, slE, goC, dyC, spV, spC, List.cons_append, List.nil_append, w7]
          refine aops_at (hc1) rfl rfl (by first | exact wk_refls _ | (repeat constructor)) ?_
          simp (maxSteps := 2000000) only [go_sem, reduceIte, Nat.reduceEqDiff, Nat.reduceAdd, Nat.reduceLeDiff, Nat.reduceBEq, lk59, v1, bench_len, r1, r1']
          refine aops_at (hc0) rfl rfl (by first | exact wk_refls _ | (repeat constructor)) ?_
          simp (maxSteps := 2000000) only [go_sem, reduceIte, Nat.reduceEqDiff, Nat.reduceAdd, Nat.reduceLeDiff, Nat.reduceBEq, lk59, v0, bench_len, r0, r0', c1]
          refine aops_pure' (hp) rfl rfl (by first | exact wk_refls _ | (repeat constructor)) ?_
          simp (maxSteps := 2000000) only [go_sem, reduceIte, Nat.reduceEqDiff, Nat.reduceAdd, Nat.reduceBEq, lk59, hq]
          refine aops_pure' (hw) rfl rfl (by first | exact wk_refls _ | (repeat constructor)) ?_
          simp (maxSteps := 2000000) only [go_sem, reduceIte, Nat.reduceEqDiff, lk59, hq, hx1', hy1', w7]
          refine ⟨{ slots := [], heap := HE w l f q A Bd A3 B3 (gD l i) i (decide (q ≤ (gD l i).f)) .busy (true), marks := [] }, ent_weaken [.cells (spC x y), .cells (spC ((x + ga : Nat) : Int) ((y + gb : Nat) : Int))] (by simp only [HE, HD, goC, hq, decide_true]; rfl) rfl (Nat.le_refl _) (HE_low _ _ _ _ _ _ _ _ _ _ _ _ _) rfl trivial, _, rfl, rfl, by simp only [HE, HD, goC, hq, decide_true]; first | rfl | exact ⟨rfl, rfl⟩⟩
        have hy1' : ((y + gb : Nat) : Int) < 21 := by omega
        rw [if_pos ⟨hq, hx1, hy1⟩]
        rw [show (true && decide (f k ≤ f kz)) = true by simp [c1], Bool.true_and]
        have hc2' := hc2 hx1 hy1 true
        simp (maxSteps := 2000000) only [go_sem, lk59, hq] at hc2'
        have v2' := v2 hx1 hy1
        have k2' := k2 hx1 hy1
        have r2 : decide (1 + m + 1 ≤ 3971) = true := by simp; omega
        have r2' : decide (1 + m ≤ 3970) = true := by simp; omega
        refine yc_ofC (bad := []) (kp := kp59) (X := tx) mo rfl hA3 hB3 rfl rfl (by kernel_rfl) (by kernel_rfl) (fun lp2 => ?_)
        simp (maxSteps := 2000000) only [go_sem, reduceIte, Nat.reduceEqDiff, Nat.reduceAdd, lk59, putPs, HE, HD, slD, slE, goC, dyC, spV, spC, List.cons_append, List.nil_append]
        refine ⟨_, rfl, ?_⟩
        simp (maxSteps := 2000000) only [go_sem, reduceIte, Nat.reduceEqDiff, Nat.reduceAdd, Nat.reduceLeDiff, Nat.reduceBEq, lk59, putPs, HE, HD, slD, slE, goC, dyC, spV, spC, List.cons_append, List.nil_append, w7]
        refine aops_at (hc1) rfl rfl (by first | exact wk_refls _ | (repeat constructor)) ?_
        simp (maxSteps := 2000000) only [go_sem, reduceIte, Nat.reduceEqDiff, Nat.reduceAdd, Nat.reduceLeDiff, Nat.reduceBEq, lk59, v1, bench_len, r1, r1']
        refine aops_at (hc0) rfl rfl (by first | exact wk_refls _ | (repeat constructor)) ?_
        simp (maxSteps := 2000000) only [go_sem, reduceIte, Nat.reduceEqDiff, Nat.reduceAdd, Nat.reduceLeDiff, Nat.reduceBEq, lk59, v0, bench_len, r0, r0', c1]
        refine aops_pure' (hp) rfl rfl (by first | exact wk_refls _ | (repeat constructor)) ?_
        simp (maxSteps := 2000000) only [go_sem, reduceIte, Nat.reduceEqDiff, Nat.reduceAdd, Nat.reduceBEq, lk59, hq]
        refine aops_pure' (hw) rfl rfl (by first | exact wk_refls _ | (repeat constructor)) ?_
        simp (maxSteps := 2000000) only [go_sem, reduceIte, Nat.reduceEqDiff, Nat.reduceAdd, Nat.reduceLeDiff, Nat.reduceBEq, lk59, hq, hx1', hy1', w7]
        refine dops_at (hc2') rfl rfl (by first | exact wk_refls _ | (repeat constructor)) (by kernel_rfl) ?_
        simp (maxSteps := 2000000) only [go_sem, reduceIte, Nat.reduceEqDiff, Nat.reduceAdd, Nat.reduceLeDiff, Nat.reduceBEq, lk59, v2', bench_len, r2, r2', w9]
        refine ⟨{ slots := [], heap := HE w l f q A Bd A3 B3 (gD l i) i (decide (q ≤ (gD l i).f)) .busy (decide (f m ≤ f k + (gD l i).p)), marks := [] }, ent_weaken [.cells (spC x y), .cells (spC ((x + ga : Nat) : Int) ((y + gb : Nat) : Int))] (by simp only [HE, HD, goC, hq, decide_true]; rfl) rfl (Nat.le_refl _) (HE_low _ _ _ _ _ _ _ _ _ _ _ _ _) rfl trivial, _, rfl, rfl, by simp only [HE, HD, goC, hq, decide_true]; first | rfl | exact ⟨rfl, rfl⟩⟩
    · rintro _ H2 rfl
      refine ⟨fun h => (by cases h), rfl, ?_⟩
      simp (maxSteps := 2000000) only [go_sem, Nat.reduceAdd, lk59, HE, HD, slD, slE, goC, dyC, List.cons_append, List.nil_append]
      refine ⟨{ slots := [], heap := HD w l f q A Bd .busy (runB (stepR (gD l i) q i f) b0 441) ++ [.cells (dyC (gD l i))], marks := [] }, ent_weaken [.cells (goC (gD l i) i (decide (q ≤ (gD l i).f))), .lp { state := .exhausted, pend := none, slots := slE, nt := 73, ps := #[24], assign := A3, body := B3, D := 6 }] rfl rfl (Nat.le_refl _) (HDd_low _ _ _ _ _ _ _ _ _) rfl trivial, _, rfl, rfl, rfl⟩
  · rintro _ H2 rfl
    refine ⟨fun h => (by cases h), rfl, rfl, ?_⟩
    simp (maxSteps := 2000000) only [go_sem, reduceIte, Nat.reduceEqDiff, Nat.reduceAdd, lk59, HD, slD]
    all_goals first | exact .refl _ | exact ⟨.refl _, .refl _⟩ | exact ⟨.refl _, .refl _, .refl _⟩ | exact ⟨.refl _, _, rfl⟩ | exact ⟨_, rfl⟩ | exact ⟨.refl _, [], by simp⟩ | exact ⟨[], by simp⟩
end Go.Proofs.Ytkbnmanfoejoiaa
