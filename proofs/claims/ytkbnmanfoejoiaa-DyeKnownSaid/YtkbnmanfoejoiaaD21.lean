/- Dyes: CheckTable. -/
import Derived.Test.YtkbnmanfoejoiaaD19
import Derived.Test.YtkbnmanfoejoiaaD10
set_option linter.unusedSimpArgs false
set_option linter.unusedVariables false
set_option maxRecDepth 100000
namespace Go.Proofs.Ytkbnmanfoejoiaa
open Go Go.Abs Go.Proofs
def kp30 : List (Nat × List Nat) := [(0, [0, 2, 4]), (1, [0, 2, 4, 8]), (2, [0, 2, 4, 8, 17]), (3, [6, 7]), (4, [0, 2, 4, 21]), (5, [6, 7]), (6, [0, 2, 4, 30]), (7, [6, 7]), (8, [2, 4, 9]), (9, [4, 9, 41, 42, 43]), (10, [4, 9, 41, 42, 43, 44]), (11, [4, 9, 10, 11, 41, 42, 43]), (12, [4, 9, 41, 42, 43]), (13, [4, 9, 41, 42, 43]), (14, [4, 9, 67]), (15, [6, 7]), (16, [13]), (17, [6, 7])]
theorem lk30 : lookK kp30 0 = some [0, 2, 4] ∧ lookK kp30 1 = some [0, 2, 4, 8] ∧ lookK kp30 2 = some [0, 2, 4, 8, 17] ∧ lookK kp30 3 = some [6, 7] ∧ lookK kp30 4 = some [0, 2, 4, 21] ∧ lookK kp30 5 = some [6, 7] ∧ lookK kp30 6 = some [0, 2, 4, 30] ∧ lookK kp30 7 = some [6, 7] ∧ lookK kp30 8 = some [2, 4, 9] ∧ lookK kp30 9 = some [4, 9, 41, 42, 43] ∧ lookK kp30 10 = some [4, 9, 41, 42, 43, 44] ∧ lookK kp30 11 = some [4, 9, 10, 11, 41, 42, 43] ∧ lookK kp30 12 = some [4, 9, 41, 42, 43] ∧ lookK kp30 13 = some [4, 9, 41, 42, 43] ∧ lookK kp30 14 = some [4, 9, 67] ∧ lookK kp30 15 = some [6, 7] ∧ lookK kp30 16 = some [13] ∧ lookK kp30 17 = some [6, 7] := ⟨rfl, rfl, rfl, rfl, rfl, rfl, rfl, rfl, rfl, rfl, rfl, rfl, rfl, rfl, rfl, rfl, rfl, rfl⟩

def ctabE (l : List Dy) (w : Wn) (t : List Int) : Int :=
  if okWn l w = 0 then
    if t.length = (l.length + 1) * 441 then
      if mnI t (t.length - 1) < 0 ∨ MX < mxI t (t.length - 1) then 3
      else if rightI l w.f (gI t) l.length then 0 else 14
    else 15
  else okWn l w
def ctabN (l : List Dy) (w : Wn) (t : List Int) : Int := if ctabE l w t = 0 then boundF l.length w (gI t) else 0
theorem gI_bd {t : List Int} (h : ¬ (mnI t (t.length - 1) < 0 ∨ MX < mxI t (t.length - 1))) : Bd (gI t) := fun j => by
  by_cases hj : j < t.length
  · have h1 := mnI_le (l := t) (n := t.length - 1) (j := j) (by omega)
    have h2 := mxI_le (l := t) (n := t.length - 1) (j := j) (by omega)
    omega
  · have e : gI t j = 0 := by
      unfold gI List.getD
      rw [List.getElem?_eq_none (by omega)]; rfl
    rw [e]; unfold MX; omega
def cutF (t : List Int) (k j : Nat) : Int := if j < k then gI t j else 0
theorem cutF_succ (t : List Int) (k : Nat) : upd (cutF t k) k (gI t k) = cutF t (k + 1) := funext fun j => by
  unfold upd cutF
  by_cases e : j = k
  · subst e; rw [if_pos rfl, if_pos (by omega)]
  · rw [if_neg e]
    by_cases h : j < k
    · rw [if_pos h, if_pos (by omega)]
    · rw [if_neg h, if_neg (by omega)]
theorem cutF_end (t : List Int) : cutF t t.length = gI t := funext fun j => by
  unfold cutF
  by_cases h : j < t.length
  · rw [if_pos h]
  · rw [if_neg h]
    unfold gI List.getD
    rw [List.getElem?_eq_none (by omega)]; rfl
theorem ix_div {k : Nat} (hk : k ≤ 1000000000) : wr .i64 (Int.tdiv (k : Int) 441) = ((k / 441 : Nat) : Int) ∧ wr .i64 (Int.tdiv (k : Int) 21) = ((k / 21 : Nat) : Int) := by
  have e1 : Int.tdiv (k : Int) 441 = ((k / 441 : Nat) : Int) := rfl
  have e2 : Int.tdiv (k : Int) 21 = ((k / 21 : Nat) : Int) := rfl
  rw [e1, e2]
  exact ⟨wr_in (by omega), wr_in (by omega)⟩
theorem best_boundw {w : Wn} (hw : OkW w) {f : Nat → Int} (hB : Bd f) (n : Nat) : bestC w f n = boundF n w f := best_bound hw hB n
set_option maxHeartbeats 4000000 in
theorem checktable30 (l : List Dy) (w : Wn) (t : List Int) : Pure Try.prog 30 [dys l, wnV w, ints t] (.tup [I (ctabN l w t), I (ctabE l w t)]) := by
  refine pure_wkE (bad := []) (kp := kp30) (X := tx) (nt := 75) (rs := [.tmp 6, .tmp 7]) Try.func30 rfl rfl rfl rfl mo (by kernel_rfl) rfl rfl (fun hf => ?_)
  have hw := wanted43 l w
  unfold wnV wnC at hw
  simp (maxSteps := 2000000) only [go_sem, reduceIte, Nat.reduceEqDiff, Nat.reduceAdd, lk30, wnV, wnC]
  refine aops_pure' (hw) rfl rfl (by first | exact wk_refls _ | (repeat constructor)) ?_
  by_cases h0 : okWn l w = 0
  case neg =>
    have e : ctabE l w t = okWn l w := by unfold ctabE; rw [if_neg h0]
    have e2 : ctabN l w t = 0 := by unfold ctabN; rw [e, if_neg h0]
    simp (maxSteps := 2000000) only [go_sem, reduceIte, Nat.reduceEqDiff, Nat.reduceAdd, lk30, h0, e, e2]
    all_goals first | exact .refl _ | exact ⟨.refl _, .refl _⟩ | exact ⟨.refl _, .refl _, .refl _⟩ | exact ⟨.refl _, _, rfl⟩ | exact ⟨_, rfl⟩ | exact ⟨.refl _, [], by simp⟩ | exact ⟨[], by simp⟩
  obtain ⟨hl, hv⟩ := (okWn_iff l w).1 h0
  have h8 := hl.n8
  have z1 : wr .i64 ((l.length : Int) + 1) = (l.length : Int) + 1 := wr_in (by omega)
  have z2 : wr .i64 (((l.length : Int) + 1) * 21) = ((l.length : Int) + 1) * 21 := wr_in (by omega)
  have z3 : wr .i64 (((l.length : Int) + 1) * 21 * 21) = (((l.length + 1) * 441 : Nat) : Int) := by rw [wr_in (by omega)]; omega
  by_cases hln : t.length = (l.length + 1) * 441
  case neg =>
    have e : ctabE l w t = 15 := by unfold ctabE; rw [if_pos h0, if_neg hln]
    have e2 : ctabN l w t = 0 := by unfold ctabN; rw [e]; rfl
    have hln' : ¬ (t.length : Int) = (((l.length + 1) * 441 : Nat) : Int) := by omega
    simp (maxSteps := 2000000) only [go_sem, reduceIte, Nat.reduceEqDiff, Nat.reduceAdd, lk30, h0, dys, ints, z1, z2, z3, hln', e, e2]
    all_goals first | exact .refl _ | exact ⟨.refl _, .refl _⟩ | exact ⟨.refl _, .refl _, .refl _⟩ | exact ⟨.refl _, _, rfl⟩ | exact ⟨_, rfl⟩ | exact ⟨.refl _, [], by simp⟩ | exact ⟨[], by simp⟩
  have hln' : (t.length : Int) = (((l.length + 1) * 441 : Nat) : Int) := by omega
  have hmn := min57 t (by omega)
  have hmx := max58 t (by omega)
  unfold ints at hmn hmx
  by_cases h1 : mnI t (t.length - 1) < 0
  · have e : ctabE l w t = 3 := by unfold ctabE; rw [if_pos h0, if_pos hln, if_pos (.inl h1)]
    have e2 : ctabN l w t = 0 := by unfold ctabN; rw [e]; rfl
    simp (maxSteps := 2000000) only [go_sem, reduceIte, Nat.reduceEqDiff, Nat.reduceAdd, lk30, h0, dys, ints, z1, z2, z3, hln']
    refine aops_pure' (hmn) rfl rfl (by first | exact wk_refls _ | (repeat constructor)) ?_
    simp (maxSteps := 2000000) only [go_sem, reduceIte, Nat.reduceEqDiff, Nat.reduceAdd, lk30, h1, e, e2]
    all_goals first | exact .refl _ | exact ⟨.refl _, .refl _⟩ | exact ⟨.refl _, .refl _, .refl _⟩ | exact ⟨.refl _, _, rfl⟩ | exact ⟨_, rfl⟩ | exact ⟨.refl _, [], by simp⟩ | exact ⟨[], by simp⟩
  by_cases h2 : MX < mxI t (t.length - 1)
  · have e : ctabE l w t = 3 := by unfold ctabE; rw [if_pos h0, if_pos hln, if_pos (.inr h2)]
    have e2 : ctabN l w t = 0 := by unfold ctabN; rw [e]; rfl
    have h2' : (1099511627776 : Int) < mxI t (t.length - 1) := h2
    simp (maxSteps := 2000000) only [go_sem, reduceIte, Nat.reduceEqDiff, Nat.reduceAdd, lk30, h0, dys, ints, z1, z2, z3, hln']
    refine aops_pure' (hmn) rfl rfl (by first | exact wk_refls _ | (repeat constructor)) ?_
    simp (maxSteps := 2000000) only [go_sem, reduceIte, Nat.reduceEqDiff, lk30, h1]
    refine aops_pure' (hmx) rfl rfl (by first | exact wk_refls _ | (repeat constructor)) ?_
    simp (maxSteps := 2000000) only [go_sem, reduceIte, Nat.reduceEqDiff, Nat.reduceAdd, lk30, h2', e, e2]
    all_goals first | exact .refl _ | exact ⟨.refl _, .refl _⟩ | exact ⟨.refl _, .refl _, .refl _⟩ | exact ⟨.refl _, _, rfl⟩ | exact ⟨_, rfl⟩ | exact ⟨.refl _, [], by simp⟩ | exact ⟨[], by simp⟩
  have h2' : ¬ (1099511627776 : Int) < mxI t (t.length - 1) := h2
  have hBd := gI_bd (t := t) (fun h => h.elim h1 h2)
  have hE : ctabE l w t = if rightI l w.f (gI t) l.length then 0 else 14 := by unfold ctabE; rw [if_pos h0, if_pos hln, if_neg (fun h => h.elim h1 h2)]
  have hb := bench51 l [.cells (wnC w)]
  have hr := right59 l w (gI t) 0 w.f hl hBd
  have hbe := best53 l w w (gI t) w.f hl hv
  rw [best_boundw hv hBd] at hbe
  simp (maxSteps := 2000000) only [go_sem, lk30, wnV, wnC, sC, dys, List.cons_append, List.nil_append] at hb hr hbe
  simp (maxSteps := 2000000) only [go_sem, reduceIte, Nat.reduceEqDiff, Nat.reduceAdd, lk30, h0, dys, ints, z1, z2, z3, hln']
  refine aops_pure' (hmn) rfl rfl (by first | exact wk_refls _ | (repeat constructor)) ?_
  simp (maxSteps := 2000000) only [go_sem, reduceIte, Nat.reduceEqDiff, lk30, h1]
  refine aops_pure' (hmx) rfl rfl (by first | exact wk_refls _ | (repeat constructor)) ?_
  simp (maxSteps := 2000000) only [go_sem, reduceIte, Nat.reduceEqDiff, Nat.reduceAdd, lk30, h2']
  refine aops_at (hb) rfl rfl (by first | exact wk_refls _ | (repeat constructor)) ?_
  simp (maxSteps := 2000000) only [go_sem, reduceIte, Nat.reduceEqDiff, lk30]
  refine goE_loop (bad := []) (kp := kp30) (fun k : Nat => { slots := [(4, .c (.ptr 0 0)), (9, .c (.ptr 1 0)), (41, ints t), (42, I t.length), (43, I k)], heap := [.cells (wnC w), .cells (benchC l (cutF t k) 0)], marks := [] }) (fun k => k ≤ t.length) (fun k => t.length - k) 0 mo (by kernel_rfl) ?_ (Nat.zero_le _) ?_
  · refine ent_weaken [] rfl rfl (Nat.zero_le _) (by simp [AB.low, bench_low, wnC, C.lowL, C.low]) rfl ?_
    simp (maxSteps := 2000000) only [go_sem, reduceIte, Nat.reduceEqDiff, Nat.reduceAdd, Nat.reduceLT, lk30, ints]
    all_goals first | exact .refl _ | exact ⟨.refl _, .refl _⟩ | exact ⟨.refl _, .refl _, .refl _⟩ | exact ⟨.refl _, _, rfl⟩ | exact ⟨_, rfl⟩ | exact ⟨.refl _, [], by simp⟩ | exact ⟨[], by simp⟩
  rintro k hk
  simp (maxSteps := 2000000) only [go_sem, reduceIte, Nat.reduceEqDiff, Nat.reduceAdd, lk30, wnC, ints]
  by_cases hlt : k < t.length
  · have hlt' : (k : Int) < t.length := by omega
    have g1 := gI_lt hlt
    have k9 : k < 3969 := by omega
    have q1 : ((k / 441 : Nat) : Int) < 9 := by omega
    have q2 : ((k / 21 % 21 : Nat) : Int) < 21 := by omega
    have q3 : ((k % 21 : Nat) : Int) < 21 := by omega
    have eo : 1 + k / 441 * 441 + k / 21 % 21 * 21 + k % 21 = 1 + k := by omega
    have m1 : t.length - (k + 1) < t.length - k := by omega
    have c1 : decide (1 + k + 1 ≤ 3971) = true := by simp; omega
    have c1' : decide (1 + k ≤ 3970) = true := by simp; omega
    have kb : k ≤ 1000000000 := by omega
    have kt : t.length ≤ 1000000000 := by omega
    have hs := fun v => bench_set (l := l) (f := cutF t k) (q := 0) (v := v) k9
    have hcu := cutF_succ t k
    have d3 : ((k / 21 : Nat) : Int).tmod 21 = ((k / 21 % 21 : Nat) : Int) := rfl
    have d4 : (k : Int).tmod 21 = ((k % 21 : Nat) : Int) := rfl
    have w7 : wr .i64 ((k : Int) + 1) = ((k + 1 : Nat) : Int) := wr_succ hlt (Nat.le_trans kt (by decide))
    obtain ⟨d1, d2⟩ := ix_div kb
    simp (maxSteps := 2000000) only [go_sem, reduceIte, Nat.reduceEqDiff, Nat.reduceAdd, Nat.reduceLeDiff, Nat.reduceBEq, Int.reduceEq, lk30, hlt', nn, g1, iD, d1, d2, d3, d4, q1, q2, q3, Int.toNat_natCast, Nat.mul_one, eo, bench_len, c1, c1', hs, hcu, w7]
    refine ⟨k + 1, hlt, m1, ?_⟩
    refine ent_weaken [] rfl rfl (Nat.zero_le _) (by simp [AB.low, bench_low, wnC, C.lowL, C.low]) rfl ?_
    simp (maxSteps := 2000000) only [go_sem, reduceIte, Nat.reduceEqDiff, Nat.reduceAdd, Nat.reduceLT, lk30, ints, wnC]
    all_goals first | exact .refl _ | exact ⟨.refl _, .refl _⟩ | exact ⟨.refl _, .refl _, .refl _⟩ | exact ⟨.refl _, _, rfl⟩ | exact ⟨_, rfl⟩ | exact ⟨.refl _, [], by simp⟩ | exact ⟨[], by simp⟩
  · have hlt' : ¬ (k : Int) < t.length := by omega
    have ek : k = t.length := by omega
    subst ek
    simp (maxSteps := 2000000) only [go_sem, reduceIte, Nat.reduceEqDiff, Nat.reduceAdd, Nat.reduceBEq, lk30, hlt', cutF_end]
    refine aops_at (hr) rfl rfl (by first | exact wk_refls _ | (repeat constructor)) ?_
    cases hri : rightI l w.f (gI t) l.length with
    | false =>
      rw [hri] at hE
      have e : ctabE l w t = 14 := hE
      have e2 : ctabN l w t = 0 := by unfold ctabN; rw [e]; rfl
      simp (maxSteps := 2000000) only [go_sem, reduceIte, Nat.reduceEqDiff, Nat.reduceAdd, lk30, e, e2]
      all_goals first | exact .refl _ | exact ⟨.refl _, .refl _⟩ | exact ⟨.refl _, .refl _, .refl _⟩ | exact ⟨.refl _, _, rfl⟩ | exact ⟨_, rfl⟩ | exact ⟨.refl _, [], by simp⟩ | exact ⟨[], by simp⟩
    | true =>
      rw [hri] at hE
      have e : ctabE l w t = 0 := hE
      have e2 : ctabN l w t = boundF l.length w (gI t) := by unfold ctabN; rw [e]; rfl
      simp (maxSteps := 2000000) only [go_sem, reduceIte, Nat.reduceEqDiff, Nat.reduceAdd, lk30]
      refine aops_at (hbe) rfl rfl (by first | exact wk_refls _ | (repeat constructor)) ?_
      simp (maxSteps := 2000000) only [go_sem, reduceIte, Nat.reduceEqDiff, Nat.reduceAdd, lk30, e, e2]
      all_goals first | exact .refl _ | exact ⟨.refl _, .refl _⟩ | exact ⟨.refl _, .refl _, .refl _⟩ | exact ⟨.refl _, _, rfl⟩ | exact ⟨_, rfl⟩ | exact ⟨.refl _, [], by simp⟩ | exact ⟨[], by simp⟩
/-- A table is right. -/
def RightP (l : List Dy) (q : Int) (f : Nat → Int) (i x y : Nat) : Prop := f (cix (i + 1) x y) ≤ f (cix i x y) ∧ (q ≤ (gD l i).f ∧ x + (gD l i).a.toNat < 21 ∧ y + (gD l i).b.toNat < 21 → f (cix (i + 1) (x + (gD l i).a.toNat) (y + (gD l i).b.toNat)) ≤ f (cix (i + 1) x y) + (gD l i).p)
theorem stepR_iff (l : List Dy) (q : Int) (i : Nat) (f : Nat → Int) (x y : Nat) (b : Bool) : stepR (gD l i) q i f x y b = true ↔ b = true ∧ RightP l q f i x y := by
  unfold stepR RightP
  by_cases h : q ≤ (gD l i).f ∧ x + (gD l i).a.toNat < 21 ∧ y + (gD l i).b.toNat < 21
  · rw [if_pos h]
    simp only [Bool.and_eq_true, decide_eq_true_eq]
    exact ⟨fun h2 => ⟨h2.1.1, h2.1.2, fun _ => h2.2⟩, fun h2 => ⟨⟨h2.1, h2.2.1⟩, h2.2.2 h⟩⟩
  · rw [if_neg h]
    simp only [Bool.and_eq_true, decide_eq_true_eq]
    exact ⟨fun h2 => ⟨h2.1, h2.2, fun h3 => absurd h3 h⟩, fun h2 => ⟨h2.1, h2.2.1⟩⟩
theorem runB_iff (l : List Dy) (q : Int) (i : Nat) (f : Nat → Int) (b : Bool) : ∀ k, runB (stepR (gD l i) q i f) b k = true ↔ b = true ∧ ∀ j, j < k → RightP l q f i (j / 21) (j % 21)
  | 0 => ⟨fun h => ⟨h, fun j hj => by omega⟩, fun h => h.1⟩
  | k + 1 => by
    rw [runB, stepR_iff, runB_iff l q i f b k]
    constructor
    · rintro ⟨⟨h1, h2⟩, h3⟩
      refine ⟨h1, fun j hj => ?_⟩
      by_cases e : j = k
      · subst e; exact h3
      · exact h2 j (by omega)
    · rintro ⟨h1, h2⟩
      exact ⟨⟨h1, fun j hj => h2 j (by omega)⟩, h2 k (by omega)⟩
theorem rightI_iff (l : List Dy) (q : Int) (f : Nat → Int) : ∀ n, rightI l q f n = true ↔ f 0 = 0 ∧ ∀ i x y, i < n → x < 21 → y < 21 → RightP l q f i x y
  | 0 => by
    rw [rightI, decide_eq_true_eq]
    exact ⟨fun h => ⟨h, fun i x y hi => by omega⟩, fun h => h.1⟩
  | n + 1 => by
    rw [rightI, runB_iff, rightI_iff l q f n]
    constructor
    · rintro ⟨⟨h1, h2⟩, h3⟩
      refine ⟨h1, fun i x y hi hx hy => ?_⟩
      by_cases e : i = n
      · subst e
        have := h3 (x * 21 + y) (by omega)
        rwa [show (x * 21 + y) / 21 = x by omega, show (x * 21 + y) % 21 = y by omega] at this
      · exact h2 i x y (by omega) hx hy
    · rintro ⟨h1, h2⟩
      exact ⟨⟨h1, fun i x y hi hx hy => h2 i x y (by omega) hx hy⟩, fun j hj => h2 n _ _ (by omega) (by omega) (by omega)⟩
theorem mn_iff {t : List Int} (h0 : 0 < t.length) : (mnI t (t.length - 1) < 0 ∨ MX < mxI t (t.length - 1)) ↔ ∃ j, j < t.length ∧ (gI t j < 0 ∨ MX < gI t j) := by
  constructor
  · rintro (h | h)
    · obtain ⟨j, hj, e⟩ := mnI_mem (l := t) (n := t.length - 1)
      exact ⟨j, by omega, .inl (by omega)⟩
    · obtain ⟨j, hj, e⟩ := mxI_mem (l := t) (n := t.length - 1)
      exact ⟨j, by omega, .inr (by omega)⟩
  · rintro ⟨j, hj, h⟩
    have h1 := mnI_le (l := t) (n := t.length - 1) (j := j) (by omega)
    have h2 := mxI_le (l := t) (n := t.length - 1) (j := j) (by omega)
    omega
end Go.Proofs.Ytkbnmanfoejoiaa
