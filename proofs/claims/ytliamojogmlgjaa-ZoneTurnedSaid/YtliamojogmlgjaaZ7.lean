/- Zones: the document's answer: doubts, spans, coated lights. -/
import Derived.Test.YtliamojogmlgjaaZ5
import Derived.Test.YtliamojogmlgjaaZ6
set_option linter.unusedSimpArgs false
set_option linter.unusedVariables false
set_option maxRecDepth 100000
namespace Go.Proofs.Ytliamojogmlgjaa
open Go Go.Abs Go.Proofs
def kp26 : List (Nat × List Nat) := [(0, [1]), (1, [3, 4]), (2, [3, 4, 5]), (3, [3, 4, 5, 14]), (4, [3, 4, 5]), (5, [3, 4, 5, 25]), (6, [2]), (7, [2])]
theorem lk26 : lookK kp26 0 = some [1] ∧ lookK kp26 1 = some [3, 4] ∧ lookK kp26 2 = some [3, 4, 5] ∧ lookK kp26 3 = some [3, 4, 5, 14] ∧ lookK kp26 4 = some [3, 4, 5] ∧ lookK kp26 5 = some [3, 4, 5, 25] ∧ lookK kp26 6 = some [2] ∧ lookK kp26 7 = some [2] := ⟨rfl, rfl, rfl, rfl, rfl, rfl, rfl, rfl⟩
def kp28 : List (Nat × List Nat) := [(0, [1, 2]), (1, [1, 2, 8]), (2, [2, 3]), (3, [1, 2, 13]), (4, [2, 3]), (5, [1, 2, 4, 5]), (6, [2, 3])]
theorem lk28 : lookK kp28 0 = some [1, 2] ∧ lookK kp28 1 = some [1, 2, 8] ∧ lookK kp28 2 = some [2, 3] ∧ lookK kp28 3 = some [1, 2, 13] ∧ lookK kp28 4 = some [2, 3] ∧ lookK kp28 5 = some [1, 2, 4, 5] ∧ lookK kp28 6 = some [2, 3] := ⟨rfl, rfl, rfl, rfl, rfl, rfl, rfl⟩
def kp30 : List (Nat × List Nat) := [(0, [1, 2, 4]), (1, [1, 2, 4, 11]), (2, [4, 5]), (3, [1, 2, 4, 32]), (4, [4, 5]), (5, [1, 2, 4, 35]), (6, [4, 5]), (7, [1, 2, 4, 6, 7]), (8, [4, 6, 7, 8]), (9, [4, 5])]
theorem lk30 : lookK kp30 0 = some [1, 2, 4] ∧ lookK kp30 1 = some [1, 2, 4, 11] ∧ lookK kp30 2 = some [4, 5] ∧ lookK kp30 3 = some [1, 2, 4, 32] ∧ lookK kp30 4 = some [4, 5] ∧ lookK kp30 5 = some [1, 2, 4, 35] ∧ lookK kp30 6 = some [4, 5] ∧ lookK kp30 7 = some [1, 2, 4, 6, 7] ∧ lookK kp30 8 = some [4, 6, 7, 8] ∧ lookK kp30 9 = some [4, 5] := ⟨rfl, rfl, rfl, rfl, rfl, rfl, rfl, rfl, rfl, rfl⟩
def kp68 : List (Nat × List Nat) := [(0, [0, 1]), (1, [0, 1, 5]), (2, [0, 1, 5, 6]), (3, [0, 1, 5, 6, 10]), (4, [0, 1, 5, 6]), (5, [0, 1, 5, 6]), (6, [4])]
theorem lk68 : lookK kp68 0 = some [0, 1] ∧ lookK kp68 1 = some [0, 1, 5] ∧ lookK kp68 2 = some [0, 1, 5, 6] ∧ lookK kp68 3 = some [0, 1, 5, 6, 10] ∧ lookK kp68 4 = some [0, 1, 5, 6] ∧ lookK kp68 5 = some [0, 1, 5, 6] ∧ lookK kp68 6 = some [4] := ⟨rfl, rfl, rfl, rfl, rfl, rfl, rfl⟩

theorem big91 {n : Nat} (h : n ≤ 91) : n ≤ 140737488355328 := Nat.le_trans h (by decide)
set_option maxHeartbeats 2000000 in
theorem doubted26 (l : La) (h : OkLa l) : Pure Try.prog 26 [laV l] (B (dbB l)) := by
  refine pure_wkE (bad := []) (kp := kp26) (X := tx) (nt := 26) (rs := [.tmp 2]) Try.func26 rfl rfl rfl rfl mo (by kernel_rfl) rfl rfl (fun hf => ?_)
  obtain ⟨n2, n91⟩ := h.n91
  have hb := bounds56 l h
  have el := fl_len l.we.length (bl l)
  have eh := fl_len l.we.length (bh l)
  have gl := fun k (hk : k < l.we.length) => gI_lt (l := fl l.we.length (bl l)) (i := k) (by rw [el]; exact hk)
  have gh := fun k (hk : k < l.we.length) => gI_lt (l := fl l.we.length (bh l)) (i := k) (by rw [eh]; exact hk)
  have vl := fun k (hk : k < l.we.length) => fl_get (bl l) hk
  have vh := fun k (hk : k < l.we.length) => fl_get (bh l) hk
  generalize fl l.we.length (bl l) = L at *
  generalize fl l.we.length (bh l) = Hh at *
  unfold laV laC ints at hb
  simp (maxSteps := 2000000) only [go_sem, reduceIte, Nat.reduceEqDiff, Nat.reduceAdd, List.replicate_succ, lk26, lk28, lk30, lk68, laV, laC]
  refine aops_pure' (hb) rfl rfl (by first | exact wk_refls _ | (repeat constructor)) ?_
  simp (maxSteps := 2000000) only [go_sem, reduceIte, Nat.reduceEqDiff, List.replicate_succ, lk26, lk28, lk30, lk68]
  refine goE_loop (bad := []) (kp := kp26) (fun k : Nat => { slots := [(3, ints L), (4, ints Hh), (5, I k)], heap := [.cells (laC l)], marks := [] }) (fun k => k ≤ l.we.length ∧ ∀ j, j < k → ¬ bh l j < bl l j) (fun k => l.we.length - k) 0 mo (by kernel_rfl) ?_ ⟨Nat.zero_le _, by intro j hj; omega⟩ ?_
  · refine ent_weaken [] rfl rfl (Nat.zero_le _) rfl rfl ?_
    simp (maxSteps := 2000000) only [go_sem, reduceIte, Nat.reduceEqDiff, List.replicate_succ, lk26, lk28, lk30, lk68, laC, ints]
    all_goals first | exact .refl _ | exact ⟨.refl _, .refl _⟩ | exact ⟨.refl _, .refl _, .refl _⟩ | exact ⟨.refl _, _, rfl⟩ | exact ⟨_, rfl⟩ | exact ⟨.refl _, [], by simp⟩ | exact ⟨[], by simp⟩
  rintro k ⟨hk, hall⟩
  simp (maxSteps := 2000000) only [go_sem, reduceIte, Nat.reduceEqDiff, Nat.reduceAdd, List.replicate_succ, lk26, lk28, lk30, lk68, laC, ints, el]
  by_cases hlt : k < l.we.length
  · have hlt' : (k : Int) < l.we.length := by omega
    have g1 := gl k hlt
    have g2 := gh k hlt
    rw [vl k hlt] at g1
    rw [vh k hlt] at g2
    have m1 : l.we.length - (k + 1) < l.we.length - k := by omega
    by_cases hc : bh l k < bl l k
    · have e : dbB l = true := (dbB_iff l).2 ⟨k, hlt, hc⟩
      simp (maxSteps := 2000000) only [go_sem, reduceIte, Nat.reduceEqDiff, Nat.reduceAdd, List.replicate_succ, lk26, lk28, lk30, lk68, hlt', nn, el, eh, g1, g2, iD, hc, e]
    · have w7 := wr_succ hlt (big91 n91)
      simp (maxSteps := 2000000) only [go_sem, reduceIte, Nat.reduceEqDiff, Nat.reduceAdd, List.replicate_succ, lk26, lk28, lk30, lk68, hlt', nn, el, eh, g1, g2, iD, hc, w7]
      refine ⟨k + 1, ⟨hlt, fun j hj => ?_⟩, m1, ?_⟩
      · by_cases e : j = k
        · subst e; exact hc
        · exact hall j (Nat.lt_of_le_of_ne (Nat.le_of_lt_succ hj) e)
      refine ent_weaken [] rfl rfl (Nat.zero_le _) rfl rfl ?_
      simp (maxSteps := 2000000) only [go_sem, reduceIte, Nat.reduceEqDiff, List.replicate_succ, lk26, lk28, lk30, lk68, laC, ints]
      all_goals first | exact .refl _ | exact ⟨.refl _, .refl _⟩ | exact ⟨.refl _, .refl _, .refl _⟩ | exact ⟨.refl _, _, rfl⟩ | exact ⟨_, rfl⟩ | exact ⟨.refl _, [], by simp⟩ | exact ⟨[], by simp⟩
  · have hlt' : ¬ (k : Int) < l.we.length := by omega
    have e : dbB l = false := by
      rw [← Bool.not_eq_true, dbB_iff]
      rintro ⟨j, hj, h2⟩
      exact hall j (by omega) h2
    simp (maxSteps := 2000000) only [go_sem, reduceIte, Nat.reduceEqDiff, Nat.reduceAdd, List.replicate_succ, lk26, lk28, lk30, lk68, hlt', e]
/-- The span. -/
def spLo (l : La) : Int := sumW (gI l.we) (bl l) l.we.length
def spHi (l : La) : Int := sumW (gI l.we) (bh l) l.we.length
def spE (l : La) : Int := if okLa l = 0 then (if dbB l then 21 else 0) else okLa l
def spR (l : La) : Rg := if spE l = 0 then ⟨spLo l, spHi l⟩ else ⟨0, 0⟩
theorem sum_fl {w : List Int} {f : Nat → Int} : sumW (gI w) (gI (fl w.length f)) w.length = sumW (gI w) f w.length := by
  have key : ∀ m, m ≤ w.length → sumW (gI w) (gI (fl w.length f)) m = sumW (gI w) f m := fun m => by
    induction m with
    | zero => intro _; rfl
    | succ m ih => intro hm; rw [sumW, sumW, ih (by omega), fl_get f (by omega)]
  exact key _ (Nat.le_refl _)
theorem sum38f {l : La} (h : OkLa l) {f : Nat → Int} (hf : ∀ k, k < l.we.length → 0 ≤ f k ∧ f k ≤ 200) : Pure Try.prog 38 [ints l.we, ints (fl l.we.length f)] (I (sumW (gI l.we) f l.we.length)) := by
  have := h.n91
  rw [← sum_fl]
  exact sum38 _ _ (by omega) (by rw [fl_len]; exact Nat.le_refl _) h.wr (fun k hk => by rw [fl_get f hk]; have := hf k hk; omega)
theorem spE_val {l : La} : spE l = 0 ∨ ¬ spE l = 0 := by omega
theorem spE_0 {l : La} (h : okLa l = 0) (hd : dbB l = false) : spE l = 0 := by unfold spE; rw [if_pos h, hd]; rfl
theorem spE_21 {l : La} (h : okLa l = 0) (hd : dbB l = true) : spE l = 21 := by unfold spE; rw [if_pos h, hd]; rfl
theorem spE_bad {l : La} (h : ¬ okLa l = 0) : spE l = okLa l := by unfold spE; rw [if_neg h]
theorem spR_0 {l : La} (h : spE l = 0) : spR l = ⟨spLo l, spHi l⟩ := by unfold spR; rw [if_pos h]
theorem spR_bad {l : La} (h : ¬ spE l = 0) : spR l = ⟨0, 0⟩ := by unfold spR; rw [if_neg h]
set_option maxHeartbeats 2000000 in
theorem span28 (l : La) : Pure Try.prog 28 [laV l] (.tup [rgV (spR l), I (spE l)]) := by
  refine pure_wkE (bad := []) (kp := kp28) (X := tx) (nt := 29) (rs := [.cell 2 40, .tmp 3]) Try.func28 rfl rfl rfl rfl mo (by kernel_rfl) rfl rfl (fun hf => ?_)
  have hl := lamp20 l
  unfold laV laC at hl
  simp (maxSteps := 2000000) only [go_sem, reduceIte, Nat.reduceEqDiff, Nat.reduceAdd, List.replicate_succ, lk26, lk28, lk30, lk68, laV, laC]
  refine aops_pure' (hl) rfl rfl (by first | exact wk_refls _ | (repeat constructor)) ?_
  by_cases h0 : okLa l = 0
  case neg =>
    have e := spE_bad h0
    have e2 := spR_bad (l := l) (by rw [e]; exact h0)
    simp (maxSteps := 2000000) only [go_sem, reduceIte, Nat.reduceEqDiff, Nat.reduceAdd, List.replicate_succ, lk26, lk28, lk30, lk68, h0]
    refine aops_pure' (hl) rfl rfl (by first | exact wk_refls _ | (repeat constructor)) ?_
    simp (maxSteps := 2000000) only [go_sem, reduceIte, Nat.reduceEqDiff, Nat.reduceAdd, List.replicate_succ, lk26, lk28, lk30, lk68, e, e2, rgV, rgC]
    all_goals first | exact .refl _ | exact ⟨.refl _, .refl _⟩ | exact ⟨.refl _, .refl _, .refl _⟩ | exact ⟨.refl _, _, rfl⟩ | exact ⟨_, rfl⟩ | exact ⟨.refl _, [], by simp⟩ | exact ⟨[], by simp⟩
  have ok := okLa_n h0
  have hd := doubted26 l ok
  have hb := bounds56 l ok
  have s1 := sum38f ok (f := bl l) (fun k hk => bl_range ok hk)
  have s2 := sum38f ok (f := bh l) (fun k hk => bh_range ok hk)
  unfold laV laC at hd hb
  unfold ints at hb s1 s2
  simp (maxSteps := 2000000) only [go_sem, reduceIte, Nat.reduceEqDiff, Nat.reduceAdd, List.replicate_succ, lk26, lk28, lk30, lk68, h0]
  refine aops_pure' (hd) rfl rfl (by first | exact wk_refls _ | (repeat constructor)) ?_
  cases hq : dbB l with
  | true =>
    have e := spE_21 h0 hq
    have e2 := spR_bad (l := l) (by rw [e]; decide)
    simp (maxSteps := 2000000) only [go_sem, reduceIte, Nat.reduceEqDiff, Nat.reduceAdd, List.replicate_succ, lk26, lk28, lk30, lk68, e, e2, rgV, rgC]
    all_goals first | exact .refl _ | exact ⟨.refl _, .refl _⟩ | exact ⟨.refl _, .refl _, .refl _⟩ | exact ⟨.refl _, _, rfl⟩ | exact ⟨_, rfl⟩ | exact ⟨.refl _, [], by simp⟩ | exact ⟨[], by simp⟩
  | false =>
    have e := spE_0 h0 hq
    have e2 := spR_0 e
    simp (maxSteps := 2000000) only [go_sem, reduceIte, Nat.reduceEqDiff, Nat.reduceAdd, List.replicate_succ, lk26, lk28, lk30, lk68]
    refine aops_pure' (hb) rfl rfl (by first | exact wk_refls _ | (repeat constructor)) ?_
    simp (maxSteps := 2000000) only [go_sem, reduceIte, Nat.reduceEqDiff, Nat.reduceAdd, Nat.reduceBEq, List.replicate_succ, lk26, lk28, lk30, lk68]
    refine dops_pure' (s1) rfl rfl (by first | exact wk_refls _ | (repeat constructor)) (by kernel_rfl) ?_
    simp (maxSteps := 2000000) only [go_sem, reduceIte, Nat.reduceEqDiff, Nat.reduceAdd, Nat.reduceBEq, List.replicate_succ, lk26, lk28, lk30, lk68]
    refine dops_pure' (s2) rfl rfl (by first | exact wk_refls _ | (repeat constructor)) (by kernel_rfl) ?_
    simp (maxSteps := 2000000) only [go_sem, reduceIte, Nat.reduceEqDiff, Nat.reduceAdd, Nat.reduceLeDiff, Nat.reduceBEq, List.replicate_succ, lk26, lk28, lk30, lk68, e, e2, rgV, rgC, spLo, spHi]
    all_goals first | exact .refl _ | exact ⟨.refl _, .refl _⟩ | exact ⟨.refl _, .refl _, .refl _⟩ | exact ⟨.refl _, _, rfl⟩ | exact ⟨_, rfl⟩ | exact ⟨.refl _, [], by simp⟩ | exact ⟨[], by simp⟩
def atE (l : La) (d : Int) : Int := if okLa l = 0 then (if d < gI l.an 0 ∨ gI l.an (l.an.length - 1) < d then 3 else if dbB l then 21 else 0) else okLa l
def atR (l : La) (d : Int) : Rg := if atE l d = 0 then ⟨bl l (d - gI l.an 0).toNat, bh l (d - gI l.an 0).toNat⟩ else ⟨0, 0⟩
theorem atE_bad {l : La} (h : ¬ okLa l = 0) (d : Int) : atE l d = okLa l := by unfold atE; rw [if_neg h]
theorem atE_out {l : La} {d : Int} (h : okLa l = 0) (h2 : d < gI l.an 0 ∨ gI l.an (l.an.length - 1) < d) : atE l d = 3 := by unfold atE; rw [if_pos h, if_pos h2]
theorem atE_21 {l : La} {d : Int} (h : okLa l = 0) (h2 : ¬ (d < gI l.an 0 ∨ gI l.an (l.an.length - 1) < d)) (hd : dbB l = true) : atE l d = 21 := by unfold atE; rw [if_pos h, if_neg h2, hd]; rfl
theorem atE_0 {l : La} {d : Int} (h : okLa l = 0) (h2 : ¬ (d < gI l.an 0 ∨ gI l.an (l.an.length - 1) < d)) (hd : dbB l = false) : atE l d = 0 := by unfold atE; rw [if_pos h, if_neg h2, hd]; rfl
theorem atR_bad {l : La} {d : Int} (h : ¬ atE l d = 0) : atR l d = ⟨0, 0⟩ := by unfold atR; rw [if_neg h]
theorem atR_0 {l : La} {d : Int} (h : atE l d = 0) : atR l d = ⟨bl l (d - gI l.an 0).toNat, bh l (d - gI l.an 0).toNat⟩ := by unfold atR; rw [if_pos h]
set_option maxHeartbeats 2000000 in
theorem at30 (l : La) (d : Int) : Pure Try.prog 30 [laV l, I d] (.tup [rgV (atR l d), I (atE l d)]) := by
  refine pure_wkE (bad := []) (kp := kp30) (X := tx) (nt := 57) (rs := [.cell 4 40, .tmp 5]) Try.func30 rfl rfl rfl rfl mo (by kernel_rfl) rfl rfl (fun hf => ?_)
  have hl := lamp20 l
  unfold laV laC at hl
  simp (maxSteps := 2000000) only [go_sem, reduceIte, Nat.reduceEqDiff, Nat.reduceAdd, List.replicate_succ, lk26, lk28, lk30, lk68, laV, laC]
  refine aops_pure' (hl) rfl rfl (by first | exact wk_refls _ | (repeat constructor)) ?_
  by_cases h0 : okLa l = 0
  case neg =>
    have e := atE_bad h0 d
    have e2 := atR_bad (l := l) (d := d) (by rw [e]; exact h0)
    simp (maxSteps := 2000000) only [go_sem, reduceIte, Nat.reduceEqDiff, Nat.reduceAdd, List.replicate_succ, lk26, lk28, lk30, lk68, h0]
    refine aops_pure' (hl) rfl rfl (by first | exact wk_refls _ | (repeat constructor)) ?_
    simp (maxSteps := 2000000) only [go_sem, reduceIte, Nat.reduceEqDiff, Nat.reduceAdd, List.replicate_succ, lk26, lk28, lk30, lk68, e, e2, rgV, rgC]
    all_goals first | exact .refl _ | exact ⟨.refl _, .refl _⟩ | exact ⟨.refl _, .refl _, .refl _⟩ | exact ⟨.refl _, _, rfl⟩ | exact ⟨_, rfl⟩ | exact ⟨.refl _, [], by simp⟩ | exact ⟨[], by simp⟩
  have ok := okLa_n h0
  have hd := doubted26 l ok
  have hb := bounds56 l ok
  have m2 := ok.m2
  have m11 := ok.m11
  have g0 := gI_lt (l := l.an) (i := 0) (by omega)
  have gn := gI_lt (l := l.an) (i := l.an.length - 1) (by omega)
  have p0 : (0 : Int) < l.an.length := by omega
  have pn : ((l.an.length - 1 : Nat) : Int) < l.an.length := by omega
  have ha0 := ok.a0 0 (by omega)
  have han := ok.a0 (l.an.length - 1) (by omega)
  have hwe := ok.we
  unfold laV laC at hd hb
  unfold ints at hb
  by_cases h1 : d < gI l.an 0
  · have e := atE_out h0 (.inl h1)
    have e2 := atR_bad (l := l) (d := d) (by rw [e]; decide)
    simp (maxSteps := 2000000) only [go_sem, reduceIte, Nat.reduceEqDiff, Nat.reduceAdd, Nat.reduceLeDiff, Nat.reduceBEq, Int.reduceLE, Int.reduceToNat, List.replicate_succ, lk26, lk28, lk30, lk68, h0, p0, g0, iD, h1, e, e2, rgV, rgC]
    all_goals first | exact .refl _ | exact ⟨.refl _, .refl _⟩ | exact ⟨.refl _, .refl _, .refl _⟩ | exact ⟨.refl _, _, rfl⟩ | exact ⟨_, rfl⟩ | exact ⟨.refl _, [], by simp⟩ | exact ⟨[], by simp⟩
  by_cases h2 : gI l.an (l.an.length - 1) < d
  · have e := atE_out h0 (.inr h2)
    have e2 := atR_bad (l := l) (d := d) (by rw [e]; decide)
    have w1 := wr_len1 (n := l.an.length) (by omega) (by omega)
    simp (maxSteps := 2000000) only [go_sem, reduceIte, Nat.reduceEqDiff, Nat.reduceAdd, Nat.reduceLeDiff, Nat.reduceBEq, Int.reduceLE, Int.reduceToNat, List.replicate_succ, lk26, lk28, lk30, lk68, h0, p0, g0, iD, h1, w1, nn, pn, gn, h2, e, e2, rgV, rgC]
    all_goals first | exact .refl _ | exact ⟨.refl _, .refl _⟩ | exact ⟨.refl _, .refl _, .refl _⟩ | exact ⟨.refl _, _, rfl⟩ | exact ⟨_, rfl⟩ | exact ⟨.refl _, [], by simp⟩ | exact ⟨[], by simp⟩
  have h12 : ¬ (d < gI l.an 0 ∨ gI l.an (l.an.length - 1) < d) := by omega
  have hdn : (d - gI l.an 0).toNat < l.we.length := by omega
  have hdi : ((d - gI l.an 0).toNat : Int) = d - gI l.an 0 := by omega
  have wd : wr .i64 (d - gI l.an 0) = (((d - gI l.an 0).toNat : Nat) : Int) := by rw [wr_in (by omega), hdi]
  cases hq : dbB l with
  | true =>
    have e := atE_21 h0 h12 hq
    have e2 := atR_bad (l := l) (d := d) (by rw [e]; decide)
    have w1 := wr_len1 (n := l.an.length) (by clear wd; omega) (by clear wd; omega)
    simp (maxSteps := 2000000) only [go_sem, reduceIte, Nat.reduceEqDiff, Nat.reduceAdd, Nat.reduceLeDiff, Nat.reduceBEq, Int.reduceLE, Int.reduceToNat, List.replicate_succ, lk26, lk28, lk30, lk68, h0, p0, g0, iD, h1, w1, nn, pn, gn, h2]
    refine aops_pure' (hd) rfl rfl (by first | exact wk_refls _ | (repeat constructor)) ?_
    simp (maxSteps := 2000000) only [go_sem, reduceIte, Nat.reduceEqDiff, Nat.reduceAdd, List.replicate_succ, lk26, lk28, lk30, lk68, hq, e, e2, rgV, rgC]
    all_goals first | exact .refl _ | exact ⟨.refl _, .refl _⟩ | exact ⟨.refl _, .refl _, .refl _⟩ | exact ⟨.refl _, _, rfl⟩ | exact ⟨_, rfl⟩ | exact ⟨.refl _, [], by simp⟩ | exact ⟨[], by simp⟩
  | false =>
    have e := atE_0 h0 h12 hq
    have e2 := atR_0 e
    have fll := fl_len l.we.length (bl l)
    have flh := fl_len l.we.length (bh l)
    have q1 := gI_lt (l := fl l.we.length (bl l)) (i := (d - gI l.an 0).toNat) (by rw [fll]; exact hdn)
    have q2 := gI_lt (l := fl l.we.length (bh l)) (i := (d - gI l.an 0).toNat) (by rw [flh]; exact hdn)
    rw [fl_get _ hdn] at q1 q2
    have hdn' : (((d - gI l.an 0).toNat : Nat) : Int) < l.we.length := by clear wd; omega
    have w1 := wr_len1 (n := l.an.length) (by clear wd; omega) (by clear wd; omega)
    generalize fl l.we.length (bl l) = L at *
    generalize fl l.we.length (bh l) = Hh at *
    generalize (d - gI l.an 0).toNat = k at *
    simp (maxSteps := 2000000) only [go_sem, reduceIte, Nat.reduceEqDiff, Nat.reduceAdd, Nat.reduceLeDiff, Nat.reduceBEq, Int.reduceLE, Int.reduceToNat, List.replicate_succ, lk26, lk28, lk30, lk68, h0, p0, g0, iD, h1, w1, nn, pn, gn, h2]
    refine aops_pure' (hd) rfl rfl (by first | exact wk_refls _ | (repeat constructor)) ?_
    simp (maxSteps := 2000000) only [go_sem, reduceIte, Nat.reduceEqDiff, Nat.reduceAdd, Nat.reduceLeDiff, Int.reduceLE, Int.reduceToNat, List.replicate_succ, lk26, lk28, lk30, lk68, hq]
    refine aops_pure' (hb) rfl rfl (by first | exact wk_refls _ | (repeat constructor)) ?_
    simp (maxSteps := 2000000) only [go_sem, reduceIte, Nat.reduceEqDiff, Nat.reduceAdd, Nat.reduceLeDiff, Nat.reduceBEq, List.replicate_succ, lk26, lk28, lk30, lk68, p0, g0, iD, wd, nn, fll, flh, hdn', q1, q2, e, e2, rgV, rgC]
    all_goals first | exact .refl _ | exact ⟨.refl _, .refl _⟩ | exact ⟨.refl _, .refl _, .refl _⟩ | exact ⟨.refl _, _, rfl⟩ | exact ⟨_, rfl⟩ | exact ⟨.refl _, [], by simp⟩ | exact ⟨[], by simp⟩
/-- A coated light. -/
def ctF (f : Nat → Int) (s : Int) (k : Nat) : Int := f k * s / 1000
theorem ct_range {x s : Int} (h0 : 0 ≤ x) (h2 : x ≤ 200) (s0 : 0 ≤ s) (s1 : s ≤ 1000) : 0 ≤ x * s ∧ x * s ≤ 200000 ∧ 0 ≤ x * s / 1000 ∧ x * s / 1000 ≤ 200 := by
  have a := Int.mul_nonneg h0 s0
  have b := Int.mul_le_mul h2 s1 s0 (by decide : (0 : Int) ≤ 200)
  omega
set_option maxHeartbeats 2000000 in
theorem coat68 (x : List Int) (s : Int) (hx : ∀ k, k < x.length → 0 ≤ gI x k ∧ gI x k ≤ 200) (s0 : 0 ≤ s) (s1 : s ≤ 1000) (hn : x.length ≤ 1000) : Pure Try.prog 68 [ints x, I s] (ints (fl x.length (ctF (gI x) s))) := by
  refine pure_wkE (bad := []) (kp := kp68) (X := tx) (nt := 24) (rs := [.tmp 4]) Try.func68 rfl rfl rfl rfl mo (by kernel_rfl) rfl rfl (fun hf => ?_)
  simp (maxSteps := 2000000) only [go_sem, reduceIte, Nat.reduceEqDiff, Nat.reduceAdd, List.replicate_succ, lk26, lk28, lk30, lk68, ints]
  refine goE_loop (bad := []) (kp := kp68) (fun i : Nat => { slots := [(0, ints x), (1, I s), (5, .c (.own 0 ((fl i (ctF (gI x) s)).map iD))), (6, I i)], heap := [.grow i 1], marks := [] }) (fun i => i ≤ x.length) (fun i => x.length - i) 0 mo (by kernel_rfl) ?_ (Nat.zero_le _) ?_
  · refine Ent.trans (ent_own 5 1 rfl) ?_
    refine ent_weaken [] rfl rfl (Nat.zero_le _) rfl rfl ?_
    simp (maxSteps := 2000000) only [go_sem, reduceIte, Nat.reduceEqDiff, Nat.reduceLT, List.replicate_succ, lk26, lk28, lk30, lk68, fl, List.range_zero, ints]
    all_goals first | exact .refl _ | exact ⟨.refl _, .refl _⟩ | exact ⟨.refl _, .refl _, .refl _⟩ | exact ⟨.refl _, _, rfl⟩ | exact ⟨_, rfl⟩ | exact ⟨.refl _, [], by simp⟩ | exact ⟨[], by simp⟩
  rintro i hi
  simp (maxSteps := 2000000) only [go_sem, reduceIte, Nat.reduceEqDiff, Nat.reduceAdd, List.replicate_succ, lk26, lk28, lk30, lk68, ints]
  by_cases hlt : i < x.length
  case neg =>
    have hlt' : ¬ (i : Int) < x.length := by omega
    have e : i = x.length := by omega
    subst e
    simp (maxSteps := 2000000) only [go_sem, reduceIte, Nat.reduceEqDiff, Nat.reduceAdd, List.replicate_succ, lk26, lk28, lk30, lk68, hlt', ints]
    all_goals first | exact .refl _ | exact ⟨.refl _, .refl _⟩ | exact ⟨.refl _, .refl _, .refl _⟩ | exact ⟨.refl _, _, rfl⟩ | exact ⟨_, rfl⟩ | exact ⟨.refl _, [], by simp⟩ | exact ⟨[], by simp⟩
  have hlt' : (i : Int) < x.length := by omega
  have g1 := gI_lt hlt
  have hr := hx i hlt
  obtain ⟨c1, c2, c3, c4⟩ := ct_range hr.1 hr.2 s0 s1
  have e1 : fl (i + 1) (ctF (gI x) s) = fl i (ctF (gI x) s) ++ [gI x i * s / 1000] := by simp [fl, List.range_succ, ctF]
  have el := fl_len i (ctF (gI x) s)
  have m1 : x.length - (i + 1) < x.length - i := by omega
  have ap : (((fl i (ctF (gI x) s)).all fun x => (iD x).length == 1) && decide ((i + 1 + (i + 1) / 4 + 256) * 8 ≤ 281474976710656) && decide (i ≤ 140737488355327)) = true := by
    simp [iD]; omega
  have td : Int.tdiv (gI x i * s) 1000 = gI x i * s / 1000 := Int.tdiv_eq_ediv_of_nonneg c1
  have w1 : wr .i64 (gI x i * s) = gI x i * s := wr_in (by omega)
  have w2 : wr .i64 (gI x i * s / 1000) = gI x i * s / 1000 := wr_in (by clear w1; omega)
  have w7 := wr_succ hlt (Nat.le_trans hn (by decide))
  simp (maxSteps := 2000000) only [go_sem, reduceIte, Nat.reduceEqDiff, Nat.reduceAdd, Nat.reduceLT, Nat.reduceLeDiff, Nat.reduceBEq, Nat.reduceMul, Int.reduceEq, List.replicate_succ, lk26, lk28, lk30, lk68, hlt', nn, g1, iD, w1, td, w2, el, w7]
  trace_state
  refine ⟨ap, i + 1, hlt, m1, ?_⟩
  refine ent_weaken [] rfl rfl (Nat.zero_le _) rfl rfl ?_
  simp (maxSteps := 2000000) only [go_sem, reduceIte, Nat.reduceEqDiff, Nat.reduceLT, List.replicate_succ, lk26, lk28, lk30, lk68, e1, List.map_append, iD, ints]
  all_goals first | exact .refl _ | exact ⟨.refl _, .refl _⟩ | exact ⟨.refl _, .refl _, .refl _⟩ | exact ⟨.refl _, _, rfl⟩ | exact ⟨_, rfl⟩ | exact ⟨.refl _, [], by simp⟩ | exact ⟨[], by simp⟩
end Go.Proofs.Ytliamojogmlgjaa
