/- Zones: the document's coated flux; guards of the statements. -/
import Derived.Test.YtliamojogmlgjaaZ7
import Derived.Test.YtliamojogmlgjaaZ8
set_option linter.unusedSimpArgs false
set_option linter.unusedVariables false
set_option maxRecDepth 100000
namespace Go.Proofs.Ytliamojogmlgjaa
open Go Go.Abs Go.Proofs
def kp40 : List (Nat × List Nat) := [(0, [1, 2, 3]), (1, [6])]
theorem lk40 : lookK kp40 0 = some [1, 2, 3] ∧ lookK kp40 1 = some [6] := ⟨rfl, rfl⟩
def kp32 : List (Nat × List Nat) := [(0, [2, 3, 4]), (1, [2, 3, 4, 10]), (2, [4, 5]), (3, [2, 3, 4, 16]), (4, [4, 5]), (5, [2, 3, 4, 19]), (6, [4, 5]), (7, [2, 3, 4, 6, 7]), (8, [4, 5])]
theorem lk32 : lookK kp32 0 = some [2, 3, 4] ∧ lookK kp32 1 = some [2, 3, 4, 10] ∧ lookK kp32 2 = some [4, 5] ∧ lookK kp32 3 = some [2, 3, 4, 16] ∧ lookK kp32 4 = some [4, 5] ∧ lookK kp32 5 = some [2, 3, 4, 19] ∧ lookK kp32 6 = some [4, 5] ∧ lookK kp32 7 = some [2, 3, 4, 6, 7] ∧ lookK kp32 8 = some [4, 5] := ⟨rfl, rfl, rfl, rfl, rfl, rfl, rfl, rfl, rfl⟩
def kp34 : List (Nat × List Nat) := [(0, [1]), (1, [1, 6]), (2, [2]), (3, [1, 3]), (4, [1, 3, 11]), (5, [1, 3]), (6, [1, 3, 20]), (7, [2]), (8, [2])]
theorem lk34 : lookK kp34 0 = some [1] ∧ lookK kp34 1 = some [1, 6] ∧ lookK kp34 2 = some [2] ∧ lookK kp34 3 = some [1, 3] ∧ lookK kp34 4 = some [1, 3, 11] ∧ lookK kp34 5 = some [1, 3] ∧ lookK kp34 6 = some [1, 3, 20] ∧ lookK kp34 7 = some [2] ∧ lookK kp34 8 = some [2] := ⟨rfl, rfl, rfl, rfl, rfl, rfl, rfl, rfl, rfl⟩
def kp37 : List (Nat × List Nat) := [(0, [1]), (1, [2])]
theorem lk37 : lookK kp37 0 = some [1] ∧ lookK kp37 1 = some [2] := ⟨rfl, rfl⟩

theorem ct_fl {l : La} {f : Nat → Int} (s : Int) : sumW (gI l.we) (ctF (gI (fl l.we.length f)) s) l.we.length = sumW (gI l.we) (ctF f s) l.we.length := by
  have key : ∀ m, m ≤ l.we.length → sumW (gI l.we) (ctF (gI (fl l.we.length f)) s) m = sumW (gI l.we) (ctF f s) m := fun m => by
    induction m with
    | zero => intro _; rfl
    | succ m ih => intro hm; rw [sumW, sumW, ih (by omega)]; unfold ctF; rw [fl_get f (by omega)]
  exact key _ (Nat.le_refl _)
set_option maxHeartbeats 1000000 in
theorem cflux40 (l : La) (h : OkLa l) (x : List Int) (hx : x.length = l.we.length) (hr : ∀ k, k < l.we.length → 0 ≤ gI x k ∧ gI x k ≤ 200) (s : Int) (s0 : 0 ≤ s) (s1 : s ≤ 1000) : Pure Try.prog 40 [laV l, ints x, I s] (I (sumW (gI l.we) (ctF (gI x) s) l.we.length)) := by
  refine pure_wkE (bad := []) (kp := kp40) (X := tx) (nt := 13) (rs := [.tmp 6]) Try.func40 rfl rfl rfl rfl mo (by kernel_rfl) rfl rfl (fun hf => ?_)
  obtain ⟨n2, n91⟩ := h.n91
  have hc := coat68 x s (fun k hk => hr k (by omega)) s0 s1 (by omega)
  rw [hx] at hc
  have hs := sum38f h (f := ctF (gI x) s) (fun k hk => by
    have a := hr k hk
    have b := ct_range a.1 a.2 s0 s1
    exact b.2.2)
  unfold ints at hc hs
  simp (maxSteps := 2000000) only [go_sem, reduceIte, Nat.reduceEqDiff, Nat.reduceAdd, Nat.reduceBEq, List.replicate_succ, lk40, lk32, lk34, lk37, laV, laC, ints]
  refine dops_pure' (hc) rfl rfl (by first | exact wk_refls _ | (repeat constructor)) (by kernel_rfl) ?_
  simp (maxSteps := 2000000) only [go_sem, reduceIte, Nat.reduceEqDiff, Nat.reduceAdd, List.replicate_succ, lk40, lk32, lk34, lk37]
  refine dops_pure' (hs) rfl rfl (by first | exact wk_refls _ | (repeat constructor)) (by kernel_rfl) ?_
  simp (maxSteps := 2000000) only [go_sem, reduceIte, Nat.reduceEqDiff, Nat.reduceAdd, List.replicate_succ, lk40, lk32, lk34, lk37]
/-- The coated span. -/
def coLo (l : La) (r : Rg) : Int := sumW (gI l.we) (ctF (bl l) r.lo) l.we.length
def coHi (l : La) (r : Rg) : Int := sumW (gI l.we) (ctF (bh l) r.hi) l.we.length
def coE (l : La) (r : Rg) : Int := if okLa l = 0 then (if rgB 1000 r then (if dbB l then 21 else 0) else 3) else okLa l
def coR (l : La) (r : Rg) : Rg := if coE l r = 0 then ⟨coLo l r, coHi l r⟩ else ⟨0, 0⟩
theorem coE_bad {l : La} (h : ¬ okLa l = 0) (r : Rg) : coE l r = okLa l := by unfold coE; rw [if_neg h]
theorem coE_3 {l : La} {r : Rg} (h : okLa l = 0) (hr : rgB 1000 r = false) : coE l r = 3 := by unfold coE; rw [if_pos h, hr]; rfl
theorem coE_21 {l : La} {r : Rg} (h : okLa l = 0) (hr : rgB 1000 r = true) (hd : dbB l = true) : coE l r = 21 := by unfold coE; rw [if_pos h, hr, hd]; rfl
theorem coE_0 {l : La} {r : Rg} (h : okLa l = 0) (hr : rgB 1000 r = true) (hd : dbB l = false) : coE l r = 0 := by unfold coE; rw [if_pos h, hr, hd]; rfl
theorem coR_0 {l : La} {r : Rg} (h : coE l r = 0) : coR l r = ⟨coLo l r, coHi l r⟩ := by unfold coR; rw [if_pos h]
theorem coR_bad {l : La} {r : Rg} (h : ¬ coE l r = 0) : coR l r = ⟨0, 0⟩ := by unfold coR; rw [if_neg h]
theorem cflux_lo {l : La} (h : OkLa l) {f : Nat → Int} (hf : ∀ k, k < l.we.length → 0 ≤ f k ∧ f k ≤ 200) {s : Int} (s0 : 0 ≤ s) (s1 : s ≤ 1000) : Pure Try.prog 40 [laV l, ints (fl l.we.length f), I s] (I (sumW (gI l.we) (ctF f s) l.we.length)) := by
  rw [← ct_fl]
  exact cflux40 l h _ (fl_len _ _) (fun k hk => by rw [fl_get f hk]; exact hf k hk) s s0 s1
set_option maxHeartbeats 2000000 in
theorem coated32 (l : La) (r : Rg) : Pure Try.prog 32 [laV l, rgV r] (.tup [rgV (coR l r), I (coE l r)]) := by
  refine pure_wkE (bad := []) (kp := kp32) (X := tx) (nt := 37) (rs := [.cell 4 40, .tmp 5]) Try.func32 rfl rfl rfl rfl mo (by kernel_rfl) rfl rfl (fun hf => ?_)
  have hl := lamp20 l
  have hw := within51 1000 r
  unfold laV laC at hl
  unfold rgV rgC at hw
  simp (maxSteps := 2000000) only [go_sem, reduceIte, Nat.reduceEqDiff, Nat.reduceAdd, List.replicate_succ, lk40, lk32, lk34, lk37, laV, laC, rgV, rgC]
  refine aops_pure' (hl) rfl rfl (by first | exact wk_refls _ | (repeat constructor)) ?_
  by_cases h0 : okLa l = 0
  case neg =>
    have e := coE_bad h0 r
    have e2 := coR_bad (l := l) (r := r) (by rw [e]; exact h0)
    simp (maxSteps := 2000000) only [go_sem, reduceIte, Nat.reduceEqDiff, Nat.reduceAdd, List.replicate_succ, lk40, lk32, lk34, lk37, h0]
    refine aops_pure' (hl) rfl rfl (by first | exact wk_refls _ | (repeat constructor)) ?_
    simp (maxSteps := 2000000) only [go_sem, reduceIte, Nat.reduceEqDiff, Nat.reduceAdd, List.replicate_succ, lk40, lk32, lk34, lk37, e, e2, rgV, rgC]
    all_goals first | exact .refl _ | exact ⟨.refl _, .refl _⟩ | exact ⟨.refl _, .refl _, .refl _⟩ | exact ⟨.refl _, _, rfl⟩ | exact ⟨_, rfl⟩ | exact ⟨.refl _, [], by simp⟩ | exact ⟨[], by simp⟩
  have ok := okLa_n h0
  have hd := doubted26 l ok
  have hb := bounds56 l ok
  unfold laV laC at hd hb
  unfold ints at hb
  simp (maxSteps := 2000000) only [go_sem, reduceIte, Nat.reduceEqDiff, Nat.reduceAdd, List.replicate_succ, lk40, lk32, lk34, lk37, h0]
  refine aops_pure' (hw) rfl rfl (by first | exact wk_refls _ | (repeat constructor)) ?_
  cases hr : rgB 1000 r with
  | false =>
    have e := coE_3 h0 hr
    have e2 := coR_bad (l := l) (r := r) (by rw [e]; decide)
    simp (maxSteps := 2000000) only [go_sem, reduceIte, Nat.reduceEqDiff, Nat.reduceAdd, List.replicate_succ, lk40, lk32, lk34, lk37, e, e2, rgV, rgC]
    all_goals first | exact .refl _ | exact ⟨.refl _, .refl _⟩ | exact ⟨.refl _, .refl _, .refl _⟩ | exact ⟨.refl _, _, rfl⟩ | exact ⟨_, rfl⟩ | exact ⟨.refl _, [], by simp⟩ | exact ⟨[], by simp⟩
  | true =>
  obtain ⟨r0, r1, r2⟩ := (rgB_iff _ _).1 hr
  have s1 := cflux_lo ok (f := bl l) (fun k hk => bl_range ok hk) r0 (by omega)
  have s2 := cflux_lo ok (f := bh l) (fun k hk => bh_range ok hk) (s := r.hi) (by omega) r2
  unfold laV laC ints at s1 s2
  simp (maxSteps := 2000000) only [go_sem, reduceIte, Nat.reduceEqDiff, Nat.reduceAdd, List.replicate_succ, lk40, lk32, lk34, lk37]
  refine aops_pure' (hd) rfl rfl (by first | exact wk_refls _ | (repeat constructor)) ?_
  cases hq : dbB l with
  | true =>
    have e := coE_21 h0 hr hq
    have e2 := coR_bad (l := l) (r := r) (by rw [e]; decide)
    simp (maxSteps := 2000000) only [go_sem, reduceIte, Nat.reduceEqDiff, Nat.reduceAdd, List.replicate_succ, lk40, lk32, lk34, lk37, e, e2, rgV, rgC]
    all_goals first | exact .refl _ | exact ⟨.refl _, .refl _⟩ | exact ⟨.refl _, .refl _, .refl _⟩ | exact ⟨.refl _, _, rfl⟩ | exact ⟨_, rfl⟩ | exact ⟨.refl _, [], by simp⟩ | exact ⟨[], by simp⟩
  | false =>
    have e := coE_0 h0 hr hq
    have e2 := coR_0 e
    simp (maxSteps := 2000000) only [go_sem, reduceIte, Nat.reduceEqDiff, Nat.reduceAdd, List.replicate_succ, lk40, lk32, lk34, lk37]
    refine aops_pure' (hb) rfl rfl (by first | exact wk_refls _ | (repeat constructor)) ?_
    simp (maxSteps := 2000000) only [go_sem, reduceIte, Nat.reduceEqDiff, Nat.reduceAdd, Nat.reduceLeDiff, Nat.reduceBEq, List.replicate_succ, lk40, lk32, lk34, lk37]
    refine dops_pure' (s1) rfl rfl (by first | exact wk_refls _ | (repeat constructor)) (by kernel_rfl) ?_
    simp (maxSteps := 2000000) only [go_sem, reduceIte, Nat.reduceEqDiff, Nat.reduceAdd, Nat.reduceBEq, List.replicate_succ, lk40, lk32, lk34, lk37]
    refine dops_pure' (s2) rfl rfl (by first | exact wk_refls _ | (repeat constructor)) (by kernel_rfl) ?_
    simp (maxSteps := 2000000) only [go_sem, reduceIte, Nat.reduceEqDiff, Nat.reduceAdd, Nat.reduceLeDiff, Nat.reduceBEq, List.replicate_succ, lk40, lk32, lk34, lk37, e, e2, rgV, rgC, coLo, coHi]
    all_goals first | exact .refl _ | exact ⟨.refl _, .refl _⟩ | exact ⟨.refl _, .refl _, .refl _⟩ | exact ⟨.refl _, _, rfl⟩ | exact ⟨_, rfl⟩ | exact ⟨.refl _, [], by simp⟩ | exact ⟨[], by simp⟩
def slowB (l : La) : Bool := decide (okLa l = 0) && (l.li.any (fun r => decide (30 < r.hi)) || decide (12 < l.we.length))
set_option maxHeartbeats 1000000 in
theorem slow34 (l : La) : Pure Try.prog 34 [laV l] (B (slowB l)) := by
  refine pure_wkE (bad := []) (kp := kp34) (X := tx) (nt := 25) (rs := [.tmp 2]) Try.func34 rfl rfl rfl rfl mo (by kernel_rfl) rfl rfl (fun hf => ?_)
  have hl := lamp20 l
  unfold laV laC at hl
  simp (maxSteps := 2000000) only [go_sem, reduceIte, Nat.reduceEqDiff, Nat.reduceAdd, List.replicate_succ, lk40, lk32, lk34, lk37, laV, laC]
  refine aops_pure' (hl) rfl rfl (by first | exact wk_refls _ | (repeat constructor)) ?_
  by_cases h0 : okLa l = 0
  case neg =>
    have e : slowB l = false := by unfold slowB; rw [decide_eq_false h0]; rfl
    simp (maxSteps := 2000000) only [go_sem, reduceIte, Nat.reduceEqDiff, Nat.reduceAdd, List.replicate_succ, lk40, lk32, lk34, lk37, h0, e]
  have e : slowB l = (l.li.any (fun r => decide (30 < r.hi)) || decide (12 < l.we.length)) := by unfold slowB; rw [decide_eq_true h0]; rfl
  have ok := okLa_n h0
  have h11 := ok.m11
  have hli := ok.li
  simp (maxSteps := 2000000) only [go_sem, reduceIte, Nat.reduceEqDiff, Nat.reduceAdd, List.replicate_succ, lk40, lk32, lk34, lk37, h0]
  refine goE_loop (bad := []) (kp := kp34) (fun i : Nat => { slots := [(1, .c (.ptr 0 0)), (3, I i)], heap := [.cells (laC l)], marks := [] }) (fun i => i ≤ l.li.length ∧ ∀ j x, j < i → l.li[j]? = some x → decide (30 < x.hi) = false) (fun i => l.li.length - i) 0 mo (by kernel_rfl) ?_ ⟨Nat.zero_le _, by intro j x hj; omega⟩ ?_
  · refine ent_weaken [] rfl rfl (Nat.zero_le _) rfl rfl ?_
    simp (maxSteps := 2000000) only [go_sem, reduceIte, Nat.reduceEqDiff, Nat.reduceLT, List.replicate_succ, lk40, lk32, lk34, lk37, laC]
    all_goals first | exact .refl _ | exact ⟨.refl _, .refl _⟩ | exact ⟨.refl _, .refl _, .refl _⟩ | exact ⟨.refl _, _, rfl⟩ | exact ⟨_, rfl⟩ | exact ⟨.refl _, [], by simp⟩ | exact ⟨[], by simp⟩
  rintro i ⟨hi, hall⟩
  simp (maxSteps := 2000000) only [go_sem, reduceIte, Nat.reduceEqDiff, Nat.reduceAdd, Nat.reduceLeDiff, Nat.reduceBEq, List.replicate_succ, lk40, lk32, lk34, lk37, laC]
  by_cases hlt : i < l.li.length
  · have hlt' : (i : Int) < l.li.length := by omega
    have g1 := gR_lt hlt
    have m1 : l.li.length - (i + 1) < l.li.length - i := by omega
    have hb : l.li.length ≤ 140737488355328 := by omega
    by_cases c : 30 < (gR l.li i).hi
    · have ea : l.li.any (fun r => decide (30 < r.hi)) = true := List.any_eq_true.2 ⟨_, List.mem_of_getElem? g1, by simpa using c⟩
      rw [ea, Bool.true_or] at e
      simp (maxSteps := 2000000) only [go_sem, reduceIte, Nat.reduceEqDiff, Nat.reduceAdd, Nat.reduceLeDiff, Nat.reduceBEq, List.replicate_succ, lk40, lk32, lk34, lk37, hlt', nn, g1, rgD, c, e]
    · have w7 := wr_succ hlt hb
      simp (maxSteps := 2000000) only [go_sem, reduceIte, Nat.reduceEqDiff, Nat.reduceAdd, Nat.reduceLeDiff, Nat.reduceBEq, List.replicate_succ, lk40, lk32, lk34, lk37, hlt', nn, g1, rgD, c, w7]
      refine ⟨i + 1, ⟨hlt, upto_succ hall g1 (by simpa using c)⟩, m1, ?_⟩
      refine ent_weaken [] rfl rfl (Nat.zero_le _) rfl rfl ?_
      simp (maxSteps := 2000000) only [go_sem, reduceIte, Nat.reduceEqDiff, Nat.reduceLT, List.replicate_succ, lk40, lk32, lk34, lk37, laC]
      all_goals first | exact .refl _ | exact ⟨.refl _, .refl _⟩ | exact ⟨.refl _, .refl _, .refl _⟩ | exact ⟨.refl _, _, rfl⟩ | exact ⟨_, rfl⟩ | exact ⟨.refl _, [], by simp⟩ | exact ⟨[], by simp⟩
  · have hlt' : ¬ (i : Int) < l.li.length := by omega
    have ea : l.li.any (fun r => decide (30 < r.hi)) = false := List.any_eq_false.2 fun x hx => by
      obtain ⟨j, hj⟩ := List.getElem?_of_mem hx
      have := hall j x (by have := (List.getElem?_eq_some_iff.1 hj).1; omega) hj
      simpa using this
    rw [ea, Bool.false_or] at e
    by_cases c : 12 < l.we.length
    · have c' : (12 : Int) < l.we.length := by omega
      rw [decide_eq_true c] at e
      simp (maxSteps := 2000000) only [go_sem, reduceIte, Nat.reduceEqDiff, Nat.reduceAdd, Nat.reduceBEq, List.replicate_succ, lk40, lk32, lk34, lk37, hlt', c', e]
    · have c' : ¬ (12 : Int) < l.we.length := by omega
      rw [decide_eq_false c] at e
      simp (maxSteps := 2000000) only [go_sem, reduceIte, Nat.reduceEqDiff, Nat.reduceAdd, Nat.reduceBEq, List.replicate_succ, lk40, lk32, lk34, lk37, hlt', c', e]
/-- Valid, and no contradiction. -/
def fineB (l : La) : Bool := decide (okLa l = 0) && !dbB l
theorem fine_iff (l : La) : fineB l = true ↔ okLa l = 0 ∧ dbB l = false := by simp [fineB]
set_option maxHeartbeats 1000000 in
theorem fine37 (l : La) : Pure Try.prog 37 [laV l] (B (fineB l)) := by
  refine pure_wkE (bad := []) (kp := kp37) (X := tx) (nt := 16) (rs := [.tmp 2]) Try.func37 rfl rfl rfl rfl mo (by kernel_rfl) rfl rfl (fun hf => ?_)
  have hg := great15 l
  have hl := lamp20 l
  unfold laV laC at hl hg
  simp (maxSteps := 2000000) only [go_sem, reduceIte, Nat.reduceEqDiff, Nat.reduceAdd, List.replicate_succ, lk40, lk32, lk34, lk37, laV, laC]
  refine aops_pure' (hg) rfl rfl (by first | exact wk_refls _ | (repeat constructor)) ?_
  by_cases h0 : okLa l = 0
  · have hgn := great_no h0
    have ok := okLa_n h0
    have hd := doubted26 l ok
    unfold laV laC at hd
    simp (maxSteps := 2000000) only [go_sem, reduceIte, Nat.reduceEqDiff, Nat.reduceAdd, List.replicate_succ, lk40, lk32, lk34, lk37, hgn]
    refine aops_pure' (hl) rfl rfl (by first | exact wk_refls _ | (repeat constructor)) ?_
    simp (maxSteps := 2000000) only [go_sem, reduceIte, Nat.reduceEqDiff, Nat.reduceAdd, List.replicate_succ, lk40, lk32, lk34, lk37, h0]
    refine aops_pure' (hd) rfl rfl (by first | exact wk_refls _ | (repeat constructor)) ?_
    have e : fineB l = !dbB l := by unfold fineB; rw [decide_eq_true h0]; rfl
    simp (maxSteps := 2000000) only [go_sem, reduceIte, Nat.reduceEqDiff, List.replicate_succ, lk40, lk32, lk34, lk37, e]
  · have e : fineB l = false := by unfold fineB; rw [decide_eq_false h0]; rfl
    cases hgg : greatB l with
    | true => simp (maxSteps := 2000000) only [go_sem, reduceIte, Nat.reduceEqDiff, List.replicate_succ, lk40, lk32, lk34, lk37, e]
    | false =>
      simp (maxSteps := 2000000) only [go_sem, reduceIte, Nat.reduceEqDiff, Nat.reduceAdd, List.replicate_succ, lk40, lk32, lk34, lk37]
      refine aops_pure' (hl) rfl rfl (by first | exact wk_refls _ | (repeat constructor)) ?_
      simp (maxSteps := 2000000) only [go_sem, reduceIte, Nat.reduceEqDiff, List.replicate_succ, lk40, lk32, lk34, lk37, h0, e]
end Go.Proofs.Ytliamojogmlgjaa
