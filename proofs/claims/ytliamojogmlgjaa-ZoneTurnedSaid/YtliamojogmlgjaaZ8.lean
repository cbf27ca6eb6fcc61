/- Zones: true lanterns and their flux. -/
import Derived.Test.YtliamojogmlgjaaZ5
import Derived.Test.YtliamojogmlgjaaZ6
set_option linter.unusedSimpArgs false
set_option linter.unusedVariables false
set_option maxRecDepth 100000
namespace Go.Proofs.Ytliamojogmlgjaa
open Go Go.Abs Go.Proofs
def kp46 : List (Nat × List Nat) := [(0, [0, 1]), (1, [0, 1, 5]), (2, [1, 5, 8, 9, 10]), (3, [1, 5, 8, 9, 10, 11]), (4, [1, 5, 6, 7, 8, 9, 10]), (5, [1, 5, 8, 9, 10]), (6, [1, 5, 8, 9, 10]), (7, [4])]
theorem lk46 : lookK kp46 0 = some [0, 1] ∧ lookK kp46 1 = some [0, 1, 5] ∧ lookK kp46 2 = some [1, 5, 8, 9, 10] ∧ lookK kp46 3 = some [1, 5, 8, 9, 10, 11] ∧ lookK kp46 4 = some [1, 5, 6, 7, 8, 9, 10] ∧ lookK kp46 5 = some [1, 5, 8, 9, 10] ∧ lookK kp46 6 = some [1, 5, 8, 9, 10] ∧ lookK kp46 7 = some [4] := ⟨rfl, rfl, rfl, rfl, rfl, rfl, rfl, rfl⟩
def kp47 : List (Nat × List Nat) := [(0, [0, 1]), (1, [3])]
theorem lk47 : lookK kp47 0 = some [0, 1] ∧ lookK kp47 1 = some [3] := ⟨rfl, rfl⟩
def kp52 : List (Nat × List Nat) := [(0, [0, 1]), (1, [3])]
theorem lk52 : lookK kp52 0 = some [0, 1] ∧ lookK kp52 1 = some [3] := ⟨rfl, rfl⟩
def kp22 : List (Nat × List Nat) := [(0, [1, 2]), (1, [1, 2, 11]), (2, [4]), (3, [1, 2, 19]), (4, [4]), (5, [1, 2, 5]), (6, [1, 2, 5, 24]), (7, [1, 2, 5]), (8, [1, 2, 5, 6]), (9, [1, 2, 5, 57]), (10, [4]), (11, [1, 2, 7]), (12, [1, 2, 7, 61]), (13, [1, 2, 7]), (14, [1, 2, 7, 8]), (15, [1, 2, 7, 104]), (16, [4]), (17, [4])]
theorem lk22 : lookK kp22 0 = some [1, 2] ∧ lookK kp22 1 = some [1, 2, 11] ∧ lookK kp22 2 = some [4] ∧ lookK kp22 3 = some [1, 2, 19] ∧ lookK kp22 4 = some [4] ∧ lookK kp22 5 = some [1, 2, 5] ∧ lookK kp22 6 = some [1, 2, 5, 24] ∧ lookK kp22 7 = some [1, 2, 5] ∧ lookK kp22 8 = some [1, 2, 5, 6] ∧ lookK kp22 9 = some [1, 2, 5, 57] ∧ lookK kp22 10 = some [4] ∧ lookK kp22 11 = some [1, 2, 7] ∧ lookK kp22 12 = some [1, 2, 7, 61] ∧ lookK kp22 13 = some [1, 2, 7] ∧ lookK kp22 14 = some [1, 2, 7, 8] ∧ lookK kp22 15 = some [1, 2, 7, 104] ∧ lookK kp22 16 = some [4] ∧ lookK kp22 17 = some [4] := ⟨rfl, rfl, rfl, rfl, rfl, rfl, rfl, rfl, rfl, rfl, rfl, rfl, rfl, rfl, rfl, rfl, rfl, rfl⟩
def kp18 : List (Nat × List Nat) := [(0, [1, 2]), (1, [1, 2, 9]), (2, [4, 5]), (3, [4, 5])]
theorem lk18 : lookK kp18 0 = some [1, 2] ∧ lookK kp18 1 = some [1, 2, 9] ∧ lookK kp18 2 = some [4, 5] ∧ lookK kp18 3 = some [4, 5] := ⟨rfl, rfl, rfl, rfl⟩
def kp17 : List (Nat × List Nat) := [(0, [2, 3]), (1, [2, 3, 6]), (2, [2, 3, 6, 11]), (3, [4, 5]), (4, [4, 5])]
theorem lk17 : lookK kp17 0 = some [2, 3] ∧ lookK kp17 1 = some [2, 3, 6] ∧ lookK kp17 2 = some [2, 3, 6, 11] ∧ lookK kp17 3 = some [4, 5] ∧ lookK kp17 4 = some [4, 5] := ⟨rfl, rfl, rfl, rfl, rfl⟩

set_option maxHeartbeats 1000000 in
theorem sum46f (w : List Int) (g : Nat) (caps : List C) (f : Nat → Int) (H : List AB) (hH : H.all (AB.low H.length) = true) (hcaps : C.lowL H.length caps = true) (hn : w.length ≤ 1000)
    (h1 : ∀ k, k < w.length → 0 ≤ gI w k ∧ gI w k ≤ 1000) (h2 : ∀ k, k < w.length → 0 ≤ f k ∧ f k ≤ 1000)
    (hp : ∀ k : Nat, k < w.length → ACall Try.prog g (I k :: caps.map .c) H (one (I (f k)) H)) : ACall Try.prog 46 [ints w, .c (.fn (.func g) caps)] H (one (I (sumW (gI w) f w.length)) H) := by
  refine acall_atE (bad := []) (kp := kp46) (X := tx) (nt := 24) (rs := [.tmp 4]) Try.func46 rfl rfl rfl rfl mo (by kernel_rfl) rfl hH (fun hf => ?_)
  simp (maxSteps := 2000000) only [go_sem, reduceIte, Nat.reduceEqDiff, Nat.reduceAdd, List.replicate_succ, lk46, lk47, lk52, lk22, lk18, lk17, ints]
  refine goE_loop (bad := []) (kp := kp46) (fun i : Nat => { slots := [(1, .c (.fn (.func g) caps)), (5, I (sumW (gI w) f i)), (8, ints w), (9, I w.length), (10, I i)], heap := H, marks := [] }) (fun i => i ≤ w.length) (fun i => w.length - i) 0 mo (by kernel_rfl) ?_ (Nat.zero_le _) ?_
  · refine ent_weaken [] (by simp) rfl (Nat.le_refl _) hH rfl ?_
    simp (maxSteps := 2000000) only [go_sem, reduceIte, Nat.reduceEqDiff, List.replicate_succ, lk46, lk47, lk52, lk22, lk18, lk17, hcaps, ints, sumW]
    all_goals first | exact .refl _ | exact ⟨.refl _, .refl _⟩ | exact ⟨.refl _, .refl _, .refl _⟩ | exact ⟨.refl _, _, rfl⟩ | exact ⟨_, rfl⟩ | exact ⟨.refl _, [], by simp⟩ | exact ⟨[], by simp⟩
  rintro i hi
  simp (maxSteps := 2000000) only [go_sem, reduceIte, Nat.reduceEqDiff, Nat.reduceAdd, List.replicate_succ, lk46, lk47, lk52, lk22, lk18, lk17, ints]
  by_cases hlt : i < w.length
  · have hlt' : (i : Int) < w.length := by omega
    have g1 := gI_lt hlt
    have m1 : w.length - (i + 1) < w.length - i := by omega
    have hpx := hp i hlt
    obtain ⟨w1, w2⟩ := wr_sum (w := gI w) (f := f) (n := i) (by omega) (fun k hk => h1 k (by omega)) (fun k hk => h2 k (by omega))
    have w7 := wr_succ hlt (Nat.le_trans hn (by decide))
    simp (maxSteps := 2000000) only [go_sem, reduceIte, Nat.reduceEqDiff, Nat.reduceAdd, List.replicate_succ, lk46, lk47, lk52, lk22, lk18, lk17, hlt', nn, g1, iD]
    refine aops_at (hpx) rfl rfl (by first | exact wk_refls _ | (repeat constructor)) ?_
    simp (maxSteps := 2000000) only [go_sem, reduceIte, Nat.reduceEqDiff, List.replicate_succ, lk46, lk47, lk52, lk22, lk18, lk17, w1, w2, w7]
    refine ⟨i + 1, hlt, m1, ?_⟩
    refine ent_weaken [] (by simp) rfl (Nat.le_refl _) hH rfl ?_
    simp (maxSteps := 2000000) only [go_sem, reduceIte, Nat.reduceEqDiff, List.replicate_succ, lk46, lk47, lk52, lk22, lk18, lk17, hcaps, ints]
    all_goals first | exact .refl _ | exact ⟨.refl _, .refl _⟩ | exact ⟨.refl _, .refl _, .refl _⟩ | exact ⟨.refl _, _, rfl⟩ | exact ⟨_, rfl⟩ | exact ⟨.refl _, [], by simp⟩ | exact ⟨[], by simp⟩
  · have hlt' : ¬ (i : Int) < w.length := by omega
    have e : i = w.length := by omega
    subst e
    simp (maxSteps := 2000000) only [go_sem, reduceIte, Nat.reduceEqDiff, Nat.reduceAdd, List.replicate_succ, lk46, lk47, lk52, lk22, lk18, lk17, hlt']
    all_goals first | exact .refl _ | exact ⟨.refl _, .refl _⟩ | exact ⟨.refl _, .refl _, .refl _⟩ | exact ⟨.refl _, _, rfl⟩ | exact ⟨_, rfl⟩ | exact ⟨.refl _, [], by simp⟩ | exact ⟨[], by simp⟩
set_option maxHeartbeats 1000000 in
theorem sum46m (w : List Int) (g : Nat) (c : C) (f : Nat → Int) (H : List AB) (hH : H.all (AB.low H.length) = true) (hc : c.low H.length = true) (hn : w.length ≤ 1000)
    (h1 : ∀ k, k < w.length → 0 ≤ gI w k ∧ gI w k ≤ 1000) (h2 : ∀ k, k < w.length → 0 ≤ f k ∧ f k ≤ 1000)
    (hp : ∀ k : Nat, k < w.length → ACall Try.prog g [.c c, I k] H (one (I (f k)) H)) : ACall Try.prog 46 [ints w, .c (.mv (.func g) c)] H (one (I (sumW (gI w) f w.length)) H) := by
  refine acall_atE (bad := []) (kp := kp46) (X := tx) (nt := 24) (rs := [.tmp 4]) Try.func46 rfl rfl rfl rfl mo (by kernel_rfl) rfl hH (fun hf => ?_)
  simp (maxSteps := 2000000) only [go_sem, reduceIte, Nat.reduceEqDiff, Nat.reduceAdd, List.replicate_succ, lk46, lk47, lk52, lk22, lk18, lk17, ints]
  refine goE_loop (bad := []) (kp := kp46) (fun i : Nat => { slots := [(1, .c (.mv (.func g) c)), (5, I (sumW (gI w) f i)), (8, ints w), (9, I w.length), (10, I i)], heap := H, marks := [] }) (fun i => i ≤ w.length) (fun i => w.length - i) 0 mo (by kernel_rfl) ?_ (Nat.zero_le _) ?_
  · refine ent_weaken [] (by simp) rfl (Nat.le_refl _) hH rfl ?_
    simp (maxSteps := 2000000) only [go_sem, reduceIte, Nat.reduceEqDiff, List.replicate_succ, lk46, lk47, lk52, lk22, lk18, lk17, hc, ints, sumW]
    all_goals first | exact .refl _ | exact ⟨.refl _, .refl _⟩ | exact ⟨.refl _, .refl _, .refl _⟩ | exact ⟨.refl _, _, rfl⟩ | exact ⟨_, rfl⟩ | exact ⟨.refl _, [], by simp⟩ | exact ⟨[], by simp⟩
  rintro i hi
  simp (maxSteps := 2000000) only [go_sem, reduceIte, Nat.reduceEqDiff, Nat.reduceAdd, List.replicate_succ, lk46, lk47, lk52, lk22, lk18, lk17, ints]
  by_cases hlt : i < w.length
  · have hlt' : (i : Int) < w.length := by omega
    have g1 := gI_lt hlt
    have m1 : w.length - (i + 1) < w.length - i := by omega
    have hpx := hp i hlt
    obtain ⟨w1, w2⟩ := wr_sum (w := gI w) (f := f) (n := i) (by omega) (fun k hk => h1 k (by omega)) (fun k hk => h2 k (by omega))
    have w7 := wr_succ hlt (Nat.le_trans hn (by decide))
    simp (maxSteps := 2000000) only [go_sem, reduceIte, Nat.reduceEqDiff, Nat.reduceAdd, List.replicate_succ, lk46, lk47, lk52, lk22, lk18, lk17, hlt', nn, g1, iD]
    refine aops_at (hpx) rfl rfl (by first | exact wk_refls _ | (repeat constructor)) ?_
    simp (maxSteps := 2000000) only [go_sem, reduceIte, Nat.reduceEqDiff, List.replicate_succ, lk46, lk47, lk52, lk22, lk18, lk17, w1, w2, w7]
    refine ⟨i + 1, hlt, m1, ?_⟩
    refine ent_weaken [] (by simp) rfl (Nat.le_refl _) hH rfl ?_
    simp (maxSteps := 2000000) only [go_sem, reduceIte, Nat.reduceEqDiff, List.replicate_succ, lk46, lk47, lk52, lk22, lk18, lk17, hc, ints]
    all_goals first | exact .refl _ | exact ⟨.refl _, .refl _⟩ | exact ⟨.refl _, .refl _, .refl _⟩ | exact ⟨.refl _, _, rfl⟩ | exact ⟨_, rfl⟩ | exact ⟨.refl _, [], by simp⟩ | exact ⟨[], by simp⟩
  · have hlt' : ¬ (i : Int) < w.length := by omega
    have e : i = w.length := by omega
    subst e
    simp (maxSteps := 2000000) only [go_sem, reduceIte, Nat.reduceEqDiff, Nat.reduceAdd, List.replicate_succ, lk46, lk47, lk52, lk22, lk18, lk17, hlt']
    all_goals first | exact .refl _ | exact ⟨.refl _, .refl _⟩ | exact ⟨.refl _, .refl _, .refl _⟩ | exact ⟨.refl _, _, rfl⟩ | exact ⟨_, rfl⟩ | exact ⟨.refl _, [], by simp⟩ | exact ⟨[], by simp⟩
/-- A light out of the range at an angle; a light that rises or falls where it must not. -/
def badL (l : La) (x : List Int) (i : Nat) : Bool := decide (gI x (P l i) < lis l i) || decide (his l i < gI x (P l i))
def badS (l : La) (x : List Int) (j : Nat) : Bool := if dir l (j + 1) then decide (gI x j < gI x (j + 1)) else decide (gI x (j + 1) < gI x j)
def ctE (l : La) (x : List Int) : Int :=
  if okLa l = 0 then (if x.length = l.we.length then (if fstN (badL l x) l.an.length < l.an.length then 3 else if fstN (badS l x) (l.we.length - 1) < l.we.length - 1 then 16 else 0) else 15) else okLa l
theorem ctE_bad {l : La} (h : ¬ okLa l = 0) (x : List Int) : ctE l x = okLa l := by unfold ctE; rw [if_neg h]
theorem ctE_len {l : La} {x : List Int} (h : okLa l = 0) (h2 : ¬ x.length = l.we.length) : ctE l x = 15 := by unfold ctE; rw [if_pos h, if_neg h2]
theorem ctE_3 {l : La} {x : List Int} (h : okLa l = 0) (h2 : x.length = l.we.length) {i : Nat} (hi : i < l.an.length) (hb : badL l x i = true) (hall : ∀ j, j < i → badL l x j = false) : ctE l x = 3 := by
  unfold ctE; rw [if_pos h, if_pos h2, fstN_eq hb hall hi, if_pos hi]
theorem ctE_16 {l : La} {x : List Int} (h : okLa l = 0) (h2 : x.length = l.we.length) (hall : ∀ j, j < l.an.length → badL l x j = false) {k : Nat} (hk : k + 1 < l.we.length) (hb : badS l x k = true) (hal : ∀ j, j < k → badS l x j = false) : ctE l x = 16 := by
  unfold ctE; rw [if_pos h, if_pos h2, fstN_none hall, if_neg (Nat.lt_irrefl _), fstN_eq hb hal (by omega), if_pos (by omega)]
theorem ctE_0 {l : La} {x : List Int} (h : okLa l = 0) (h2 : x.length = l.we.length) (hall : ∀ j, j < l.an.length → badL l x j = false) (hal : ∀ j, j + 1 < l.we.length → badS l x j = false) : ctE l x = 0 := by
  unfold ctE; rw [if_pos h, if_pos h2, fstN_none hall, if_neg (Nat.lt_irrefl _), fstN_none (fun j hj => hal j (by omega)), if_neg (Nat.lt_irrefl _)]
theorem ctE_true {l : La} {x : List Int} (h : ctE l x = 0) : okLa l = 0 ∧ x.length = l.we.length ∧ (∀ i, i < l.an.length → lis l i ≤ gI x (P l i) ∧ gI x (P l i) ≤ his l i) ∧ ∀ j, j + 1 < l.we.length → if dir l (j + 1) then gI x (j + 1) ≤ gI x j else gI x j ≤ gI x (j + 1) := by
  have none : ∀ (p : Nat → Bool) (m : Nat), ¬ fstN p m < m → ∀ j, j < m → p j = false := fun p m => by
    induction m with
    | zero => intro _ j hj; omega
    | succ m ih =>
      intro hm j hj
      rw [fstN] at hm
      by_cases e2 : fstN p m < m
      · rw [if_pos e2] at hm; omega
      · rw [if_neg e2] at hm
        by_cases e3 : j = m
        · subst e3
          cases hq : p j with
          | false => rfl
          | true => rw [hq, if_pos rfl] at hm; omega
        · exact ih e2 j (by omega)
  unfold ctE at h
  split at h
  case isFalse hne => exact absurd h hne
  rename_i h0
  split at h
  case isFalse => simp at h
  rename_i h1
  split at h
  · simp at h
  rename_i h2
  split at h
  · simp at h
  rename_i h3
  refine ⟨h0, h1, fun i hi => ?_, fun j hj => ?_⟩
  · have := none _ _ h2 i hi
    simp [badL] at this; omega
  · have := none _ _ h3 j (by omega)
    unfold badS at this
    split
    · rename_i hd; rw [if_pos hd] at this; simp at this; omega
    · rename_i hd; rw [if_neg hd] at this; simp at this; omega
theorem at_deg {l : La} (h : OkLa l) {i : Nat} (hi : i < l.an.length) : gI l.an i - gI l.an 0 = (P l i : Int) := (h.p hi).symm
set_option maxHeartbeats 4000000 in
theorem true22 (l : La) (x : List Int) : Pure Try.prog 22 [laV l, ints x] (I (ctE l x)) := by
  refine pure_wkE (bad := []) (kp := kp22) (X := tx) (nt := 105) (rs := [.tmp 4]) Try.func22 rfl rfl rfl rfl mo (by kernel_rfl) rfl rfl (fun hf => ?_)
  have hl := lamp20 l
  unfold laV laC at hl
  simp (maxSteps := 2000000) only [go_sem, reduceIte, Nat.reduceEqDiff, Nat.reduceAdd, List.replicate_succ, lk46, lk47, lk52, lk22, lk18, lk17, laV, laC, ints]
  refine aops_pure' (hl) rfl rfl (by first | exact wk_refls _ | (repeat constructor)) ?_
  by_cases h0 : okLa l = 0
  case neg =>
    have e := ctE_bad h0 x
    simp (maxSteps := 2000000) only [go_sem, reduceIte, Nat.reduceEqDiff, Nat.reduceAdd, List.replicate_succ, lk46, lk47, lk52, lk22, lk18, lk17, h0]
    refine aops_pure' (hl) rfl rfl (by first | exact wk_refls _ | (repeat constructor)) ?_
    simp (maxSteps := 2000000) only [go_sem, reduceIte, Nat.reduceEqDiff, List.replicate_succ, lk46, lk47, lk52, lk22, lk18, lk17, e]
  by_cases h1 : x.length = l.we.length
  case neg =>
    have h1' : ¬ (x.length : Int) = l.we.length := by omega
    have e := ctE_len h0 h1
    simp (maxSteps := 2000000) only [go_sem, reduceIte, Nat.reduceEqDiff, Nat.reduceAdd, Nat.reduceBEq, List.replicate_succ, lk46, lk47, lk52, lk22, lk18, lk17, h0, h1', e]
  have h1' : (x.length : Int) = l.we.length := by omega
  have ok := okLa_n h0
  obtain ⟨n2, n91⟩ := ok.n91
  have m2 := ok.m2
  have m11 := ok.m11
  have hli := ok.li
  have hwe := ok.we
  simp (maxSteps := 2000000) only [go_sem, reduceIte, Nat.reduceEqDiff, Nat.reduceAdd, Nat.reduceBEq, List.replicate_succ, lk46, lk47, lk52, lk22, lk18, lk17, h0, h1']
  refine goE_loop (bad := []) (kp := kp22) (fun i : Nat => { slots := [(1, ints x), (2, .c (.ptr 0 0)), (5, I i)], heap := [.cells (laC l)], marks := [] }) (fun i => i ≤ l.an.length ∧ ∀ j, j < i → badL l x j = false) (fun i => l.an.length - i) 0 mo (by kernel_rfl) ?_ ⟨Nat.zero_le _, by intro j hj; omega⟩ ?_
  · refine ent_weaken [] rfl rfl (Nat.zero_le _) rfl rfl ?_
    simp (maxSteps := 2000000) only [go_sem, reduceIte, Nat.reduceEqDiff, Nat.reduceLT, List.replicate_succ, lk46, lk47, lk52, lk22, lk18, lk17, laC, ints]
    all_goals first | exact .refl _ | exact ⟨.refl _, .refl _⟩ | exact ⟨.refl _, .refl _, .refl _⟩ | exact ⟨.refl _, _, rfl⟩ | exact ⟨_, rfl⟩ | exact ⟨.refl _, [], by simp⟩ | exact ⟨[], by simp⟩
  rintro i ⟨hi, hall⟩
  simp (maxSteps := 2000000) only [go_sem, reduceIte, Nat.reduceEqDiff, Nat.reduceAdd, Nat.reduceLeDiff, Nat.reduceBEq, List.replicate_succ, lk46, lk47, lk52, lk22, lk18, lk17, laC, ints]
  by_cases hlt : i < l.an.length
  · have hlt' : (i : Int) < l.an.length := by omega
    have hlr : (i : Int) < l.li.length := by omega
    have p0 : (0 : Int) < l.an.length := by omega
    have g0 := gI_lt (l := l.an) (i := 0) (by omega)
    have g1 := gI_lt hlt
    have g2 := gR_lt (l := l.li) (i := i) (by omega)
    have hPn := (lay ok).lt hlt
    have gx := gI_lt (l := x) (i := P l i) (by omega)
    have hPx : (P l i : Int) < x.length := by omega
    have m1 : l.an.length - (i + 1) < l.an.length - i := by omega
    have hbl : badL l x i = (decide (gI x (P l i) < (gR l.li i).lo) || decide ((gR l.li i).hi < gI x (P l i))) := rfl
    have hr := ok.a0 i hlt
    have hr0 := ok.a0 0 (by omega)
    have hda := at_deg ok hlt
    have w1 : wr .i64 (gI l.an i - gI l.an 0) = (P l i : Int) := by rw [wr_in (by omega), hda]
    by_cases c1 : gI x (P l i) < (gR l.li i).lo
    · have e := ctE_3 h0 h1 hlt (by rw [hbl, decide_eq_true c1]; rfl) hall
      simp (maxSteps := 2000000) only [go_sem, reduceIte, Nat.reduceEqDiff, Nat.reduceAdd, Nat.reduceLeDiff, Nat.reduceBEq, Int.reduceLE, Int.reduceToNat, List.replicate_succ, lk46, lk47, lk52, lk22, lk18, lk17, hlt', nn, p0, g0, g1, iD, w1, hPx, gx, hlr, g2, rgD, c1, e]
    by_cases c2 : (gR l.li i).hi < gI x (P l i)
    · have e := ctE_3 h0 h1 hlt (by rw [hbl, decide_eq_true c2, Bool.or_true]) hall
      simp (maxSteps := 2000000) only [go_sem, reduceIte, Nat.reduceEqDiff, Nat.reduceAdd, Nat.reduceLeDiff, Nat.reduceBEq, Int.reduceLE, Int.reduceToNat, List.replicate_succ, lk46, lk47, lk52, lk22, lk18, lk17, hlt', nn, p0, g0, g1, iD, w1, hPx, gx, hlr, g2, rgD, c1, c2, e]
    have hb : badL l x i = false := by rw [hbl, decide_eq_false c1, decide_eq_false c2]; rfl
    have hall2 : ∀ j, j < i + 1 → badL l x j = false := fun j hj => by
      by_cases e : j = i
      · subst e; exact hb
      · exact hall j (Nat.lt_of_le_of_ne (Nat.le_of_lt_succ hj) e)
    have w7 := wr_succ hlt (Nat.le_trans m11 (by decide))
    simp (maxSteps := 2000000) only [go_sem, reduceIte, Nat.reduceEqDiff, Nat.reduceAdd, Nat.reduceLeDiff, Nat.reduceBEq, Int.reduceLE, Int.reduceToNat, List.replicate_succ, lk46, lk47, lk52, lk22, lk18, lk17, hlt', nn, p0, g0, g1, iD, w1, hPx, gx, hlr, g2, rgD, c1, c2, w7]
    refine ⟨i + 1, ⟨hlt, hall2⟩, m1, ?_⟩
    refine ent_weaken [] rfl rfl (Nat.zero_le _) rfl rfl ?_
    simp (maxSteps := 2000000) only [go_sem, reduceIte, Nat.reduceEqDiff, Nat.reduceLT, List.replicate_succ, lk46, lk47, lk52, lk22, lk18, lk17, laC, ints]
    all_goals first | exact .refl _ | exact ⟨.refl _, .refl _⟩ | exact ⟨.refl _, .refl _, .refl _⟩ | exact ⟨.refl _, _, rfl⟩ | exact ⟨_, rfl⟩ | exact ⟨.refl _, [], by simp⟩ | exact ⟨[], by simp⟩
  have hlt' : ¬ (i : Int) < l.an.length := by omega
  have ei : i = l.an.length := by omega
  subst ei
  simp (maxSteps := 2000000) only [go_sem, reduceIte, Nat.reduceEqDiff, Nat.reduceAdd, List.replicate_succ, lk46, lk47, lk52, lk22, lk18, lk17, hlt']
  clear hlt hlt' hi
  refine goE_loop (bad := []) (kp := kp22) (fun j : Nat => { slots := [(1, ints x), (2, .c (.ptr 0 0)), (7, I ((j + 1 : Nat) : Int))], heap := [.cells (laC l)], marks := [] }) (fun j => j + 1 ≤ l.we.length ∧ ∀ i, i < j → badS l x i = false) (fun j => l.we.length - j) 0 mo (by kernel_rfl) ?_ ⟨by omega, by intro j hj; omega⟩ ?_
  · refine ent_weaken [] rfl rfl (Nat.zero_le _) rfl rfl ?_
    simp (maxSteps := 2000000) only [go_sem, reduceIte, Nat.reduceEqDiff, Nat.reduceLT, List.replicate_succ, lk46, lk47, lk52, lk22, lk18, lk17, laC, ints]
    all_goals first | exact .refl _ | exact ⟨.refl _, .refl _⟩ | exact ⟨.refl _, .refl _, .refl _⟩ | exact ⟨.refl _, _, rfl⟩ | exact ⟨_, rfl⟩ | exact ⟨.refl _, [], by simp⟩ | exact ⟨[], by simp⟩
  rintro m ⟨hm, hal⟩
  simp (maxSteps := 2000000) only [go_sem, reduceIte, Nat.reduceEqDiff, Nat.reduceAdd, List.replicate_succ, lk46, lk47, lk52, lk22, lk18, lk17, laC, ints]
  by_cases hml : m + 1 < l.we.length
  · have hml' : ((m + 1 : Nat) : Int) < x.length := by omega
    have hm0 : (m : Int) < x.length := by omega
    have hp0 : (0 : Int) < l.an.length := by omega
    have g0 := gI_lt (l := l.an) (i := 0) (by omega)
    have hr0 := ok.a0 0 (by omega)
    have hdg : gI l.an 0 + ((m + 1 : Nat) : Int) ≤ gI l.an (l.an.length - 1) := by omega
    have hgap := gap53 l (gI l.an 0 + ((m + 1 : Nat) : Int)) m2 m11 hdg
    obtain ⟨gi, q1, q2, q3⟩ := (lay ok).gap (k := m + 1) (by omega) hml
    have hgl : gapN l (gI l.an 0 + ((m + 1 : Nat) : Int)) < l.fa.length := by
      have a := ok.p (i := gi) (by omega)
      have b := ok.p (i := gi + 1) q1
      have := ok.fa
      rw [gap_eq ok (i := gi) q1 (by omega) (by omega)]; omega
    have hgl' : ((gapN l (gI l.an 0 + ((m + 1 : Nat) : Int)) : Nat) : Int) < l.fa.length := by omega
    have gf := gB_lt hgl
    have hd : gB l.fa (gapN l (gI l.an 0 + ((m + 1 : Nat) : Int))) = dir l (m + 1) := rfl
    rw [hd] at gf
    have mm : l.we.length - (m + 1) < l.we.length - m := by omega
    have v1 := gI_lt (l := x) (i := m) (by omega)
    have v2 := gI_lt (l := x) (i := m + 1) (by omega)
    have hbs : badS l x m = if dir l (m + 1) then decide (gI x m < gI x (m + 1)) else decide (gI x (m + 1) < gI x m) := rfl
    generalize gapN l (gI l.an 0 + ((m + 1 : Nat) : Int)) = gq at *
    have h1000 : m < 1000 := by omega
    have hal2 : badS l x m = false → ∀ i, i < m + 1 → badS l x i = false := fun hb j hj => by
      by_cases e : j = m
      · subst e; exact hb
      · exact hal j (by omega)
    unfold laV laC at hgap
    have wg : wr .i64 (gI l.an 0 + ((m + 1 : Nat) : Int)) = gI l.an 0 + ((m + 1 : Nat) : Int) := wr_in (by omega)
    have wp : wr .i64 (((m + 1 : Nat) : Int) - 1) = (m : Int) := wr_pred' m h1000
    have w7 := wr_succ hml (Nat.le_trans n91 (by decide))
    simp (maxSteps := 2000000) only [go_sem, reduceIte, Nat.reduceEqDiff, Nat.reduceAdd, Nat.reduceLeDiff, Nat.reduceBEq, Int.reduceLE, Int.reduceToNat, List.replicate_succ, lk46, lk47, lk52, lk22, lk18, lk17, hml', wp, hp0, g0, iD, wg]
    refine dops_pure' (hgap) rfl rfl (by first | exact wk_refls _ | (repeat constructor)) (by kernel_rfl) ?_
    cases hdir : dir l (m + 1) with
    | true =>
      rw [hdir] at gf
      rw [hdir, if_pos rfl] at hbs
      by_cases c : gI x m < gI x (m + 1)
      · have e := ctE_16 h0 h1 hall hml (by rw [hbs, decide_eq_true c]) hal
        simp (maxSteps := 2000000) only [go_sem, reduceIte, Nat.reduceEqDiff, Nat.reduceAdd, List.replicate_succ, lk46, lk47, lk52, lk22, lk18, lk17, nn, hgl', gf, bD, wp, hml', hm0, v1, v2, iD, c, e]
      · have hb : badS l x m = false := by rw [hbs, decide_eq_false c]
        simp (maxSteps := 2000000) only [go_sem, reduceIte, Nat.reduceEqDiff, Nat.reduceAdd, List.replicate_succ, lk46, lk47, lk52, lk22, lk18, lk17, nn, hgl', gf, bD, wp, hml', hm0, v1, v2, iD, c, w7]
        refine ⟨m + 1, ⟨hml, hal2 hb⟩, mm, ?_⟩
        refine ent_weaken [] rfl rfl (Nat.zero_le _) rfl rfl ?_
        simp (maxSteps := 2000000) only [go_sem, reduceIte, Nat.reduceEqDiff, Nat.reduceLT, List.replicate_succ, lk46, lk47, lk52, lk22, lk18, lk17, laC, ints]
        all_goals first | exact .refl _ | exact ⟨.refl _, .refl _⟩ | exact ⟨.refl _, .refl _, .refl _⟩ | exact ⟨.refl _, _, rfl⟩ | exact ⟨_, rfl⟩ | exact ⟨.refl _, [], by simp⟩ | exact ⟨[], by simp⟩
    | false =>
      rw [hdir] at gf
      rw [hdir, if_neg (by decide)] at hbs
      by_cases c : gI x (m + 1) < gI x m
      · have e := ctE_16 h0 h1 hall hml (by rw [hbs, decide_eq_true c]) hal
        simp (maxSteps := 2000000) only [go_sem, reduceIte, Nat.reduceEqDiff, Nat.reduceAdd, List.replicate_succ, lk46, lk47, lk52, lk22, lk18, lk17, nn, hgl', gf, bD, wp, hml', hm0, v1, v2, iD, c, e]
      · have hb : badS l x m = false := by rw [hbs, decide_eq_false c]
        simp (maxSteps := 2000000) only [go_sem, reduceIte, Nat.reduceEqDiff, Nat.reduceAdd, List.replicate_succ, lk46, lk47, lk52, lk22, lk18, lk17, nn, hgl', gf, bD, wp, hml', hm0, v1, v2, iD, c, w7]
        refine ⟨m + 1, ⟨hml, hal2 hb⟩, mm, ?_⟩
        refine ent_weaken [] rfl rfl (Nat.zero_le _) rfl rfl ?_
        simp (maxSteps := 2000000) only [go_sem, reduceIte, Nat.reduceEqDiff, Nat.reduceLT, List.replicate_succ, lk46, lk47, lk52, lk22, lk18, lk17, laC, ints]
        all_goals first | exact .refl _ | exact ⟨.refl _, .refl _⟩ | exact ⟨.refl _, .refl _, .refl _⟩ | exact ⟨.refl _, _, rfl⟩ | exact ⟨_, rfl⟩ | exact ⟨.refl _, [], by simp⟩ | exact ⟨[], by simp⟩
  · have hml' : ¬ ((m + 1 : Nat) : Int) < x.length := by omega
    have e := ctE_0 h0 h1 hall (fun j hj => hal j (by omega))
    simp (maxSteps := 2000000) only [go_sem, reduceIte, Nat.reduceEqDiff, Nat.reduceAdd, List.replicate_succ, lk46, lk47, lk52, lk22, lk18, lk17, hml', e]
theorem true_range {l : La} {x : List Int} (h : ctE l x = 0) {k : Nat} (hk : k < l.we.length) : bl l k ≤ gI x k ∧ gI x k ≤ bh l k := by
  obtain ⟨h0, h1, h2, h3⟩ := ctE_true h
  have ok := okLa_n h0
  have hrange : ∀ k, k < l.we.length → 0 ≤ gI x k ∧ gI x k ≤ 200 := fun k hk => by
    -- between two angles
    by_cases e : angN l k < l.an.length
    · have a := h2 _ e
      rw [ang_at ok e] at a
      have b := ok.lr _ e
      unfold lis his at a; omega
    · have hk0 : 0 < k := by
        by_cases e2 : 0 < k
        · exact e2
        · have hz : k = 0 := by omega
          subst hz
          have hm := ok.m2
          have := ang_eq ok (i := 0) (by omega)
          rw [(lay ok).p0] at this
          exact absurd (by rw [this]; omega) e
      obtain ⟨i, hi, q1, q2⟩ := (lay ok).gap hk0 hk
      have gm := gap_mono (lay ok) (g := gI x) (fun j hj => h3 j hj) hi
      have a1 := gm (k - P l i) (P l i) (Nat.le_refl _) (by omega)
      have a2 := gm (P l (i + 1) - k) k (by omega) (by omega)
      rw [show P l i + (k - P l i) = k by omega] at a1
      rw [show k + (P l (i + 1) - k) = P l (i + 1) by omega] at a2
      have b1 := h2 i (by omega)
      have b2 := h2 (i + 1) hi
      have c1 := ok.lr i (by omega)
      have c2 := ok.lr (i + 1) hi
      unfold lis his at b1 b2
      cases hd : da l (i + 1) <;> simp [hd] at a1 a2 <;> omega
  refine mono_between (fun j hj => h3 j hj) (fun j hj => ?_) (fun j hj => ?_) hk
  · unfold L0 L0m
    split
    · rename_i e
      have a := h2 _ e
      rw [ang_at ok e] at a; exact a.1
    · exact (hrange j hj).1
  · unfold H0 H0m
    split
    · rename_i e
      have a := h2 _ e
      rw [ang_at ok e] at a; exact a.2
    · exact (hrange j hj).2
theorem true_200 {l : La} {x : List Int} (h : ctE l x = 0) {k : Nat} (hk : k < l.we.length) : 0 ≤ gI x k ∧ gI x k ≤ 200 := by
  have ok := okLa_n (ctE_true h).1
  have a := true_range h hk
  have b := bl_range ok hk
  have c := bh_range ok hk
  omega
def fxN (l : La) (x : List Int) : Int := if ctE l x = 0 then sumW (gI l.we) (gI x) l.we.length else 0
set_option maxHeartbeats 1000000 in
theorem flux18 (l : La) (x : List Int) : Pure Try.prog 18 [laV l, ints x] (.tup [I (fxN l x), I (ctE l x)]) := by
  refine pure_wkE (bad := []) (kp := kp18) (X := tx) (nt := 17) (rs := [.tmp 4, .tmp 5]) Try.func18 rfl rfl rfl rfl mo (by kernel_rfl) rfl rfl (fun hf => ?_)
  have hc := true22 l x
  unfold laV laC ints at hc
  simp (maxSteps := 2000000) only [go_sem, reduceIte, Nat.reduceEqDiff, Nat.reduceAdd, List.replicate_succ, lk46, lk47, lk52, lk22, lk18, lk17, laV, laC, ints]
  refine aops_pure' (hc) rfl rfl (by first | exact wk_refls _ | (repeat constructor)) ?_
  by_cases h : ctE l x = 0
  · have ok := okLa_n (ctE_true h).1
    have hx := (ctE_true h).2.1
    obtain ⟨n2, n91⟩ := ok.n91
    have hs := sum38 l.we x (by omega) (by omega) ok.wr (fun k hk => by have := true_200 h hk; omega)
    have e : fxN l x = sumW (gI l.we) (gI x) l.we.length := by unfold fxN; rw [if_pos h]
    unfold ints at hs
    simp (maxSteps := 2000000) only [go_sem, reduceIte, Nat.reduceEqDiff, Nat.reduceAdd, Nat.reduceBEq, List.replicate_succ, lk46, lk47, lk52, lk22, lk18, lk17, h]
    refine aops_pure' (hs) rfl rfl (by first | exact wk_refls _ | (repeat constructor)) ?_
    simp (maxSteps := 2000000) only [go_sem, reduceIte, Nat.reduceEqDiff, List.replicate_succ, lk46, lk47, lk52, lk22, lk18, lk17, e, h]
    all_goals first | exact .refl _ | exact ⟨.refl _, .refl _⟩ | exact ⟨.refl _, .refl _, .refl _⟩ | exact ⟨.refl _, _, rfl⟩ | exact ⟨_, rfl⟩ | exact ⟨.refl _, [], by simp⟩ | exact ⟨[], by simp⟩
  · have e : fxN l x = 0 := by unfold fxN; rw [if_neg h]
    simp (maxSteps := 2000000) only [go_sem, reduceIte, Nat.reduceEqDiff, Nat.reduceAdd, List.replicate_succ, lk46, lk47, lk52, lk22, lk18, lk17, h]
    refine aops_pure' (hc) rfl rfl (by first | exact wk_refls _ | (repeat constructor)) ?_
    simp (maxSteps := 2000000) only [go_sem, reduceIte, Nat.reduceEqDiff, List.replicate_succ, lk46, lk47, lk52, lk22, lk18, lk17, e]
    all_goals first | exact .refl _ | exact ⟨.refl _, .refl _⟩ | exact ⟨.refl _, .refl _, .refl _⟩ | exact ⟨.refl _, _, rfl⟩ | exact ⟨_, rfl⟩ | exact ⟨.refl _, [], by simp⟩ | exact ⟨[], by simp⟩
end Go.Proofs.Ytliamojogmlgjaa
