/- Zones: the program's answers: spans, ends, lights at degrees, coated flux. -/
import Derived.Test.YtliamojogmlgjaaZ12
set_option linter.unusedSimpArgs false
set_option linter.unusedVariables false
set_option maxRecDepth 100000
namespace Go.Proofs.Ytliamojogmlgjaa
open Go Go.Abs Go.Proofs
def kp57 : List (Nat × List Nat) := [(0, [1]), (1, [1, 4]), (2, [1, 4, 8]), (3, [2, 3]), (4, [1, 13]), (5, [2, 3]), (6, [2, 3])]
theorem lk57 : lookK kp57 0 = some [1] ∧ lookK kp57 1 = some [1, 4] ∧ lookK kp57 2 = some [1, 4, 8] ∧ lookK kp57 3 = some [2, 3] ∧ lookK kp57 4 = some [1, 13] ∧ lookK kp57 5 = some [2, 3] ∧ lookK kp57 6 = some [2, 3] := ⟨rfl, rfl, rfl, rfl, rfl, rfl, rfl⟩
def kp27 : List (Nat × List Nat) := [(0, [1, 2]), (1, [2, 4, 5]), (2, [2, 4, 5, 12]), (3, [2, 3]), (4, [2, 3])]
theorem lk27 : lookK kp27 0 = some [1, 2] ∧ lookK kp27 1 = some [2, 4, 5] ∧ lookK kp27 2 = some [2, 4, 5, 12] ∧ lookK kp27 3 = some [2, 3] ∧ lookK kp27 4 = some [2, 3] := ⟨rfl, rfl, rfl, rfl, rfl⟩
def kp29 : List (Nat × List Nat) := [(0, [1, 2, 4]), (1, [1, 2, 4, 6]), (2, [1, 2, 4, 6, 10]), (3, [4, 5]), (4, [1, 2, 4, 15]), (5, [4, 5]), (6, [1, 2, 4, 6, 7]), (7, [1, 2, 4, 6, 7, 41]), (8, [4, 5]), (9, [4, 5])]
theorem lk29 : lookK kp29 0 = some [1, 2, 4] ∧ lookK kp29 1 = some [1, 2, 4, 6] ∧ lookK kp29 2 = some [1, 2, 4, 6, 10] ∧ lookK kp29 3 = some [4, 5] ∧ lookK kp29 4 = some [1, 2, 4, 15] ∧ lookK kp29 5 = some [4, 5] ∧ lookK kp29 6 = some [1, 2, 4, 6, 7] ∧ lookK kp29 7 = some [1, 2, 4, 6, 7, 41] ∧ lookK kp29 8 = some [4, 5] ∧ lookK kp29 9 = some [4, 5] := ⟨rfl, rfl, rfl, rfl, rfl, rfl, rfl, rfl, rfl, rfl⟩

def opV (l : La) : V := if spE l = 0 then tbV l else .c .nilp
theorem opV_0 {l : La} (h : spE l = 0) : opV l = .c (.dp (tbD l)) := by unfold opV; rw [if_pos h]; rfl
theorem opV_bad {l : La} (h : ¬ spE l = 0) : opV l = .c .nilp := by unfold opV; rw [if_neg h]
set_option maxHeartbeats 2000000 in
theorem open57 (l : La) : Pure Try.prog 57 [laV l] (.tup [opV l, I (spE l)]) := by
  refine pure_wkE (bad := []) (kp := kp57) (X := tx) (nt := 16) (rs := [.tmp 2, .tmp 3]) Try.func57 rfl rfl rfl rfl mo (by kernel_rfl) rfl (by unfold opV; split <;> rfl) (fun hf => ?_)
  have hl := lamp19 l
  unfold laV laC at hl
  simp (maxSteps := 2000000) only [go_sem, reduceIte, Nat.reduceEqDiff, Nat.reduceAdd, List.replicate_succ, lk57, lk27, lk29, laV, laC]
  refine aops_pure' (hl) rfl rfl (by first | exact wk_refls _ | (repeat constructor)) ?_
  by_cases h0 : okLa l = 0
  case neg =>
    have e := spE_bad h0
    have e2 := opV_bad (l := l) (by rw [e]; exact h0)
    simp (maxSteps := 2000000) only [go_sem, reduceIte, Nat.reduceEqDiff, Nat.reduceAdd, List.replicate_succ, lk57, lk27, lk29, h0, e, e2]
    all_goals first | exact .refl _ | exact ⟨.refl _, .refl _⟩ | exact ⟨.refl _, .refl _, .refl _⟩ | exact ⟨.refl _, _, rfl⟩ | exact ⟨_, rfl⟩ | exact ⟨.refl _, [], by simp⟩ | exact ⟨[], by simp⟩
  have ok := okLa_n h0
  have hc := clash55 l ok
  have ht := table73 l ok
  unfold laV laC at hc ht
  unfold pairV pairC at hc
  unfold tbV at ht
  simp (maxSteps := 2000000) only [go_sem, reduceIte, Nat.reduceEqDiff, Nat.reduceAdd, List.replicate_succ, lk57, lk27, lk29, h0]
  refine aops_pure' (hc) rfl rfl (by first | exact wk_refls _ | (repeat constructor)) ?_
  cases hd : dbB l with
  | true =>
    have e := spE_21 h0 hd
    have e2 := opV_bad (l := l) (by rw [e]; decide)
    obtain ⟨s1, s2, s3⟩ := clash_some ((clash_iff ok).1 hd)
    have hne : ¬ ((clashF l).2 : Int) = 0 := by omega
    simp (maxSteps := 2000000) only [go_sem, reduceIte, Nat.reduceEqDiff, Nat.reduceAdd, List.replicate_succ, lk57, lk27, lk29, hne, decide_false, Bool.and_false, Bool.not_false, e, e2]
    all_goals first | exact .refl _ | exact ⟨.refl _, .refl _⟩ | exact ⟨.refl _, .refl _, .refl _⟩ | exact ⟨.refl _, _, rfl⟩ | exact ⟨_, rfl⟩ | exact ⟨.refl _, [], by simp⟩ | exact ⟨[], by simp⟩
  | false =>
    have e := spE_0 h0 hd
    have e2 := opV_0 e
    have hp := (clash_zero ok).2 hd
    simp (maxSteps := 2000000) only [go_sem, reduceIte, Nat.reduceEqDiff, Nat.reduceAdd, List.replicate_succ, lk57, lk27, lk29, hp]
    refine aops_pure' (ht) rfl rfl (by first | exact wk_refls _ | (repeat constructor)) ?_
    simp (maxSteps := 2000000) only [go_sem, reduceIte, Nat.reduceEqDiff, List.replicate_succ, lk57, lk27, lk29, e, e2]
    all_goals first | exact .refl _ | exact ⟨.refl _, .refl _⟩ | exact ⟨.refl _, .refl _, .refl _⟩ | exact ⟨.refl _, _, rfl⟩ | exact ⟨_, rfl⟩ | exact ⟨.refl _, [], by simp⟩ | exact ⟨[], by simp⟩
theorem sp_ok {l : La} (h : spE l = 0) : okLa l = 0 ∧ dbB l = false := by
  unfold spE at h
  by_cases h0 : okLa l = 0
  · rw [if_pos h0] at h
    cases hd : dbB l with
    | true => rw [hd] at h; simp at h
    | false => exact ⟨h0, rfl⟩
  · rw [if_neg h0] at h; exact absurd h h0
set_option maxHeartbeats 2000000 in
theorem span27 (l : La) : Pure Try.prog 27 [laV l] (.tup [rgV (spR l), I (spE l)]) := by
  refine pure_wkE (bad := []) (kp := kp27) (X := tx) (nt := 17) (rs := [.cell 2 40, .tmp 3]) Try.func27 rfl rfl rfl rfl mo (by kernel_rfl) rfl rfl (fun hf => ?_)
  have ho := open57 l
  unfold laV laC at ho
  by_cases h : spE l = 0
  · have ok := okLa_n (sp_ok h).1
    have hs := span58 l ok
    have e := spR_0 h
    rw [opV_0 h] at ho
    unfold tbV rgV rgC at hs
    simp (maxSteps := 2000000) only [go_sem, reduceIte, Nat.reduceEqDiff, Nat.reduceAdd, List.replicate_succ, lk57, lk27, lk29, laV, laC]
    refine aops_pure' (ho) rfl rfl (by first | exact wk_refls _ | (repeat constructor)) ?_
    simp (maxSteps := 2000000) only [go_sem, reduceIte, Nat.reduceEqDiff, Nat.reduceAdd, List.replicate_succ, lk57, lk27, lk29, h]
    refine aops_pure' (hs) rfl rfl (by first | exact wk_refls _ | (repeat constructor)) ?_
    simp (maxSteps := 2000000) only [go_sem, reduceIte, Nat.reduceEqDiff, Nat.reduceAdd, List.replicate_succ, lk57, lk27, lk29, h, e, rgV, rgC]
    all_goals first | exact .refl _ | exact ⟨.refl _, .refl _⟩ | exact ⟨.refl _, .refl _, .refl _⟩ | exact ⟨.refl _, _, rfl⟩ | exact ⟨_, rfl⟩ | exact ⟨.refl _, [], by simp⟩ | exact ⟨[], by simp⟩
  · have e := spR_bad h
    rw [opV_bad h] at ho
    simp (maxSteps := 2000000) only [go_sem, reduceIte, Nat.reduceEqDiff, Nat.reduceAdd, List.replicate_succ, lk57, lk27, lk29, laV, laC]
    refine aops_pure' (ho) rfl rfl (by first | exact wk_refls _ | (repeat constructor)) ?_
    simp (maxSteps := 2000000) only [go_sem, reduceIte, Nat.reduceEqDiff, Nat.reduceAdd, List.replicate_succ, lk57, lk27, lk29, h, e, rgV, rgC]
    all_goals first | exact .refl _ | exact ⟨.refl _, .refl _⟩ | exact ⟨.refl _, .refl _, .refl _⟩ | exact ⟨.refl _, _, rfl⟩ | exact ⟨_, rfl⟩ | exact ⟨.refl _, [], by simp⟩ | exact ⟨[], by simp⟩
set_option maxHeartbeats 2000000 in
theorem at29 (l : La) (d : Int) : Pure Try.prog 29 [laV l, I d] (.tup [rgV (atR l d), I (atE l d)]) := by
  refine pure_wkE (bad := []) (kp := kp29) (X := tx) (nt := 52) (rs := [.cell 4 40, .tmp 5]) Try.func29 rfl rfl rfl rfl mo (by kernel_rfl) rfl rfl (fun hf => ?_)
  have hl := lamp19 l
  have ho := open57 l
  unfold laV laC at hl ho
  simp (maxSteps := 2000000) only [go_sem, reduceIte, Nat.reduceEqDiff, Nat.reduceAdd, List.replicate_succ, lk57, lk27, lk29, laV, laC]
  refine aops_pure' (hl) rfl rfl (by first | exact wk_refls _ | (repeat constructor)) ?_
  by_cases h0 : okLa l = 0
  case neg =>
    have e := atE_bad h0 d
    have e2 := atR_bad (l := l) (d := d) (by rw [e]; exact h0)
    simp (maxSteps := 2000000) only [go_sem, reduceIte, Nat.reduceEqDiff, Nat.reduceAdd, List.replicate_succ, lk57, lk27, lk29, h0, e, e2, rgV, rgC]
    all_goals first | exact .refl _ | exact ⟨.refl _, .refl _⟩ | exact ⟨.refl _, .refl _, .refl _⟩ | exact ⟨.refl _, _, rfl⟩ | exact ⟨_, rfl⟩ | exact ⟨.refl _, [], by simp⟩ | exact ⟨[], by simp⟩
  have ok := okLa_n h0
  have m2 := ok.m2
  have m11 := ok.m11
  have g0 := gI_lt (l := l.an) (i := 0) (by omega)
  have gn := gI_lt (l := l.an) (i := l.an.length - 1) (by omega)
  have p0 : (0 : Int) < l.an.length := by omega
  have pn : ((l.an.length - 1 : Nat) : Int) < l.an.length := by omega
  have ha0 := ok.a0 0 (by omega)
  have han := ok.a0 (l.an.length - 1) (by omega)
  have hwe := ok.we
  by_cases h1 : d < gI l.an 0
  · have e := atE_out h0 (.inl h1)
    have e2 := atR_bad (l := l) (d := d) (by rw [e]; decide)
    simp (maxSteps := 2000000) only [go_sem, reduceIte, Nat.reduceEqDiff, Nat.reduceAdd, Nat.reduceLeDiff, Nat.reduceBEq, Int.reduceLE, Int.reduceToNat, List.replicate_succ, lk57, lk27, lk29, h0, p0, g0, iD, h1, e, e2, rgV, rgC]
    all_goals first | exact .refl _ | exact ⟨.refl _, .refl _⟩ | exact ⟨.refl _, .refl _, .refl _⟩ | exact ⟨.refl _, _, rfl⟩ | exact ⟨_, rfl⟩ | exact ⟨.refl _, [], by simp⟩ | exact ⟨[], by simp⟩
  by_cases h2 : gI l.an (l.an.length - 1) < d
  · have e := atE_out h0 (.inr h2)
    have e2 := atR_bad (l := l) (d := d) (by rw [e]; decide)
    have w1 := wr_len1 (n := l.an.length) (by omega) (by omega)
    simp (maxSteps := 2000000) only [go_sem, reduceIte, Nat.reduceEqDiff, Nat.reduceAdd, Nat.reduceLeDiff, Nat.reduceBEq, Int.reduceLE, Int.reduceToNat, List.replicate_succ, lk57, lk27, lk29, h0, p0, g0, iD, h1, w1, nn, pn, gn, h2, e, e2, rgV, rgC]
    all_goals first | exact .refl _ | exact ⟨.refl _, .refl _⟩ | exact ⟨.refl _, .refl _, .refl _⟩ | exact ⟨.refl _, _, rfl⟩ | exact ⟨_, rfl⟩ | exact ⟨.refl _, [], by simp⟩ | exact ⟨[], by simp⟩
  have h12 : ¬ (d < gI l.an 0 ∨ gI l.an (l.an.length - 1) < d) := by omega
  have hdn : (d - gI l.an 0).toNat < l.we.length := by omega
  have hdi : ((d - gI l.an 0).toNat : Int) = d - gI l.an 0 := by omega
  have hat := at59 l ok _ hdn
  have wd : wr .i64 (d - gI l.an 0) = (((d - gI l.an 0).toNat : Nat) : Int) := by rw [wr_in (by omega), hdi]
  have w1 := wr_len1 (n := l.an.length) (by clear wd; omega) (by clear wd; omega)
  cases hq : dbB l with
  | true =>
    have e := atE_21 h0 h12 hq
    have e2 := atR_bad (l := l) (d := d) (by rw [e]; decide)
    have e3 := spE_21 h0 hq
    rw [opV_bad (by rw [e3]; decide), e3] at ho
    simp (maxSteps := 2000000) only [go_sem, reduceIte, Nat.reduceEqDiff, Nat.reduceAdd, Nat.reduceLeDiff, Nat.reduceBEq, Int.reduceLE, Int.reduceToNat, List.replicate_succ, lk57, lk27, lk29, h0, p0, g0, iD, h1, w1, nn, pn, gn, h2]
    refine aops_pure' (ho) rfl rfl (by first | exact wk_refls _ | (repeat constructor)) ?_
    simp (maxSteps := 2000000) only [go_sem, reduceIte, Nat.reduceEqDiff, Nat.reduceAdd, Int.reduceEq, List.replicate_succ, lk57, lk27, lk29, e, e2, rgV, rgC]
    all_goals first | exact .refl _ | exact ⟨.refl _, .refl _⟩ | exact ⟨.refl _, .refl _, .refl _⟩ | exact ⟨.refl _, _, rfl⟩ | exact ⟨_, rfl⟩ | exact ⟨.refl _, [], by simp⟩ | exact ⟨[], by simp⟩
  | false =>
    have e := atE_0 h0 h12 hq
    have e2 := atR_0 e
    have e3 := spE_0 h0 hq
    rw [opV_0 e3, e3] at ho
    unfold tbV rgV rgC at hat
    generalize (d - gI l.an 0).toNat = k at *
    simp (maxSteps := 2000000) only [go_sem, reduceIte, Nat.reduceEqDiff, Nat.reduceAdd, Nat.reduceLeDiff, Nat.reduceBEq, Int.reduceLE, Int.reduceToNat, List.replicate_succ, lk57, lk27, lk29, h0, p0, g0, iD, h1, w1, nn, pn, gn, h2]
    refine aops_pure' (ho) rfl rfl (by first | exact wk_refls _ | (repeat constructor)) ?_
    simp (maxSteps := 2000000) only [go_sem, reduceIte, Nat.reduceEqDiff, Nat.reduceAdd, Nat.reduceLeDiff, Nat.reduceBEq, Int.reduceLE, Int.reduceToNat, List.replicate_succ, lk57, lk27, lk29, p0, g0, iD, wd]
    refine aops_pure' (hat) rfl rfl (by first | exact wk_refls _ | (repeat constructor)) ?_
    simp (maxSteps := 2000000) only [go_sem, reduceIte, Nat.reduceEqDiff, Nat.reduceAdd, List.replicate_succ, lk57, lk27, lk29, e, e2, rgV, rgC]
    all_goals first | exact .refl _ | exact ⟨.refl _, .refl _⟩ | exact ⟨.refl _, .refl _, .refl _⟩ | exact ⟨.refl _, _, rfl⟩ | exact ⟨_, rfl⟩ | exact ⟨.refl _, [], by simp⟩ | exact ⟨[], by simp⟩
/-- A lantern with an end. -/
def enL (l : La) (b : Bool) : List Int := if spE l = 0 then fl l.we.length (if b then bh l else bl l) else []
theorem enL_0 {l : La} (h : spE l = 0) (b : Bool) : enL l b = fl l.we.length (if b then bh l else bl l) := by unfold enL; rw [if_pos h]
theorem enL_bad {l : La} (h : ¬ spE l = 0) (b : Bool) : enL l b = [] := by unfold enL; rw [if_neg h]
/-- Filled up to a degree. -/
def upto (f : Nat → Int) (k j : Nat) : Int := if j < k then f j else 0
theorem upto_upd (f : Nat → Int) (k : Nat) : upd (upto f k) k (f k) = upto f (k + 1) := funext fun j => by
  unfold upd upto
  by_cases e : j = k
  · subst e; rw [if_pos rfl, if_pos (by omega)]
  · rw [if_neg e]
    by_cases e2 : j < k
    · rw [if_pos e2, if_pos (by omega)]
    · rw [if_neg e2, if_neg (by omega)]
theorem upto_zero (f : Nat → Int) : upto f 0 = fun _ => 0 := funext fun j => by unfold upto; rw [if_neg (by omega)]
theorem upto_all (f : Nat → Int) (n : Nat) : numsC n (upto f n) = numsC n f := numsC_ext fun k hk => by unfold upto; rw [if_pos hk]
end Go.Proofs.Ytliamojogmlgjaa
