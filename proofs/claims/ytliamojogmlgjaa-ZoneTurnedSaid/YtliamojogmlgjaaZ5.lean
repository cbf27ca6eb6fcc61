/- Zones: contradictions, by the program and by the document's answer; sizes. -/
import Derived.Test.YtliamojogmlgjaaZ3
import Derived.Test.YtliamojogmlgjaaZ4
set_option linter.unusedSimpArgs false
set_option linter.unusedVariables false
set_option maxRecDepth 100000
namespace Go.Proofs.Ytliamojogmlgjaa
open Go Go.Abs Go.Proofs
def kp15 : List (Nat × List Nat) := [(0, [1]), (1, [2])]
theorem lk15 : lookK kp15 0 = some [1] ∧ lookK kp15 1 = some [2] := ⟨rfl, rfl⟩
def kp23 : List (Nat × List Nat) := [(0, [1, 2, 3]), (1, [1, 2, 3, 7]), (2, [1, 2, 3, 7, 11]), (3, [6]), (4, [1, 2, 3, 13]), (5, [6]), (6, [28]), (7, [6]), (8, [6])]
theorem lk23 : lookK kp23 0 = some [1, 2, 3] ∧ lookK kp23 1 = some [1, 2, 3, 7] ∧ lookK kp23 2 = some [1, 2, 3, 7, 11] ∧ lookK kp23 3 = some [6] ∧ lookK kp23 4 = some [1, 2, 3, 13] ∧ lookK kp23 5 = some [6] ∧ lookK kp23 6 = some [28] ∧ lookK kp23 7 = some [6] ∧ lookK kp23 8 = some [6] := ⟨rfl, rfl, rfl, rfl, rfl, rfl, rfl, rfl, rfl⟩
def kp24 : List (Nat × List Nat) := [(0, [1, 2, 3]), (1, [1, 2, 3, 12]), (2, [6]), (3, [1, 2, 3, 28]), (4, [6]), (5, [1, 2, 3, 7, 8]), (6, [1, 2, 3, 7, 8, 9]), (7, [1, 2, 3, 7, 8, 9, 32]), (8, [1, 2, 3, 7, 8, 9]), (9, [1, 2, 3, 7, 8, 9]), (10, [1, 2, 3, 7, 8, 9]), (11, [85]), (12, [6]), (13, [6])]
theorem lk24 : lookK kp24 0 = some [1, 2, 3] ∧ lookK kp24 1 = some [1, 2, 3, 12] ∧ lookK kp24 2 = some [6] ∧ lookK kp24 3 = some [1, 2, 3, 28] ∧ lookK kp24 4 = some [6] ∧ lookK kp24 5 = some [1, 2, 3, 7, 8] ∧ lookK kp24 6 = some [1, 2, 3, 7, 8, 9] ∧ lookK kp24 7 = some [1, 2, 3, 7, 8, 9, 32] ∧ lookK kp24 8 = some [1, 2, 3, 7, 8, 9] ∧ lookK kp24 9 = some [1, 2, 3, 7, 8, 9] ∧ lookK kp24 10 = some [1, 2, 3, 7, 8, 9] ∧ lookK kp24 11 = some [85] ∧ lookK kp24 12 = some [6] ∧ lookK kp24 13 = some [6] := ⟨rfl, rfl, rfl, rfl, rfl, rfl, rfl, rfl, rfl, rfl, rfl, rfl, rfl, rfl⟩
def kp25 : List (Nat × List Nat) := [(0, [1]), (1, [1, 5]), (2, [1, 5, 10]), (3, [2, 3, 4]), (4, [6]), (5, [6, 16]), (6, [2, 3, 4]), (7, [2, 3, 4])]
theorem lk25 : lookK kp25 0 = some [1] ∧ lookK kp25 1 = some [1, 5] ∧ lookK kp25 2 = some [1, 5, 10] ∧ lookK kp25 3 = some [2, 3, 4] ∧ lookK kp25 4 = some [6] ∧ lookK kp25 5 = some [6, 16] ∧ lookK kp25 6 = some [2, 3, 4] ∧ lookK kp25 7 = some [2, 3, 4] := ⟨rfl, rfl, rfl, rfl, rfl, rfl, rfl, rfl⟩
def kp41 : List (Nat × List Nat) := [(0, [2, 3]), (1, [4])]
theorem lk41 : lookK kp41 0 = some [2, 3] ∧ lookK kp41 1 = some [4] := ⟨rfl, rfl⟩

theorem okLa_n {l : La} (h : okLa l = 0) : OkLa l := ((okLa_iff l).1 h).1
def cdE (l : La) (i k : Int) : Int := if okLa l = 0 then (if i < 0 ∨ (l.an.length : Int) ≤ k ∨ k ≤ i then 3 else if conB l i.toNat k.toNat then 0 else 14) else okLa l
theorem cdE_bad {l : La} (h : ¬ okLa l = 0) (i k : Int) : cdE l i k = okLa l := by unfold cdE; rw [if_neg h]
theorem cdE_out {l : La} {i k : Int} (h : okLa l = 0) (h2 : i < 0 ∨ (l.an.length : Int) ≤ k ∨ k ≤ i) : cdE l i k = 3 := by unfold cdE; rw [if_pos h, if_pos h2]
theorem cdE_in {l : La} {i k : Nat} (h : okLa l = 0) (h1 : i < k) (h2 : k < l.an.length) : cdE l i k = if conB l i k then 0 else 14 := by
  unfold cdE; rw [if_pos h, if_neg (by omega)]; rfl
set_option maxHeartbeats 1000000 in
theorem cdoubt23 (l : La) (i k : Int) : Pure Try.prog 23 [laV l, I i, I k] (I (cdE l i k)) := by
  refine pure_wkE (bad := []) (kp := kp23) (X := tx) (nt := 34) (rs := [.tmp 6]) Try.func23 rfl rfl rfl rfl mo (by kernel_rfl) rfl rfl (fun hf => ?_)
  have hl := lamp19 l
  unfold laV laC at hl
  simp (maxSteps := 2000000) only [go_sem, reduceIte, Nat.reduceEqDiff, Nat.reduceAdd, List.replicate_succ, lk15, lk23, lk24, lk25, lk41, laV, laC]
  refine aops_pure' (hl) rfl rfl (by first | exact wk_refls _ | (repeat constructor)) ?_
  by_cases h0 : okLa l = 0
  case neg =>
    have e := cdE_bad h0 i k
    simp (maxSteps := 2000000) only [go_sem, reduceIte, Nat.reduceEqDiff, Nat.reduceAdd, List.replicate_succ, lk15, lk23, lk24, lk25, lk41, h0, e]
  by_cases h1 : i < 0
  · have e := cdE_out (k := k) h0 (.inl h1)
    simp (maxSteps := 2000000) only [go_sem, reduceIte, Nat.reduceEqDiff, Nat.reduceAdd, List.replicate_succ, lk15, lk23, lk24, lk25, lk41, h0, h1, e]
  by_cases h2 : (l.an.length : Int) ≤ k
  · have e := cdE_out (i := i) h0 (.inr (.inl h2))
    simp (maxSteps := 2000000) only [go_sem, reduceIte, Nat.reduceEqDiff, Nat.reduceAdd, Nat.reduceLeDiff, Nat.reduceBEq, List.replicate_succ, lk15, lk23, lk24, lk25, lk41, h0, h1, h2, e]
  by_cases h3 : k ≤ i
  · have e := cdE_out h0 (.inr (.inr h3))
    simp (maxSteps := 2000000) only [go_sem, reduceIte, Nat.reduceEqDiff, Nat.reduceAdd, Nat.reduceLeDiff, Nat.reduceBEq, List.replicate_succ, lk15, lk23, lk24, lk25, lk41, h0, h1, h2, h3, e]
  obtain ⟨a, rfl⟩ : ∃ a : Nat, i = (a : Int) := ⟨i.toNat, by omega⟩
  obtain ⟨b, rfl⟩ : ∃ b : Nat, k = (b : Int) := ⟨k.toNat, by omega⟩
  have hab : a < b := by omega
  have hb : b < l.an.length := by omega
  have e := cdE_in h0 hab hb
  have hc := contra54 l (okLa_n h0) a b hab hb
  unfold laV laC at hc
  simp (maxSteps := 2000000) only [go_sem, reduceIte, Nat.reduceEqDiff, Nat.reduceAdd, Nat.reduceLeDiff, Nat.reduceBEq, List.replicate_succ, lk15, lk23, lk24, lk25, lk41, h0, h1, h2, h3]
  refine aops_pure' (hc) rfl rfl (by first | exact wk_refls _ | (repeat constructor)) ?_
  cases hq : conB l a b with
  | true =>
    rw [hq, if_pos rfl] at e
    simp (maxSteps := 2000000) only [go_sem, reduceIte, Nat.reduceEqDiff, Nat.reduceAdd, List.replicate_succ, lk15, lk23, lk24, lk25, lk41, e]
  | false =>
    rw [hq, if_neg (by decide)] at e
    simp (maxSteps := 2000000) only [go_sem, reduceIte, Nat.reduceEqDiff, Nat.reduceAdd, List.replicate_succ, lk15, lk23, lk24, lk25, lk41, e]
/-- So far only falling, or only rising. -/
def frB (l : La) (i : Nat) (b : Bool) (g : Nat) : Bool := !((l.fa.take g).drop i).any (fun x => x == !b)
theorem frB_zero (l : La) (i : Nat) (b : Bool) : frB l i b i = true := by
  unfold frB
  rw [List.drop_eq_nil_of_le (by rw [List.length_take]; omega)]; rfl
theorem frB_succ {l : La} {i g : Nat} (b : Bool) (hig : i ≤ g) (hg : g < l.fa.length) : frB l i b (g + 1) = (frB l i b g && (gB l.fa g == b)) := by
  unfold frB
  rw [List.take_add_one, gB_lt hg, Option.toList_some, List.drop_append_of_le_length (by rw [List.length_take]; omega), List.any_append]
  cases gB l.fa g <;> cases b <;> simp
theorem conB_fr {l : La} {i k : Nat} (hik : i < k) (hk : k ≤ l.fa.length) : conB l i k = ((frB l i true k && decide (his l i < lis l k)) || (frB l i false k && decide (his l k < lis l i))) := by
  have hm : gB l.fa i ∈ (l.fa.take k).drop i := List.mem_of_getElem? (i := 0) (by rw [List.getElem?_drop, List.getElem?_take, if_pos (by omega)]; exact gB_lt (by omega))
  have ho : frB l i (!gB l.fa i) k = false := by
    unfold frB
    rw [List.any_eq_true.2 ⟨_, hm, by simp⟩]; rfl
  unfold conB
  cases hf : gB l.fa i with
  | true =>
    rw [hf] at ho
    have ho : frB l i false k = false := ho
    rw [ho]
    simp [frB]
  | false =>
    rw [hf] at ho
    have ho : frB l i true k = false := ho
    rw [ho]
    simp [frB]
set_option maxHeartbeats 4000000 in
theorem cdoubt24 (l : La) (i k : Int) : Pure Try.prog 24 [laV l, I i, I k] (I (cdE l i k)) := by
  refine pure_wkE (bad := []) (kp := kp24) (X := tx) (nt := 86) (rs := [.tmp 6]) Try.func24 rfl rfl rfl rfl mo (by kernel_rfl) rfl rfl (fun hf => ?_)
  have hl := lamp20 l
  unfold laV laC at hl
  simp (maxSteps := 2000000) only [go_sem, reduceIte, Nat.reduceEqDiff, Nat.reduceAdd, List.replicate_succ, lk15, lk23, lk24, lk25, lk41, laV, laC]
  refine aops_pure' (hl) rfl rfl (by first | exact wk_refls _ | (repeat constructor)) ?_
  by_cases h0 : okLa l = 0
  case neg =>
    have e := cdE_bad h0 i k
    simp (maxSteps := 2000000) only [go_sem, reduceIte, Nat.reduceEqDiff, Nat.reduceAdd, List.replicate_succ, lk15, lk23, lk24, lk25, lk41, h0]
    refine aops_pure' (hl) rfl rfl (by first | exact wk_refls _ | (repeat constructor)) ?_
    simp (maxSteps := 2000000) only [go_sem, reduceIte, Nat.reduceEqDiff, List.replicate_succ, lk15, lk23, lk24, lk25, lk41, e]
  by_cases h1 : i < 0
  · have e := cdE_out (k := k) h0 (.inl h1)
    simp (maxSteps := 2000000) only [go_sem, reduceIte, Nat.reduceEqDiff, Nat.reduceAdd, List.replicate_succ, lk15, lk23, lk24, lk25, lk41, h0, h1, e]
  by_cases h2 : (l.an.length : Int) ≤ k
  · have e := cdE_out (i := i) h0 (.inr (.inl h2))
    simp (maxSteps := 2000000) only [go_sem, reduceIte, Nat.reduceEqDiff, Nat.reduceAdd, Nat.reduceLeDiff, Nat.reduceBEq, List.replicate_succ, lk15, lk23, lk24, lk25, lk41, h0, h1, h2, e]
  by_cases h3 : k ≤ i
  · have e := cdE_out h0 (.inr (.inr h3))
    simp (maxSteps := 2000000) only [go_sem, reduceIte, Nat.reduceEqDiff, Nat.reduceAdd, Nat.reduceLeDiff, Nat.reduceBEq, List.replicate_succ, lk15, lk23, lk24, lk25, lk41, h0, h1, h2, h3, e]
  obtain ⟨a, rfl⟩ : ∃ a : Nat, i = (a : Int) := ⟨i.toNat, by omega⟩
  obtain ⟨b, rfl⟩ : ∃ b : Nat, k = (b : Int) := ⟨k.toNat, by omega⟩
  have hab : a < b := by omega
  have hb : b < l.an.length := by omega
  have e := cdE_in h0 hab hb
  have ok := okLa_n h0
  have hfa := ok.fa
  have hli := ok.li
  have h11 := ok.m11
  have hef := conB_fr (l := l) hab (by omega)
  have a2 : (a : Int) < l.li.length := by omega
  have b2 : (b : Int) < l.li.length := by omega
  have g2 := gR_lt (l := l.li) (i := a) (by omega)
  have g3 := gR_lt (l := l.li) (i := b) (by omega)
  have hlis : lis l a = (gR l.li a).lo ∧ lis l b = (gR l.li b).lo ∧ his l a = (gR l.li a).hi ∧ his l b = (gR l.li b).hi := ⟨rfl, rfl, rfl, rfl⟩
  rw [hlis.1, hlis.2.1, hlis.2.2.1, hlis.2.2.2] at hef
  simp (maxSteps := 2000000) only [go_sem, reduceIte, Nat.reduceEqDiff, Nat.reduceAdd, Nat.reduceLeDiff, Nat.reduceBEq, List.replicate_succ, lk15, lk23, lk24, lk25, lk41, h0, h1, h2, h3]
  refine goE_loop (bad := []) (kp := kp24) (fun g : Nat => { slots := [(1, I a), (2, I b), (3, .c (.ptr 0 0)), (7, B (frB l a true g)), (8, B (frB l a false g)), (9, I g)], heap := [.cells (laC l)], marks := [] }) (fun g => a ≤ g ∧ g ≤ b) (fun g => b - g) a mo (by kernel_rfl) ?_ ⟨Nat.le_refl _, Nat.le_of_lt hab⟩ ?_
  · refine ent_weaken [] rfl rfl (Nat.zero_le _) rfl rfl ?_
    simp (maxSteps := 2000000) only [go_sem, reduceIte, Nat.reduceEqDiff, Nat.reduceLT, List.replicate_succ, lk15, lk23, lk24, lk25, lk41, laC, frB_zero]
    all_goals first | exact .refl _ | exact ⟨.refl _, .refl _⟩ | exact ⟨.refl _, .refl _, .refl _⟩ | exact ⟨.refl _, _, rfl⟩ | exact ⟨_, rfl⟩ | exact ⟨.refl _, [], by simp⟩ | exact ⟨[], by simp⟩
  rintro g ⟨hg1, hg2⟩
  simp (maxSteps := 2000000) only [go_sem, reduceIte, Nat.reduceEqDiff, Nat.reduceAdd, List.replicate_succ, lk15, lk23, lk24, lk25, lk41, laC]
  by_cases hlt : g < b
  · have hlt' : (g : Int) < b := by omega
    have hgf : (g : Int) < l.fa.length := by omega
    have g1 := gB_lt (l := l.fa) (i := g) (by omega)
    have s1 := frB_succ (l := l) true hg1 (show g < l.fa.length by omega)
    have s2 := frB_succ (l := l) false hg1 (show g < l.fa.length by omega)
    have m1 : b - (g + 1) < b - g := by omega
    have q1 : a ≤ g + 1 := by omega
    have w7 := wr_succ hlt (show b ≤ 140737488355328 by omega)
    cases f1 : frB l a true g <;> cases f2 : frB l a false g <;> cases hv : gB l.fa g <;>
    · rw [f1, hv] at s1
      rw [f2, hv] at s2
      rw [hv] at g1
      simp (maxSteps := 2000000) only [go_sem, List.replicate_succ, lk15, lk23, lk24, lk25, lk41, beq_self_eq_true, Bool.and_true, Bool.and_false, Bool.false_and] at s1 s2
      simp (maxSteps := 2000000) only [go_sem, reduceIte, Nat.reduceEqDiff, Nat.reduceAdd, Nat.reduceLeDiff, Nat.reduceBEq, List.replicate_succ, lk15, lk23, lk24, lk25, lk41, hlt', nn, hgf, g1, bD, w7]
      refine ⟨g + 1, ⟨q1, hlt⟩, m1, ?_⟩
      refine ent_weaken [] rfl rfl (Nat.zero_le _) rfl rfl ?_
      simp (maxSteps := 2000000) only [go_sem, reduceIte, Nat.reduceEqDiff, Nat.reduceLT, List.replicate_succ, lk15, lk23, lk24, lk25, lk41, laC, s1, s2]
      first | done | all_goals first | exact .refl _ | exact ⟨.refl _, .refl _⟩ | exact ⟨.refl _, .refl _, .refl _⟩ | exact ⟨.refl _, _, rfl⟩ | exact ⟨_, rfl⟩ | exact ⟨.refl _, [], by simp⟩ | exact ⟨[], by simp⟩
  · have hlt' : ¬ (g : Int) < b := by omega
    have eg : g = b := by omega
    subst eg
    cases f1 : frB l a true g <;> cases f2 : frB l a false g
    · rw [f1, f2] at hef
      simp only [Bool.false_and, Bool.or_self] at hef
      rw [hef, if_neg (by decide)] at e
      simp (maxSteps := 2000000) only [go_sem, reduceIte, Nat.reduceEqDiff, Nat.reduceAdd, List.replicate_succ, lk15, lk23, lk24, lk25, lk41, hlt', e]
    · rw [f1, f2] at hef
      simp only [Bool.false_and, Bool.true_and, Bool.false_or] at hef
      simp (maxSteps := 2000000) only [go_sem, reduceIte, Nat.reduceEqDiff, Nat.reduceAdd, Nat.reduceLeDiff, Nat.reduceBEq, List.replicate_succ, lk15, lk23, lk24, lk25, lk41, hlt', nn, a2, b2, g2, g3, rgD]
      by_cases c : (gR l.li g).hi < (gR l.li a).lo
      · rw [hef, decide_eq_true c, if_pos rfl] at e
        simp (maxSteps := 2000000) only [go_sem, reduceIte, Nat.reduceEqDiff, Nat.reduceAdd, List.replicate_succ, lk15, lk23, lk24, lk25, lk41, c, e]
      · rw [hef, decide_eq_false c, if_neg (by decide)] at e
        simp (maxSteps := 2000000) only [go_sem, reduceIte, Nat.reduceEqDiff, Nat.reduceAdd, List.replicate_succ, lk15, lk23, lk24, lk25, lk41, c, e]
    · rw [f1, f2] at hef
      simp only [Bool.false_and, Bool.true_and, Bool.or_false] at hef
      simp (maxSteps := 2000000) only [go_sem, reduceIte, Nat.reduceEqDiff, Nat.reduceAdd, Nat.reduceLeDiff, Nat.reduceBEq, List.replicate_succ, lk15, lk23, lk24, lk25, lk41, hlt', nn, a2, b2, g2, g3, rgD]
      by_cases c : (gR l.li a).hi < (gR l.li g).lo
      · rw [hef, decide_eq_true c, if_pos rfl] at e
        simp (maxSteps := 2000000) only [go_sem, reduceIte, Nat.reduceEqDiff, Nat.reduceAdd, List.replicate_succ, lk15, lk23, lk24, lk25, lk41, c, e]
      · rw [hef, decide_eq_false c, if_neg (by decide)] at e
        simp (maxSteps := 2000000) only [go_sem, reduceIte, Nat.reduceEqDiff, Nat.reduceAdd, List.replicate_succ, lk15, lk23, lk24, lk25, lk41, c, e]
    · rw [f1, f2] at hef
      simp only [Bool.true_and] at hef
      simp (maxSteps := 2000000) only [go_sem, reduceIte, Nat.reduceEqDiff, Nat.reduceAdd, Nat.reduceLeDiff, Nat.reduceBEq, List.replicate_succ, lk15, lk23, lk24, lk25, lk41, hlt', nn, a2, b2, g2, g3, rgD]
      by_cases c : (gR l.li a).hi < (gR l.li g).lo
      · rw [hef, decide_eq_true c, Bool.true_or, if_pos rfl] at e
        simp (maxSteps := 2000000) only [go_sem, reduceIte, Nat.reduceEqDiff, Nat.reduceAdd, List.replicate_succ, lk15, lk23, lk24, lk25, lk41, c, e]
      · rw [decide_eq_false c, Bool.false_or] at hef
        simp (maxSteps := 2000000) only [go_sem, reduceIte, Nat.reduceEqDiff, Nat.reduceAdd, Nat.reduceLeDiff, Nat.reduceBEq, List.replicate_succ, lk15, lk23, lk24, lk25, lk41, c, nn, a2, b2, g2, g3, rgD]
        by_cases c2 : (gR l.li g).hi < (gR l.li a).lo
        · rw [hef, decide_eq_true c2, if_pos rfl] at e
          simp (maxSteps := 2000000) only [go_sem, reduceIte, Nat.reduceEqDiff, Nat.reduceAdd, List.replicate_succ, lk15, lk23, lk24, lk25, lk41, c2, e]
        · rw [hef, decide_eq_false c2, if_neg (by decide)] at e
          simp (maxSteps := 2000000) only [go_sem, reduceIte, Nat.reduceEqDiff, Nat.reduceAdd, List.replicate_succ, lk15, lk23, lk24, lk25, lk41, c2, e]
def dtE (l : La) : Int := if okLa l = 0 then (if dbB l then 0 else 5) else okLa l
def dtA (l : La) : Nat := if okLa l = 0 then (clashF l).1 else 0
def dtB (l : La) : Nat := if okLa l = 0 then (clashF l).2 else 0
set_option maxHeartbeats 1000000 in
theorem doubt25 (l : La) : Pure Try.prog 25 [laV l] (.tup [I (dtA l), I (dtB l), I (dtE l)]) := by
  refine pure_wkE (bad := []) (kp := kp25) (X := tx) (nt := 21) (rs := [.tmp 2, .tmp 3, .tmp 4]) Try.func25 rfl rfl rfl rfl mo (by kernel_rfl) rfl rfl (fun hf => ?_)
  have hl := lamp19 l
  unfold laV laC at hl
  simp (maxSteps := 2000000) only [go_sem, reduceIte, Nat.reduceEqDiff, Nat.reduceAdd, List.replicate_succ, lk15, lk23, lk24, lk25, lk41, laV, laC]
  refine aops_pure' (hl) rfl rfl (by first | exact wk_refls _ | (repeat constructor)) ?_
  by_cases h0 : okLa l = 0
  case neg =>
    have e1 : dtE l = okLa l := by unfold dtE; rw [if_neg h0]
    have e2 : dtA l = 0 := by unfold dtA; rw [if_neg h0]
    have e3 : dtB l = 0 := by unfold dtB; rw [if_neg h0]
    simp (maxSteps := 2000000) only [go_sem, reduceIte, Nat.reduceEqDiff, Nat.reduceAdd, List.replicate_succ, lk15, lk23, lk24, lk25, lk41, h0, e1, e2, e3]
    all_goals first | exact .refl _ | exact ⟨.refl _, .refl _⟩ | exact ⟨.refl _, .refl _, .refl _⟩ | exact ⟨.refl _, _, rfl⟩ | exact ⟨_, rfl⟩ | exact ⟨.refl _, [], by simp⟩ | exact ⟨[], by simp⟩
  have ok := okLa_n h0
  have hc := clash55 l ok
  have hz := clash_zero ok
  have e2 : dtA l = (clashF l).1 := by unfold dtA; rw [if_pos h0]
  have e3 : dtB l = (clashF l).2 := by unfold dtB; rw [if_pos h0]
  unfold laV laC pairV pairC at hc
  simp (maxSteps := 2000000) only [go_sem, reduceIte, Nat.reduceEqDiff, Nat.reduceAdd, List.replicate_succ, lk15, lk23, lk24, lk25, lk41, h0]
  refine aops_pure' (hc) rfl rfl (by first | exact wk_refls _ | (repeat constructor)) ?_
  cases hd : dbB l with
  | false =>
    have e1 : dtE l = 5 := by unfold dtE; rw [if_pos h0, hd]; rfl
    have hp := hz.2 hd
    rw [hp] at e2 e3
    simp (maxSteps := 2000000) only [go_sem, reduceIte, Nat.reduceEqDiff, Nat.reduceAdd, List.replicate_succ, lk15, lk23, lk24, lk25, lk41, hp, e1, e2, e3]
    all_goals first | exact .refl _ | exact ⟨.refl _, .refl _⟩ | exact ⟨.refl _, .refl _, .refl _⟩ | exact ⟨.refl _, _, rfl⟩ | exact ⟨_, rfl⟩ | exact ⟨.refl _, [], by simp⟩ | exact ⟨[], by simp⟩
  | true =>
    have e1 : dtE l = 0 := by unfold dtE; rw [if_pos h0, hd]; rfl
    obtain ⟨s1, s2, s3⟩ := clash_some ((clash_iff ok).1 hd)
    have hne : ¬ ((clashF l).2 : Int) = 0 := by omega
    simp (maxSteps := 2000000) only [go_sem, reduceIte, Nat.reduceEqDiff, Nat.reduceAdd, Nat.reduceLeDiff, Nat.reduceBEq, List.replicate_succ, lk15, lk23, lk24, lk25, lk41, e1, e2, e3, hne, decide_false, Bool.and_false]
    all_goals first | exact .refl _ | exact ⟨.refl _, .refl _⟩ | exact ⟨.refl _, .refl _, .refl _⟩ | exact ⟨.refl _, _, rfl⟩ | exact ⟨_, rfl⟩ | exact ⟨.refl _, [], by simp⟩ | exact ⟨[], by simp⟩
def greatB (l : La) : Bool := decide (14 < l.an.length) || (decide (14 < l.li.length) || (decide (14 < l.fa.length) || decide (100 < l.we.length)))
set_option maxHeartbeats 1000000 in
theorem great15 (l : La) : Pure Try.prog 15 [laV l] (B (greatB l)) := by
  refine pure_wkE (bad := []) (kp := kp15) (X := tx) (nt := 25) (rs := [.tmp 2]) Try.func15 rfl rfl rfl rfl mo (by kernel_rfl) rfl rfl (fun hf => ?_)
  by_cases h1 : 14 < l.an.length
  · have h1' : (14 : Int) < l.an.length := by omega
    simp (maxSteps := 2000000) only [go_sem, reduceIte, Nat.reduceEqDiff, Nat.reduceAdd, Nat.reduceLeDiff, Nat.reduceBEq, List.replicate_succ, lk15, lk23, lk24, lk25, lk41, laV, laC, h1', greatB, h1]
    all_goals first | exact .refl _ | exact ⟨.refl _, .refl _⟩ | exact ⟨.refl _, .refl _, .refl _⟩ | exact ⟨.refl _, _, rfl⟩ | exact ⟨_, rfl⟩ | exact ⟨.refl _, [], by simp⟩ | exact ⟨[], by simp⟩
  have h1' : ¬ (14 : Int) < l.an.length := by omega
  by_cases h2 : 14 < l.li.length
  · have h2' : (14 : Int) < l.li.length := by omega
    simp (maxSteps := 2000000) only [go_sem, reduceIte, Nat.reduceEqDiff, Nat.reduceAdd, Nat.reduceLeDiff, Nat.reduceBEq, List.replicate_succ, lk15, lk23, lk24, lk25, lk41, laV, laC, h1', h2', greatB, h1, h2]
    all_goals first | exact .refl _ | exact ⟨.refl _, .refl _⟩ | exact ⟨.refl _, .refl _, .refl _⟩ | exact ⟨.refl _, _, rfl⟩ | exact ⟨_, rfl⟩ | exact ⟨.refl _, [], by simp⟩ | exact ⟨[], by simp⟩
  have h2' : ¬ (14 : Int) < l.li.length := by omega
  by_cases h3 : 14 < l.fa.length
  · have h3' : (14 : Int) < l.fa.length := by omega
    simp (maxSteps := 2000000) only [go_sem, reduceIte, Nat.reduceEqDiff, Nat.reduceAdd, Nat.reduceLeDiff, Nat.reduceBEq, List.replicate_succ, lk15, lk23, lk24, lk25, lk41, laV, laC, h1', h2', h3', greatB, h1, h2, h3]
    all_goals first | exact .refl _ | exact ⟨.refl _, .refl _⟩ | exact ⟨.refl _, .refl _, .refl _⟩ | exact ⟨.refl _, _, rfl⟩ | exact ⟨_, rfl⟩ | exact ⟨.refl _, [], by simp⟩ | exact ⟨[], by simp⟩
  have h3' : ¬ (14 : Int) < l.fa.length := by omega
  by_cases h4 : 100 < l.we.length
  · have h4' : (100 : Int) < l.we.length := by omega
    simp (maxSteps := 2000000) only [go_sem, reduceIte, Nat.reduceEqDiff, Nat.reduceAdd, Nat.reduceLeDiff, Nat.reduceBEq, List.replicate_succ, lk15, lk23, lk24, lk25, lk41, laV, laC, h1', h2', h3', h4', greatB, h1, h2, h3, h4]
    all_goals first | exact .refl _ | exact ⟨.refl _, .refl _⟩ | exact ⟨.refl _, .refl _, .refl _⟩ | exact ⟨.refl _, _, rfl⟩ | exact ⟨_, rfl⟩ | exact ⟨.refl _, [], by simp⟩ | exact ⟨[], by simp⟩
  · have h4' : ¬ (100 : Int) < l.we.length := by omega
    simp (maxSteps := 2000000) only [go_sem, reduceIte, Nat.reduceEqDiff, Nat.reduceAdd, Nat.reduceLeDiff, Nat.reduceBEq, List.replicate_succ, lk15, lk23, lk24, lk25, lk41, laV, laC, h1', h2', h3', h4', greatB, h1, h2, h3, h4]
    all_goals first | exact .refl _ | exact ⟨.refl _, .refl _⟩ | exact ⟨.refl _, .refl _, .refl _⟩ | exact ⟨.refl _, _, rfl⟩ | exact ⟨_, rfl⟩ | exact ⟨.refl _, [], by simp⟩ | exact ⟨[], by simp⟩
theorem great_no {l : La} (h : okLa l = 0) : greatB l = false := by
  obtain ⟨ok, h10⟩ := (okLa_iff l).1 h
  have := ok.li
  have := ok.fa
  have := ok.n91
  simp [greatB]; omega
end Go.Proofs.Ytliamojogmlgjaa
