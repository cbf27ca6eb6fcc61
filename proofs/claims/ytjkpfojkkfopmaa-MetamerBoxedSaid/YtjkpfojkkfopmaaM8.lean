/- Metamers: Numbers, Spans, Apart. -/
import Derived.Test.YtjkpfojkkfopmaaM7
set_option linter.unusedSimpArgs false
set_option linter.unusedVariables false
set_option maxRecDepth 100000
namespace Go.Proofs.Ytjkpfojkkfopmaa
open Go Go.Abs Go.Proofs
def kp16 : List (Nat × List Nat) := [(0, [2, 3, 4]), (1, [2, 4, 8, 9]), (2, [2, 4, 8, 9, 20]), (3, [6, 7]), (4, [2, 4, 8, 10]), (5, [2, 4, 8, 10, 26]), (6, [6, 7]), (7, [11]), (8, [6, 7])]
theorem lk16 : lookK kp16 0 = some [2, 3, 4] ∧ lookK kp16 1 = some [2, 4, 8, 9] ∧ lookK kp16 2 = some [2, 4, 8, 9, 20] ∧ lookK kp16 3 = some [6, 7] ∧ lookK kp16 4 = some [2, 4, 8, 10] ∧ lookK kp16 5 = some [2, 4, 8, 10, 26] ∧ lookK kp16 6 = some [6, 7] ∧ lookK kp16 7 = some [11] ∧ lookK kp16 8 = some [6, 7] := ⟨rfl, rfl, rfl, rfl, rfl, rfl, rfl, rfl, rfl⟩
def kp17 : List (Nat × List Nat) := [(0, [2, 3, 4]), (1, [2, 3, 4, 10]), (2, [6, 7]), (3, [2, 3, 4, 16]), (4, [6, 7]), (5, [2, 3, 4, 23]), (6, [6, 7]), (7, [6, 7])]
theorem lk17 : lookK kp17 0 = some [2, 3, 4] ∧ lookK kp17 1 = some [2, 3, 4, 10] ∧ lookK kp17 2 = some [6, 7] ∧ lookK kp17 3 = some [2, 3, 4, 16] ∧ lookK kp17 4 = some [6, 7] ∧ lookK kp17 5 = some [2, 3, 4, 23] ∧ lookK kp17 6 = some [6, 7] ∧ lookK kp17 7 = some [6, 7] := ⟨rfl, rfl, rfl, rfl, rfl, rfl, rfl, rfl⟩
def kp18 : List (Nat × List Nat) := [(0, [1, 2]), (1, [1, 6, 7]), (2, [1, 6, 7, 16]), (3, [4, 5]), (4, [4, 5])]
theorem lk18 : lookK kp18 0 = some [1, 2] ∧ lookK kp18 1 = some [1, 6, 7] ∧ lookK kp18 2 = some [1, 6, 7, 16] ∧ lookK kp18 3 = some [4, 5] ∧ lookK kp18 4 = some [4, 5] := ⟨rfl, rfl, rfl, rfl, rfl⟩
def kp19 : List (Nat × List Nat) := [(0, [1, 2]), (1, [1, 2, 10]), (2, [4, 5]), (3, [4, 5])]
theorem lk19 : lookK kp19 0 = some [1, 2] ∧ lookK kp19 1 = some [1, 2, 10] ∧ lookK kp19 2 = some [4, 5] ∧ lookK kp19 3 = some [4, 5] := ⟨rfl, rfl, rfl, rfl⟩
def kp24 : List (Nat × List Nat) := [(0, [1, 2, 3]), (1, [1, 2, 8, 9]), (2, [1, 2, 8, 9, 19]), (3, [6, 7]), (4, [6, 7])]
theorem lk24 : lookK kp24 0 = some [1, 2, 3] ∧ lookK kp24 1 = some [1, 2, 8, 9] ∧ lookK kp24 2 = some [1, 2, 8, 9, 19] ∧ lookK kp24 3 = some [6, 7] ∧ lookK kp24 4 = some [6, 7] := ⟨rfl, rfl, rfl, rfl, rfl⟩
def kp25 : List (Nat × List Nat) := [(0, [1, 2, 3]), (1, [1, 2, 3, 12]), (2, [6, 7]), (3, [6, 7])]
theorem lk25 : lookK kp25 0 = some [1, 2, 3] ∧ lookK kp25 1 = some [1, 2, 3, 12] ∧ lookK kp25 2 = some [6, 7] ∧ lookK kp25 3 = some [6, 7] := ⟨rfl, rfl, rfl, rfl⟩
def kp28 : List (Nat × List Nat) := [(0, [1, 2, 3]), (1, [7, 8]), (2, [7, 8, 18]), (3, [6]), (4, [7, 9]), (5, [7, 9, 21]), (6, [7, 9]), (7, [7, 9, 37]), (8, [6]), (9, [6])]
theorem lk28 : lookK kp28 0 = some [1, 2, 3] ∧ lookK kp28 1 = some [7, 8] ∧ lookK kp28 2 = some [7, 8, 18] ∧ lookK kp28 3 = some [6] ∧ lookK kp28 4 = some [7, 9] ∧ lookK kp28 5 = some [7, 9, 21] ∧ lookK kp28 6 = some [7, 9] ∧ lookK kp28 7 = some [7, 9, 37] ∧ lookK kp28 8 = some [6] ∧ lookK kp28 9 = some [6] := ⟨rfl, rfl, rfl, rfl, rfl, rfl, rfl, rfl, rfl, rfl⟩
def kp29 : List (Nat × List Nat) := [(0, [1, 2, 3]), (1, [7]), (2, [7, 13]), (3, [6]), (4, [7, 15]), (5, [6]), (6, [6])]
theorem lk29 : lookK kp29 0 = some [1, 2, 3] ∧ lookK kp29 1 = some [7] ∧ lookK kp29 2 = some [7, 13] ∧ lookK kp29 3 = some [6] ∧ lookK kp29 4 = some [7, 15] ∧ lookK kp29 5 = some [6] ∧ lookK kp29 6 = some [6] := ⟨rfl, rfl, rfl, rfl, rfl, rfl, rfl⟩

theorem chip_spec {c : Cs} {l : List Int} (hc : OkC c) (h : okChip c l = 0) : Spec l ∧ l.length = c.lamp.length := by
  obtain ⟨h1, h2⟩ := (okChip_iff c l).1 h
  exact ⟨⟨by have := hc.n8; omega, fun x hx => by have := h2 x hx; omega⟩, h1⟩
theorem less_spec {c : Cs} {a b : List Int} (hc : OkC c) (ha : okChip c a = 0) (hb : okChip c b = 0) : Spec (lessL a b) ∧ (lessL a b).length = c.lamp.length := by
  obtain ⟨h1, h2⟩ := (okChip_iff c a).1 ha
  obtain ⟨h3, h4⟩ := (okChip_iff c b).1 hb
  refine ⟨⟨by rw [lessL_len]; have := hc.n8; omega, fun x hx => ?_⟩, by rw [lessL_len, h1]⟩
  simp only [lessL, List.mem_map, List.mem_range] at hx
  obtain ⟨k, hk, rfl⟩ := hx
  have := h2 _ (List.mem_of_getElem? (gI_lt hk))
  have := h4 _ (List.mem_of_getElem? (gI_lt (show k < b.length by omega)))
  omega
/-- The errors of a case and one chip, or two. -/
def chip1 (c : Cs) (a : List Int) : Int := if okCase c = 0 then okChip c a else okCase c
theorem newE1 (c : Cs) (a : List Int) : newE c [a] = chip1 c a := by
  unfold newE chip1 firstE firstE
  split
  · split
    · rename_i h; exact h.symm
    · rfl
  · rfl
theorem newE2 (c : Cs) (a b : List Int) : newE c [a, b] = okChips c a b := by
  unfold newE okChips firstE firstE firstE
  split
  · split
    · split
      · rename_i h; exact h.symm
      · rfl
    · rfl
  · rfl
theorem okChips1 (c : Cs) (a : List Int) : okChips c a a = chip1 c a := by
  unfold okChips chip1
  split
  · split
    · rfl
    · rfl
  · rfl
theorem chip1_iff (c : Cs) (a : List Int) : chip1 c a = 0 ↔ OkC c ∧ okChip c a = 0 := by
  unfold chip1
  constructor
  · intro h
    by_cases h1 : okCase c = 0
    · rw [if_pos h1] at h; exact ⟨(okCase_iff c).1 h1, h⟩
    · rw [if_neg h1] at h; exact absurd h h1
  · rintro ⟨h1, h2⟩; rw [if_pos ((okCase_iff c).2 h1), h2]
theorem okChips_iff (c : Cs) (a b : List Int) : okChips c a b = 0 ↔ OkC c ∧ okChip c a = 0 ∧ okChip c b = 0 := by
  unfold okChips
  constructor
  · intro h
    by_cases h1 : okCase c = 0
    · rw [if_pos h1] at h
      by_cases h2 : okChip c a = 0
      · rw [if_pos h2] at h; exact ⟨(okCase_iff c).1 h1, h2, h⟩
      · rw [if_neg h2] at h; exact absurd h h2
    · rw [if_neg h1] at h; exact absurd h h1
  · rintro ⟨h1, h2, h3⟩; rw [if_pos ((okCase_iff c).2 h1), if_pos h2, h3]

/-- Numbers. -/
def numE (c : Cs) (x : Tr) (l : List Int) : Int := if chip1 c l = 0 then okTr c x else chip1 c l
def numL (c : Cs) (x : Tr) (l : List Int) : List Int := if numE c x l = 0 then seeL (pX x) l else []
def numV (c : Cs) (x : Tr) (l : List Int) : V := .tup [ints (numL c x l), I (numE c x l)]
theorem numV_bad {c : Cs} {x : Tr} {l : List Int} (h : ¬ chip1 c l = 0) : numV c x l = .tup [ints [], I (chip1 c l)] := by
  have e : numE c x l = chip1 c l := by simp only [numE, if_neg h]
  simp only [numV, numL, e, if_neg h]
theorem numV_tr {c : Cs} {x : Tr} {l : List Int} (h : chip1 c l = 0) (h2 : ¬ okTr c x = 0) : numV c x l = .tup [ints [], I (okTr c x)] := by
  have e : numE c x l = okTr c x := by simp only [numE, if_pos h]
  simp only [numV, numL, e, if_neg h2]
theorem numV_ok {c : Cs} {x : Tr} {l : List Int} (h : chip1 c l = 0) (h2 : okTr c x = 0) : numV c x l = .tup [ints (seeL (pX x) l), I 0] := by
  have e : numE c x l = 0 := by simp only [numE, if_pos h, h2]
  simp only [numV, numL, e, if_true]
theorem row1 (a : List Int) : V.c (.d (.sl [[.sl (a.map iD)]])) = intss [a] := rfl
theorem row2 (a b : List Int) : V.c (.d (.sl [[.sl (a.map iD)], [.sl (b.map iD)]])) = intss [a, b] := rfl

set_option maxHeartbeats 2000000 in
theorem numbers16 (c : Cs) (x : Tr) (l : List Int) : Pure Try.prog 16 [csV c, trV x, ints l] (numV c x l) := by
  refine pure_wkE (bad := []) (kp := kp16) (X := tx) (nt := 34) (rs := [.tmp 6, .tmp 7]) Try.func16 rfl rfl rfl rfl mo (by kernel_rfl) rfl rfl (fun hf => ?_)
  simp (maxSteps := 2000000) only [go_sem, reduceIte, Nat.reduceEqDiff, Nat.reduceAdd, Nat.reduceLT, Nat.reduceLeDiff, Nat.reduceBEq, Nat.reduceMul, lk16, lk17, lk18, lk19, lk24, lk25, lk28, lk29, csV, csC, trV, trC, ints]
  refine aops_pure' (new51 c [l]) rfl rfl (by first | exact wk_refls _ | (repeat constructor)) ?_
  simp (maxSteps := 2000000) only [go_sem, reduceIte, Nat.reduceEqDiff, Nat.reduceAdd, lk16, lk17, lk18, lk19, lk24, lk25, lk28, lk29, csV, csC, newE1]
  by_cases h : chip1 c l = 0
  case neg =>
    have e := numV_bad (x := x) h
    simp (maxSteps := 2000000) only [go_sem, reduceIte, Nat.reduceEqDiff, Nat.reduceAdd, lk16, lk17, lk18, lk19, lk24, lk25, lk28, lk29, h, e, ints, List.map_nil]
  obtain ⟨hc, hl⟩ := (chip1_iff c l).1 h
  obtain ⟨hs, hn⟩ := chip_spec hc hl
  simp (maxSteps := 2000000) only [go_sem, reduceIte, Nat.reduceEqDiff, Nat.reduceAdd, lk16, lk17, lk18, lk19, lk24, lk25, lk28, lk29, h, trC]
  refine aops_pure' (truth52 c x hc) rfl rfl (by first | exact wk_refls _ | (repeat constructor)) ?_
  by_cases h2 : okTr c x = 0
  case neg =>
    have e := numV_tr h h2
    simp (maxSteps := 2000000) only [go_sem, reduceIte, Nat.reduceEqDiff, Nat.reduceAdd, lk16, lk17, lk18, lk19, lk24, lk25, lk28, lk29, h2, e, ints, List.map_nil]
  have hT := (okTr_iff c x).1 h2
  have hx := (see53x c c x l (pX x) hs (OkT.okX hc hT (by omega)) (fun i b hi hb H h1 hH => num54 x hc hT i b hi (by omega) H h1 hH)).frame rfl rfl rfl [.cells (csC c)]
  simp (maxSteps := 2000000) only [go_sem, reduceIte, Nat.reduceEqDiff, Nat.reduceAdd, lk16, lk17, lk18, lk19, lk24, lk25, lk28, lk29, h2, csC]
  simp (maxSteps := 2000000) only [go_sem, lk16, lk17, lk18, lk19, lk24, lk25, lk28, lk29, csC, List.cons_append, List.nil_append] at hx
  refine aops_at (hx) rfl rfl (by first | exact wk_refls _ | (repeat constructor)) ?_
  simp (maxSteps := 2000000) only [go_sem, reduceIte, Nat.reduceEqDiff, Nat.reduceAdd, lk16, lk17, lk18, lk19, lk24, lk25, lk28, lk29, th, numsC3]
  refine aops_at (clone55 (seeF (pX x) l) 3 _ rfl rfl) rfl rfl (by first | exact wk_refls _ | (repeat constructor)) ?_
  have e := numV_ok h h2
  simp (maxSteps := 2000000) only [go_sem, reduceIte, Nat.reduceEqDiff, lk16, lk17, lk18, lk19, lk24, lk25, lk28, lk29, e, seeL]

set_option maxHeartbeats 2000000 in
theorem numbers17 (c : Cs) (x : Tr) (l : List Int) : Pure Try.prog 17 [csV c, trV x, ints l] (numV c x l) := by
  refine pure_wkE (bad := []) (kp := kp17) (X := tx) (nt := 30) (rs := [.tmp 6, .tmp 7]) Try.func17 rfl rfl rfl rfl mo (by kernel_rfl) rfl rfl (fun hf => ?_)
  simp (maxSteps := 2000000) only [go_sem, reduceIte, Nat.reduceEqDiff, Nat.reduceAdd, lk16, lk17, lk18, lk19, lk24, lk25, lk28, lk29, csV, csC, trV, trC, ints]
  refine aops_pure' (checkCase21 c) rfl rfl (by first | exact wk_refls _ | (repeat constructor)) ?_
  by_cases h0 : okCase c = 0
  case neg =>
    have h1 : chip1 c l = okCase c := by simp only [chip1, if_neg h0]
    have e := numV_bad (x := x) (l := l) (show ¬ chip1 c l = 0 by rw [h1]; exact h0)
    rw [h1] at e
    simp (maxSteps := 2000000) only [go_sem, reduceIte, Nat.reduceEqDiff, Nat.reduceAdd, lk16, lk17, lk18, lk19, lk24, lk25, lk28, lk29, h0, csC]
    refine aops_pure' (checkCase21 c) rfl rfl (by first | exact wk_refls _ | (repeat constructor)) ?_
    simp (maxSteps := 2000000) only [go_sem, reduceIte, Nat.reduceEqDiff, lk16, lk17, lk18, lk19, lk24, lk25, lk28, lk29, e, ints, List.map_nil]
  have h1 : chip1 c l = okChip c l := by simp only [chip1, if_pos h0]
  simp (maxSteps := 2000000) only [go_sem, reduceIte, Nat.reduceEqDiff, Nat.reduceAdd, lk16, lk17, lk18, lk19, lk24, lk25, lk28, lk29, h0, csC]
  refine aops_pure' (chip56 c l) rfl rfl (by first | exact wk_refls _ | (repeat constructor)) ?_
  by_cases h : okChip c l = 0
  case neg =>
    have e := numV_bad (x := x) (l := l) (show ¬ chip1 c l = 0 by rw [h1]; exact h)
    rw [h1] at e
    simp (maxSteps := 2000000) only [go_sem, reduceIte, Nat.reduceEqDiff, Nat.reduceAdd, lk16, lk17, lk18, lk19, lk24, lk25, lk28, lk29, h, csC]
    refine aops_pure' (chip56 c l) rfl rfl (by first | exact wk_refls _ | (repeat constructor)) ?_
    simp (maxSteps := 2000000) only [go_sem, reduceIte, Nat.reduceEqDiff, lk16, lk17, lk18, lk19, lk24, lk25, lk28, lk29, e, ints, List.map_nil]
  have h10 : chip1 c l = 0 := by rw [h1, h]
  have hc := (okCase_iff c).1 h0
  obtain ⟨hs, hn⟩ := chip_spec hc h
  simp (maxSteps := 2000000) only [go_sem, reduceIte, Nat.reduceEqDiff, Nat.reduceAdd, lk16, lk17, lk18, lk19, lk24, lk25, lk28, lk29, h, csC, trC]
  refine aops_pure' (checkTrue30 c x hc) rfl rfl (by first | exact wk_refls _ | (repeat constructor)) ?_
  by_cases h2 : okTr c x = 0
  case neg =>
    have e := numV_tr h10 h2
    simp (maxSteps := 2000000) only [go_sem, reduceIte, Nat.reduceEqDiff, Nat.reduceAdd, lk16, lk17, lk18, lk19, lk24, lk25, lk28, lk29, h2, csC, trC]
    refine aops_pure' (checkTrue30 c x hc) rfl rfl (by first | exact wk_refls _ | (repeat constructor)) ?_
    simp (maxSteps := 2000000) only [go_sem, reduceIte, Nat.reduceEqDiff, lk16, lk17, lk18, lk19, lk24, lk25, lk28, lk29, e, ints, List.map_nil]
  have hT := (okTr_iff c x).1 h2
  have e := numV_ok h10 h2
  simp (maxSteps := 2000000) only [go_sem, reduceIte, Nat.reduceEqDiff, Nat.reduceAdd, lk16, lk17, lk18, lk19, lk24, lk25, lk28, lk29, h2, trC]
  refine aops_pure' (see31 x l hc hT hs (by omega)) rfl rfl (by first | exact wk_refls _ | (repeat constructor)) ?_
  simp (maxSteps := 2000000) only [go_sem, reduceIte, Nat.reduceEqDiff, lk16, lk17, lk18, lk19, lk24, lk25, lk28, lk29, e, ints]

/-- Spans. -/
def spaV (c : Cs) (l : List Int) : V := .tup [rgs (if chip1 c l = 0 then spansL c l else []), I (chip1 c l)]
set_option maxHeartbeats 2000000 in
theorem spans18 (c : Cs) (l : List Int) : Pure Try.prog 18 [csV c, ints l] (spaV c l) := by
  refine pure_wkE (bad := []) (kp := kp18) (X := tx) (nt := 21) (rs := [.tmp 4, .tmp 5]) Try.func18 rfl rfl rfl rfl mo (by kernel_rfl) rfl rfl (fun hf => ?_)
  simp (maxSteps := 2000000) only [go_sem, reduceIte, Nat.reduceEqDiff, Nat.reduceAdd, Nat.reduceLT, Nat.reduceLeDiff, Nat.reduceBEq, Nat.reduceMul, lk16, lk17, lk18, lk19, lk24, lk25, lk28, lk29, csV, csC, ints]
  refine aops_pure' (new51 c [l]) rfl rfl (by first | exact wk_refls _ | (repeat constructor)) ?_
  simp (maxSteps := 2000000) only [go_sem, reduceIte, Nat.reduceEqDiff, Nat.reduceAdd, lk16, lk17, lk18, lk19, lk24, lk25, lk28, lk29, csV, csC, newE1]
  by_cases h : chip1 c l = 0
  case neg => simp (maxSteps := 2000000) only [go_sem, reduceIte, Nat.reduceEqDiff, Nat.reduceAdd, lk16, lk17, lk18, lk19, lk24, lk25, lk28, lk29, h, spaV, if_false, rgs, List.map_nil]
  obtain ⟨hc, hl⟩ := (chip1_iff c l).1 h
  obtain ⟨hs, hn⟩ := chip_spec hc hl
  simp (maxSteps := 2000000) only [go_sem, reduceIte, Nat.reduceEqDiff, Nat.reduceAdd, lk16, lk17, lk18, lk19, lk24, lk25, lk28, lk29, h, csC]
  refine aops_pure' (spans57 c l hc hs hn) rfl rfl (by first | exact wk_refls _ | (repeat constructor)) ?_
  simp (maxSteps := 2000000) only [go_sem, reduceIte, Nat.reduceEqDiff, lk16, lk17, lk18, lk19, lk24, lk25, lk28, lk29, h, spaV, if_true, rgs]
set_option maxHeartbeats 2000000 in
theorem spans19 (c : Cs) (l : List Int) : Pure Try.prog 19 [csV c, ints l] (spaV c l) := by
  refine pure_wkE (bad := []) (kp := kp19) (X := tx) (nt := 18) (rs := [.tmp 4, .tmp 5]) Try.func19 rfl rfl rfl rfl mo (by kernel_rfl) rfl rfl (fun hf => ?_)
  simp (maxSteps := 2000000) only [go_sem, reduceIte, Nat.reduceEqDiff, Nat.reduceAdd, lk16, lk17, lk18, lk19, lk24, lk25, lk28, lk29, csV, csC, ints]
  refine aops_pure' (chips58 c l l) rfl rfl (by first | exact wk_refls _ | (repeat constructor)) ?_
  simp (maxSteps := 2000000) only [go_sem, reduceIte, Nat.reduceEqDiff, lk16, lk17, lk18, lk19, lk24, lk25, lk28, lk29, okChips1]
  by_cases h : chip1 c l = 0
  case neg =>
    simp (maxSteps := 2000000) only [go_sem, reduceIte, Nat.reduceEqDiff, Nat.reduceAdd, lk16, lk17, lk18, lk19, lk24, lk25, lk28, lk29, h, csC]
    refine aops_pure' (chips58 c l l) rfl rfl (by first | exact wk_refls _ | (repeat constructor)) ?_
    simp (maxSteps := 2000000) only [go_sem, reduceIte, Nat.reduceEqDiff, lk16, lk17, lk18, lk19, lk24, lk25, lk28, lk29, h, okChips1, spaV, if_false, rgs, List.map_nil]
  obtain ⟨hc, hl⟩ := (chip1_iff c l).1 h
  obtain ⟨hs, hn⟩ := chip_spec hc hl
  simp (maxSteps := 2000000) only [go_sem, reduceIte, Nat.reduceEqDiff, Nat.reduceAdd, lk16, lk17, lk18, lk19, lk24, lk25, lk28, lk29, h, csC]
  refine aops_pure' (spans59 c l hc hs hn) rfl rfl (by first | exact wk_refls _ | (repeat constructor)) ?_
  simp (maxSteps := 2000000) only [go_sem, reduceIte, Nat.reduceEqDiff, lk16, lk17, lk18, lk19, lk24, lk25, lk28, lk29, h, spaV, if_true, rgs]

/-- Apart. -/
def apaL (c : Cs) (a b : List Int) : List Rg := if okChips c a b = 0 then spansL c (lessL a b) else []
def apaV (c : Cs) (a b : List Int) : V := .tup [rgs (apaL c a b), I (okChips c a b)]
set_option maxHeartbeats 2000000 in
theorem apart24 (c : Cs) (a b : List Int) : Pure Try.prog 24 [csV c, ints a, ints b] (apaV c a b) := by
  refine pure_wkE (bad := []) (kp := kp24) (X := tx) (nt := 26) (rs := [.tmp 6, .tmp 7]) Try.func24 rfl rfl rfl rfl mo (by kernel_rfl) rfl rfl (fun hf => ?_)
  simp (maxSteps := 2000000) only [go_sem, reduceIte, Nat.reduceEqDiff, Nat.reduceAdd, Nat.reduceLT, Nat.reduceLeDiff, Nat.reduceBEq, Nat.reduceMul, lk16, lk17, lk18, lk19, lk24, lk25, lk28, lk29, csV, csC, ints]
  refine aops_pure' (new51 c [a, b]) rfl rfl (by first | exact wk_refls _ | (repeat constructor)) ?_
  simp (maxSteps := 2000000) only [go_sem, reduceIte, Nat.reduceEqDiff, Nat.reduceAdd, lk16, lk17, lk18, lk19, lk24, lk25, lk28, lk29, csV, csC, newE2]
  by_cases h : okChips c a b = 0
  case neg => simp (maxSteps := 2000000) only [go_sem, reduceIte, Nat.reduceEqDiff, Nat.reduceAdd, lk16, lk17, lk18, lk19, lk24, lk25, lk28, lk29, h, apaV, apaL, if_false, rgs, List.map_nil]
  obtain ⟨hc, ha, hb⟩ := (okChips_iff c a b).1 h
  obtain ⟨hsa, hna⟩ := chip_spec hc ha
  obtain ⟨hsb, hnb⟩ := chip_spec hc hb
  obtain ⟨hs, hn⟩ := less_spec hc ha hb
  simp (maxSteps := 2000000) only [go_sem, reduceIte, Nat.reduceEqDiff, Nat.reduceAdd, lk16, lk17, lk18, lk19, lk24, lk25, lk28, lk29, h, csC]
  refine dops_pure' (less64 a b (by omega) hsa hsb) rfl rfl (by first | exact wk_refls _ | (repeat constructor)) (by kernel_rfl) ?_
  simp (maxSteps := 2000000) only [go_sem, reduceIte, Nat.reduceEqDiff, Nat.reduceAdd, lk16, lk17, lk18, lk19, lk24, lk25, lk28, lk29, h, csC]
  refine dops_pure' (spans57 c (lessL a b) hc hs hn) rfl rfl (by first | exact wk_refls _ | (repeat constructor)) (by kernel_rfl) ?_
  simp (maxSteps := 2000000) only [go_sem, reduceIte, Nat.reduceEqDiff, Nat.reduceAdd, lk16, lk17, lk18, lk19, lk24, lk25, lk28, lk29, h, apaV, apaL, if_true, rgs]
set_option maxHeartbeats 2000000 in
theorem apart25 (c : Cs) (a b : List Int) : Pure Try.prog 25 [csV c, ints a, ints b] (apaV c a b) := by
  refine pure_wkE (bad := []) (kp := kp25) (X := tx) (nt := 22) (rs := [.tmp 6, .tmp 7]) Try.func25 rfl rfl rfl rfl mo (by kernel_rfl) rfl rfl (fun hf => ?_)
  simp (maxSteps := 2000000) only [go_sem, reduceIte, Nat.reduceEqDiff, Nat.reduceAdd, lk16, lk17, lk18, lk19, lk24, lk25, lk28, lk29, csV, csC, ints]
  refine aops_pure' (chips58 c a b) rfl rfl (by first | exact wk_refls _ | (repeat constructor)) ?_
  by_cases h : okChips c a b = 0
  case neg =>
    simp (maxSteps := 2000000) only [go_sem, reduceIte, Nat.reduceEqDiff, Nat.reduceAdd, lk16, lk17, lk18, lk19, lk24, lk25, lk28, lk29, h, csC]
    refine aops_pure' (chips58 c a b) rfl rfl (by first | exact wk_refls _ | (repeat constructor)) ?_
    simp (maxSteps := 2000000) only [go_sem, reduceIte, Nat.reduceEqDiff, lk16, lk17, lk18, lk19, lk24, lk25, lk28, lk29, h, apaV, apaL, if_false, rgs, List.map_nil]
  obtain ⟨hc, ha, hb⟩ := (okChips_iff c a b).1 h
  obtain ⟨hsa, hna⟩ := chip_spec hc ha
  obtain ⟨hsb, hnb⟩ := chip_spec hc hb
  obtain ⟨hs, hn⟩ := less_spec hc ha hb
  simp (maxSteps := 2000000) only [go_sem, reduceIte, Nat.reduceEqDiff, Nat.reduceAdd, lk16, lk17, lk18, lk19, lk24, lk25, lk28, lk29, h, csC]
  refine dops_pure' (less65 a b (by omega) hsa hsb) rfl rfl (by first | exact wk_refls _ | (repeat constructor)) (by kernel_rfl) ?_
  simp (maxSteps := 2000000) only [go_sem, reduceIte, Nat.reduceEqDiff, Nat.reduceAdd, lk16, lk17, lk18, lk19, lk24, lk25, lk28, lk29, h, csC]
  refine dops_pure' (spans59 c (lessL a b) hc hs hn) rfl rfl (by first | exact wk_refls _ | (repeat constructor)) (by kernel_rfl) ?_
  simp (maxSteps := 2000000) only [go_sem, reduceIte, Nat.reduceEqDiff, Nat.reduceAdd, lk16, lk17, lk18, lk19, lk24, lk25, lk28, lk29, h, apaV, apaL, if_true, rgs]

/-- Surely. -/
def zRg (r : Rg) : Bool := decide (r.lo = 0) && decide (r.hi = 0)
def sureE (c : Cs) (a b : List Int) : Int := if okChips c a b = 0 then (if (spansL c (lessL a b)).all zRg then 0 else 19) else okChips c a b
set_option maxHeartbeats 2000000 in
theorem surely28 (c : Cs) (a b : List Int) : Pure Try.prog 28 [csV c, ints a, ints b] (I (sureE c a b)) := by
  refine pure_wkE (bad := []) (kp := kp28) (X := tx) (nt := 38) (rs := [.tmp 6]) Try.func28 rfl rfl rfl rfl mo (by kernel_rfl) rfl rfl (fun hf => ?_)
  simp (maxSteps := 2000000) only [go_sem, reduceIte, Nat.reduceEqDiff, Nat.reduceAdd, lk16, lk17, lk18, lk19, lk24, lk25, lk28, lk29, csV, csC, ints]
  refine aops_pure' (apart25 c a b) rfl rfl (by first | exact wk_refls _ | (repeat constructor)) ?_
  simp (maxSteps := 2000000) only [go_sem, reduceIte, Nat.reduceEqDiff, lk16, lk17, lk18, lk19, lk24, lk25, lk28, lk29, apaV]
  by_cases h : okChips c a b = 0
  case neg =>
    have e : sureE c a b = okChips c a b := by simp only [sureE, if_neg h]
    simp (maxSteps := 2000000) only [go_sem, reduceIte, Nat.reduceEqDiff, Nat.reduceAdd, lk16, lk17, lk18, lk19, lk24, lk25, lk28, lk29, h, e]
  have e : sureE c a b = if (spansL c (lessL a b)).all zRg then 0 else 19 := by simp only [sureE, if_pos h]
  have e2 : apaL c a b = spansL c (lessL a b) := by simp only [apaL, if_pos h]
  have el : (spansL c (lessL a b)).length = 3 := rfl
  generalize spansL c (lessL a b) = l at *
  simp (maxSteps := 2000000) only [go_sem, reduceIte, Nat.reduceEqDiff, Nat.reduceAdd, lk16, lk17, lk18, lk19, lk24, lk25, lk28, lk29, h, e2]
  refine goE_loop (bad := []) (kp := kp28) (fun i : Nat => { slots := [(7, rgs l), (9, I i)], heap := [], marks := [] }) (fun i => i ≤ 3 ∧ ∀ j x, j < i → l[j]? = some x → zRg x = true) (fun i => 3 - i) 0 mo (by kernel_rfl) ?_ ⟨Nat.zero_le _, by intro j r h; omega⟩ ?_
  · refine ent_weaken [.cells (csC c)] rfl rfl (Nat.zero_le _) rfl rfl ?_
    simp (maxSteps := 2000000) only [go_sem, reduceIte, Nat.reduceEqDiff, lk16, lk17, lk18, lk19, lk24, lk25, lk28, lk29, rgs]
    all_goals first | exact .refl _ | exact ⟨.refl _, .refl _⟩ | exact ⟨.refl _, .refl _, .refl _⟩ | exact ⟨.refl _, _, rfl⟩ | exact ⟨_, rfl⟩ | exact ⟨.refl _, [], by simp⟩ | exact ⟨[], by simp⟩
  rintro i ⟨hi, hall⟩
  simp (maxSteps := 2000000) only [go_sem, reduceIte, Nat.reduceEqDiff, Nat.reduceAdd, lk16, lk17, lk18, lk19, lk24, lk25, lk28, lk29, rgs]
  by_cases hlt : i < 3
  · have hlt' : (i : Int) < 3 := by omega
    obtain ⟨x, hx⟩ := get_of_lt (show i < l.length by omega)
    have k1 : (i : Int) < l.length := by omega
    have m1 : 3 - (i + 1) < 3 - i := by omega
    have bad : zRg x = false → sureE c a b = 19 := fun hz => by
      rw [e, if_neg]; intro h2; rw [List.all_eq_true.1 h2 x (List.mem_of_getElem? hx)] at hz; cases hz
    by_cases z1 : x.lo = 0
    · by_cases z2 : x.hi = 0
      · have w3 : wr .i64 ((i : Int) + 1) = ((i + 1 : Nat) : Int) := by rw [wr_i64] <;> omega
        simp (maxSteps := 2000000) only [go_sem, reduceIte, Nat.reduceEqDiff, Nat.reduceAdd, Nat.reduceLeDiff, Nat.reduceBEq, lk16, lk17, lk18, lk19, lk24, lk25, lk28, lk29, hlt', hx, rgD, nn, k1, z1, z2, w3]
        refine ⟨i + 1, ⟨hlt, upto_succ hall hx (by simp [zRg, z1, z2])⟩, m1, ?_⟩
        refine ent_weaken [] rfl rfl (Nat.zero_le _) rfl rfl ?_
        simp (maxSteps := 2000000) only [go_sem, reduceIte, Nat.reduceEqDiff, lk16, lk17, lk18, lk19, lk24, lk25, lk28, lk29]
        all_goals first | exact .refl _ | exact ⟨.refl _, .refl _⟩ | exact ⟨.refl _, .refl _, .refl _⟩ | exact ⟨.refl _, _, rfl⟩ | exact ⟨_, rfl⟩ | exact ⟨.refl _, [], by simp⟩ | exact ⟨[], by simp⟩
      · have e3 := bad (by simp [zRg, z2])
        simp (maxSteps := 2000000) only [go_sem, reduceIte, Nat.reduceEqDiff, Nat.reduceAdd, Nat.reduceLeDiff, Nat.reduceBEq, lk16, lk17, lk18, lk19, lk24, lk25, lk28, lk29, hlt', hx, rgD, nn, k1, z1, z2, e3]
    · have e3 := bad (by simp [zRg, z1])
      simp (maxSteps := 2000000) only [go_sem, reduceIte, Nat.reduceEqDiff, Nat.reduceAdd, Nat.reduceLeDiff, Nat.reduceBEq, lk16, lk17, lk18, lk19, lk24, lk25, lk28, lk29, hlt', hx, rgD, nn, k1, z1, e3]
  · have hlt' : ¬ (i : Int) < 3 := by omega
    have e3 : sureE c a b = 0 := by
      rw [e, if_pos]; rw [List.all_eq_true]; intro x hx
      obtain ⟨j, hj⟩ := List.getElem?_of_mem hx
      exact hall j x (by have := (List.getElem?_eq_some_iff.1 hj).1; omega) hj
    simp (maxSteps := 2000000) only [go_sem, reduceIte, Nat.reduceEqDiff, Nat.reduceAdd, lk16, lk17, lk18, lk19, lk24, lk25, lk28, lk29, hlt', e3]
def partE (c : Cs) (a b : List Int) : Int := if sureE c a b = 0 then 5 else if sureE c a b = 19 then 0 else sureE c a b
set_option maxHeartbeats 2000000 in
theorem parting29 (c : Cs) (a b : List Int) : Pure Try.prog 29 [csV c, ints a, ints b] (I (partE c a b)) := by
  refine pure_wkE (bad := []) (kp := kp29) (X := tx) (nt := 17) (rs := [.tmp 6]) Try.func29 rfl rfl rfl rfl mo (by kernel_rfl) rfl rfl (fun hf => ?_)
  simp (maxSteps := 2000000) only [go_sem, reduceIte, Nat.reduceEqDiff, Nat.reduceAdd, lk16, lk17, lk18, lk19, lk24, lk25, lk28, lk29, csV, csC, ints]
  refine aops_pure' (surely28 c a b) rfl rfl (by first | exact wk_refls _ | (repeat constructor)) ?_
  by_cases h : sureE c a b = 0
  · have e : partE c a b = 5 := by simp only [partE, if_pos h]
    simp (maxSteps := 2000000) only [go_sem, reduceIte, Nat.reduceEqDiff, Nat.reduceAdd, lk16, lk17, lk18, lk19, lk24, lk25, lk28, lk29, h, e]
  by_cases h2 : sureE c a b = 19
  · have e : partE c a b = 0 := by simp only [partE, if_neg h, if_pos h2]
    simp (maxSteps := 2000000) only [go_sem, reduceIte, Nat.reduceEqDiff, Nat.reduceAdd, Int.reduceEq, lk16, lk17, lk18, lk19, lk24, lk25, lk28, lk29, h2, e]
  · have e : partE c a b = sureE c a b := by simp only [partE, if_neg h, if_neg h2]
    simp (maxSteps := 2000000) only [go_sem, reduceIte, Nat.reduceEqDiff, Nat.reduceAdd, lk16, lk17, lk18, lk19, lk24, lk25, lk28, lk29, h, h2, e]
end Go.Proofs.Ytjkpfojkkfopmaa
