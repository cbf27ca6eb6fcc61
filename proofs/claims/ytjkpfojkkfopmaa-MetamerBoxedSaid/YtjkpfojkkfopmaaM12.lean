/- Metamers: Mix, Fit, and the pairs of sets that clash. -/
import Derived.Test.YtjkpfojkkfopmaaM11
set_option linter.unusedSimpArgs false
set_option linter.unusedVariables false
set_option maxRecDepth 100000
namespace Go.Proofs.Ytjkpfojkkfopmaa
open Go Go.Abs Go.Proofs
def kp33 : List (Nat × List Nat) := [(0, [1, 2]), (1, [1, 2, 6]), (2, [1, 2, 6, 10]), (3, [4, 5]), (4, [1, 2, 19]), (5, [4, 5]), (6, [4, 5])]
theorem lk33 : lookK kp33 0 = some [1, 2] ∧ lookK kp33 1 = some [1, 2, 6] ∧ lookK kp33 2 = some [1, 2, 6, 10] ∧ lookK kp33 3 = some [4, 5] ∧ lookK kp33 4 = some [1, 2, 19] ∧ lookK kp33 5 = some [4, 5] ∧ lookK kp33 6 = some [4, 5] := ⟨rfl, rfl, rfl, rfl, rfl, rfl, rfl⟩
def kp34 : List (Nat × List Nat) := [(0, [1, 2]), (1, [1, 2, 8]), (2, [4, 5]), (3, [1, 2, 20]), (4, [4, 5]), (5, [4, 5])]
theorem lk34 : lookK kp34 0 = some [1, 2] ∧ lookK kp34 1 = some [1, 2, 8] ∧ lookK kp34 2 = some [4, 5] ∧ lookK kp34 3 = some [1, 2, 20] ∧ lookK kp34 4 = some [4, 5] ∧ lookK kp34 5 = some [4, 5] := ⟨rfl, rfl, rfl, rfl, rfl, rfl⟩
def kp35 : List (Nat × List Nat) := [(0, [1, 2]), (1, [1, 2, 6]), (2, [1, 2, 6, 13]), (3, [4, 5]), (4, [1, 2, 22]), (5, [4, 5]), (6, [1, 2, 7]), (7, [1, 2, 7, 24, 25, 26]), (8, [1, 2, 7, 24, 25, 26, 27]), (9, [1, 2, 7, 8, 9, 24, 25, 26]), (10, [1, 2, 7, 8, 24, 25, 26, 35]), (11, [1, 2, 7, 24, 25, 26]), (12, [1, 2, 7, 24, 25, 26]), (13, [4, 5])]
theorem lk35 : lookK kp35 0 = some [1, 2] ∧ lookK kp35 1 = some [1, 2, 6] ∧ lookK kp35 2 = some [1, 2, 6, 13] ∧ lookK kp35 3 = some [4, 5] ∧ lookK kp35 4 = some [1, 2, 22] ∧ lookK kp35 5 = some [4, 5] ∧ lookK kp35 6 = some [1, 2, 7] ∧ lookK kp35 7 = some [1, 2, 7, 24, 25, 26] ∧ lookK kp35 8 = some [1, 2, 7, 24, 25, 26, 27] ∧ lookK kp35 9 = some [1, 2, 7, 8, 9, 24, 25, 26] ∧ lookK kp35 10 = some [1, 2, 7, 8, 24, 25, 26, 35] ∧ lookK kp35 11 = some [1, 2, 7, 24, 25, 26] ∧ lookK kp35 12 = some [1, 2, 7, 24, 25, 26] ∧ lookK kp35 13 = some [4, 5] := ⟨rfl, rfl, rfl, rfl, rfl, rfl, rfl, rfl, rfl, rfl, rfl, rfl, rfl, rfl⟩
def kp36 : List (Nat × List Nat) := [(0, [1, 2]), (1, [1, 2, 10]), (2, [4, 5]), (3, [1, 2, 20]), (4, [4, 5]), (5, [1, 2, 6]), (6, [1, 2, 6, 7]), (7, [1, 2, 6, 7, 26]), (8, [1, 2, 6, 7]), (9, [1, 2, 6, 7, 35]), (10, [1, 2, 6, 7]), (11, [4, 5])]
theorem lk36 : lookK kp36 0 = some [1, 2] ∧ lookK kp36 1 = some [1, 2, 10] ∧ lookK kp36 2 = some [4, 5] ∧ lookK kp36 3 = some [1, 2, 20] ∧ lookK kp36 4 = some [4, 5] ∧ lookK kp36 5 = some [1, 2, 6] ∧ lookK kp36 6 = some [1, 2, 6, 7] ∧ lookK kp36 7 = some [1, 2, 6, 7, 26] ∧ lookK kp36 8 = some [1, 2, 6, 7] ∧ lookK kp36 9 = some [1, 2, 6, 7, 35] ∧ lookK kp36 10 = some [1, 2, 6, 7] ∧ lookK kp36 11 = some [4, 5] := ⟨rfl, rfl, rfl, rfl, rfl, rfl, rfl, rfl, rfl, rfl, rfl, rfl⟩
def kp75 : List (Nat × List Nat) := [(0, [0, 1, 4]), (1, [4])]
theorem lk75 : lookK kp75 0 = some [0, 1, 4] ∧ lookK kp75 1 = some [4] := ⟨rfl, rfl⟩
def kp76 : List (Nat × List Nat) := [(0, [0, 1, 2]), (1, [0, 2, 8]), (2, [6]), (3, [6])]
theorem lk76 : lookK kp76 0 = some [0, 1, 2] ∧ lookK kp76 1 = some [0, 2, 8] ∧ lookK kp76 2 = some [6] ∧ lookK kp76 3 = some [6] := ⟨rfl, rfl, rfl, rfl⟩
def kp41 : List (Nat × List Nat) := [(0, [1]), (1, [1, 9]), (2, [2, 3, 4]), (3, [1, 5]), (4, [1, 5, 17]), (5, [1, 5]), (6, [1, 5, 6]), (7, [1, 5, 6, 27]), (8, [1, 5, 6]), (9, [1, 5, 6, 39]), (10, [2, 3, 4]), (11, [2, 3, 4])]
theorem lk41 : lookK kp41 0 = some [1] ∧ lookK kp41 1 = some [1, 9] ∧ lookK kp41 2 = some [2, 3, 4] ∧ lookK kp41 3 = some [1, 5] ∧ lookK kp41 4 = some [1, 5, 17] ∧ lookK kp41 5 = some [1, 5] ∧ lookK kp41 6 = some [1, 5, 6] ∧ lookK kp41 7 = some [1, 5, 6, 27] ∧ lookK kp41 8 = some [1, 5, 6] ∧ lookK kp41 9 = some [1, 5, 6, 39] ∧ lookK kp41 10 = some [2, 3, 4] ∧ lookK kp41 11 = some [2, 3, 4] := ⟨rfl, rfl, rfl, rfl, rfl, rfl, rfl, rfl, rfl, rfl, rfl, rfl⟩

/-- Mix. -/
def mixE (p : Pal) (s : Int) : Int := if okPal p = 0 then (if 0 ≤ s ∧ s < ((2 ^ p.pig.length : Nat) : Int) then 0 else 3) else okPal p
def mixV (p : Pal) (s : Int) : V := .tup [ints (if mixE p s = 0 then sumL p s.toNat else []), I (mixE p s)]
theorem mixV_bad {p : Pal} {s : Int} (h : ¬ okPal p = 0) : mixV p s = .tup [ints [], I (okPal p)] := by
  have e : mixE p s = okPal p := by simp only [mixE, if_neg h]
  simp only [mixV, e, if_neg h]
theorem mixV_range {p : Pal} {s : Int} (h : okPal p = 0) (h2 : ¬ (0 ≤ s ∧ s < ((2 ^ p.pig.length : Nat) : Int))) : mixV p s = .tup [ints [], I 3] := by
  have e : mixE p s = 3 := by simp only [mixE, if_pos h, if_neg h2]
  simp only [mixV, e]; rfl
theorem mixV_ok {p : Pal} {s : Nat} (h : okPal p = 0) (h2 : s < 2 ^ p.pig.length) : mixV p s = .tup [ints (sumL p s), I 0] := by
  have e : mixE p s = 0 := by simp only [mixE, if_pos h]; rw [if_pos]; omega
  simp only [mixV, e, if_true, Int.toNat_natCast]
theorem mixL_get {p : Pal} {s : Nat} (h : s < 2 ^ p.pig.length) : (mixL p)[s]? = some (sumL p s) := by simp [mixL, h]
theorem mixL_len (p : Pal) : (mixL p).length = 2 ^ p.pig.length := by simp [mixL]
set_option maxHeartbeats 2000000 in
theorem mix33 (p : Pal) (s : Int) : Pure Try.prog 33 [palV p, I s] (mixV p s) := by
  refine pure_wkE (bad := []) (kp := kp33) (X := tx) (nt := 25) (rs := [.tmp 4, .tmp 5]) Try.func33 rfl rfl rfl rfl mo (by kernel_rfl) rfl rfl (fun hf => ?_)
  simp (maxSteps := 2000000) only [go_sem, reduceIte, Nat.reduceEqDiff, Nat.reduceAdd, lk33, lk34, lk35, lk36, lk75, lk76, lk41, palV, palC]
  refine aops_pure' (checkPal37 p) rfl rfl (by first | exact wk_refls _ | (repeat constructor)) ?_
  by_cases h : okPal p = 0
  case neg =>
    have e := mixV_bad (s := s) h
    simp (maxSteps := 2000000) only [go_sem, reduceIte, Nat.reduceEqDiff, Nat.reduceAdd, lk33, lk34, lk35, lk36, lk75, lk76, lk41, h, e, ints, List.map_nil]
  have hp := (okPal_iff p).1 h
  by_cases h1 : s < 0
  · have e := mixV_range (s := s) h (by omega)
    simp (maxSteps := 2000000) only [go_sem, reduceIte, Nat.reduceEqDiff, Nat.reduceAdd, lk33, lk34, lk35, lk36, lk75, lk76, lk41, h, h1, e, ints, List.map_nil, palC]
  by_cases h2 : ((2 ^ p.pig.length : Nat) : Int) ≤ s
  · have e := mixV_range (s := s) h (by omega)
    simp (maxSteps := 2000000) only [go_sem, reduceIte, Nat.reduceEqDiff, Nat.reduceAdd, lk33, lk34, lk35, lk36, lk75, lk76, lk41, h, h1, palC]
    refine aops_pure' (sets68 p hp) rfl rfl (by first | exact wk_refls _ | (repeat constructor)) ?_
    simp (maxSteps := 2000000) only [go_sem, reduceIte, Nat.reduceEqDiff, Nat.reduceAdd, lk33, lk34, lk35, lk36, lk75, lk76, lk41, h2, e, ints, List.map_nil]
  obtain ⟨n, rfl⟩ := Int.eq_ofNat_of_zero_le (show 0 ≤ s by omega)
  have hn : n < 2 ^ p.pig.length := by omega
  have e := mixV_ok h hn
  have g1 := mixL_get hn
  have c1 : (n : Int) < ((2 ^ p.pig.length : Nat) : Int) := by omega
  simp (maxSteps := 2000000) only [go_sem, reduceIte, Nat.reduceEqDiff, Nat.reduceAdd, lk33, lk34, lk35, lk36, lk75, lk76, lk41, h, h1, palC]
  refine aops_pure' (sets68 p hp) rfl rfl (by first | exact wk_refls _ | (repeat constructor)) ?_
  simp (maxSteps := 2000000) only [go_sem, reduceIte, Nat.reduceEqDiff, Nat.reduceAdd, lk33, lk34, lk35, lk36, lk75, lk76, lk41, h2, palC]
  refine aops_pure' (mixes69 p hp) rfl rfl (by first | exact wk_refls _ | (repeat constructor)) ?_
  simp (maxSteps := 2000000) only [go_sem, reduceIte, Nat.reduceEqDiff, lk33, lk34, lk35, lk36, lk75, lk76, lk41, intss, g1, rowI, nn, mixL_len, c1, e, ints]
set_option maxHeartbeats 2000000 in
theorem mix34 (p : Pal) (s : Int) : Pure Try.prog 34 [palV p, I s] (mixV p s) := by
  refine pure_wkE (bad := []) (kp := kp34) (X := tx) (nt := 24) (rs := [.tmp 4, .tmp 5]) Try.func34 rfl rfl rfl rfl mo (by kernel_rfl) rfl rfl (fun hf => ?_)
  simp (maxSteps := 2000000) only [go_sem, reduceIte, Nat.reduceEqDiff, Nat.reduceAdd, lk33, lk34, lk35, lk36, lk75, lk76, lk41, palV, palC]
  refine aops_pure' (checkPal38 p) rfl rfl (by first | exact wk_refls _ | (repeat constructor)) ?_
  by_cases h : okPal p = 0
  case neg =>
    have e := mixV_bad (s := s) h
    simp (maxSteps := 2000000) only [go_sem, reduceIte, Nat.reduceEqDiff, Nat.reduceAdd, lk33, lk34, lk35, lk36, lk75, lk76, lk41, h, palC]
    refine aops_pure' (checkPal38 p) rfl rfl (by first | exact wk_refls _ | (repeat constructor)) ?_
    simp (maxSteps := 2000000) only [go_sem, reduceIte, Nat.reduceEqDiff, lk33, lk34, lk35, lk36, lk75, lk76, lk41, e, ints, List.map_nil]
  have hp := (okPal_iff p).1 h
  by_cases h1 : s < 0
  · have e := mixV_range (s := s) h (by omega)
    simp (maxSteps := 2000000) only [go_sem, reduceIte, Nat.reduceEqDiff, Nat.reduceAdd, lk33, lk34, lk35, lk36, lk75, lk76, lk41, h, h1, e, ints, List.map_nil, palC]
  by_cases h2 : ((2 ^ p.pig.length : Nat) : Int) ≤ s
  · have e := mixV_range (s := s) h (by omega)
    simp (maxSteps := 2000000) only [go_sem, reduceIte, Nat.reduceEqDiff, Nat.reduceAdd, Nat.reduceLeDiff, Nat.reduceBEq, lk33, lk34, lk35, lk36, lk75, lk76, lk41, h, h1, palC, shl12 hp.k12, z2, h2, e, ints, List.map_nil]
  obtain ⟨n, rfl⟩ := Int.eq_ofNat_of_zero_le (show 0 ≤ s by omega)
  have hn : n < 2 ^ p.pig.length := by omega
  have e := mixV_ok h hn
  simp (maxSteps := 2000000) only [go_sem, reduceIte, Nat.reduceEqDiff, Nat.reduceAdd, Nat.reduceLeDiff, Nat.reduceBEq, lk33, lk34, lk35, lk36, lk75, lk76, lk41, h, h1, palC, shl12 hp.k12, z2, h2]
  refine aops_pure' (sum46 p n hp hn) rfl rfl (by first | exact wk_refls _ | (repeat constructor)) ?_
  simp (maxSteps := 2000000) only [go_sem, reduceIte, Nat.reduceEqDiff, lk33, lk34, lk35, lk36, lk75, lk76, lk41, e, ints]

/-- Fit. -/
def fitP (p : Pal) (l : List Int) (s : Nat) : Bool := nearB l (sumL p s) p.err
def fitN (p : Pal) (l : List Int) (n : Nat) : List Int := ((List.range n).filter (fitP p l)).map (fun s : Nat => (s : Int))
def fitE (p : Pal) (l : List Int) : Int := if okPal p = 0 then (if l.length = p.n then 0 else 15) else okPal p
def fitV' (p : Pal) (l : List Int) : V := .tup [ints (if fitE p l = 0 then fitN p l (2 ^ p.pig.length) else []), I (fitE p l)]
theorem fitV_bad {p : Pal} {l : List Int} (h : ¬ okPal p = 0) : fitV' p l = .tup [ints [], I (okPal p)] := by
  have e : fitE p l = okPal p := by simp only [fitE, if_neg h]
  simp only [fitV', e, if_neg h]
theorem fitV_len {p : Pal} {l : List Int} (h : okPal p = 0) (h2 : ¬ l.length = p.n) : fitV' p l = .tup [ints [], I 15] := by
  have e : fitE p l = 15 := by simp only [fitE, if_pos h, if_neg h2]
  simp only [fitV', e]; rfl
theorem fitV_ok {p : Pal} {l : List Int} (h : okPal p = 0) (h2 : l.length = p.n) : fitV' p l = .tup [ints (fitN p l (2 ^ p.pig.length)), I 0] := by
  have e : fitE p l = 0 := by simp only [fitE, if_pos h, if_pos h2]
  simp only [fitV', e, if_true]
theorem fitN_t {p : Pal} {l : List Int} {n : Nat} (h : fitP p l n = true) : fitN p l (n + 1) = fitN p l n ++ [(n : Int)] := by
  rw [fitN, fitN, List.range_succ, List.filter_append, List.map_append]; simp [h]
theorem fitN_f {p : Pal} {l : List Int} {n : Nat} (h : fitP p l n = false) : fitN p l (n + 1) = fitN p l n := by
  rw [fitN, fitN, List.range_succ, List.filter_append, List.map_append]; simp [h]
theorem fitN_len (p : Pal) (l : List Int) (n : Nat) : (fitN p l n).length ≤ n := by
  rw [fitN, List.length_map]; exact Nat.le_trans (List.length_filter_le _ _) (by simp)
theorem sumL_small {p : Pal} (hp : OkP p) (s : Nat) : ∀ y ∈ sumL p s, -1000000 ≤ y ∧ y ≤ 1000000 := fun y hy => by
  simp only [sumL, List.mem_map, List.mem_range] at hy
  obtain ⟨b, _, rfl⟩ := hy
  have := sumB_bound hp s b p.pig.length
  have := hp.k12
  omega
theorem own_ok {m : Nat} (h : m ≤ 4096) : (decide ((m + 1 + (m + 1) / 4 + 256) * 8 ≤ 281474976710656) && decide (m ≤ 140737488355327)) = true := by
  simp; omega
set_option maxHeartbeats 4000000 in
theorem fit35 (p : Pal) (l : List Int) : Pure Try.prog 35 [palV p, ints l] (fitV' p l) := by
  refine pure_wkE (bad := []) (kp := kp35) (X := tx) (nt := 42) (rs := [.tmp 4, .tmp 5]) Try.func35 rfl rfl rfl rfl mo (by kernel_rfl) rfl rfl (fun hf => ?_)
  simp (maxSteps := 2000000) only [go_sem, reduceIte, Nat.reduceEqDiff, Nat.reduceAdd, lk33, lk34, lk35, lk36, lk75, lk76, lk41, palV, palC, ints]
  refine aops_pure' (checkPal37 p) rfl rfl (by first | exact wk_refls _ | (repeat constructor)) ?_
  by_cases h : okPal p = 0
  case neg =>
    have e := fitV_bad (l := l) h
    simp (maxSteps := 2000000) only [go_sem, reduceIte, Nat.reduceEqDiff, Nat.reduceAdd, lk33, lk34, lk35, lk36, lk75, lk76, lk41, h, e, ints, List.map_nil]
  have hp := (okPal_iff p).1 h
  have g0 := (hp.at' hp.k1).1
  have hk1 := hp.k1
  have k0 : (0 : Int) < p.pig.length := by omega
  have en : (p.row 0).length = p.n := rfl
  by_cases h2 : l.length = p.n
  case neg =>
    have h2' : ¬ (l.length : Int) = p.n := by omega
    have e := fitV_len h h2
    simp (maxSteps := 2000000) only [go_sem, reduceIte, Nat.reduceEqDiff, Nat.reduceAdd, Nat.reduceLeDiff, Nat.reduceBEq, Int.reduceLE, Int.reduceToNat, lk33, lk34, lk35, lk36, lk75, lk76, lk41, h, palC, g0, k0, rowI, en, h2', e, ints, List.map_nil]
  have h2' : (l.length : Int) = p.n := by omega
  have e := fitV_ok h h2
  simp (maxSteps := 2000000) only [go_sem, reduceIte, Nat.reduceEqDiff, Nat.reduceAdd, Nat.reduceLeDiff, Nat.reduceBEq, Int.reduceLE, Int.reduceToNat, lk33, lk34, lk35, lk36, lk75, lk76, lk41, h, palC, g0, k0, rowI, en, h2']
  refine aops_pure' (mixes69 p hp) rfl rfl (by first | exact wk_refls _ | (repeat constructor)) ?_
  simp (maxSteps := 2000000) only [go_sem, reduceIte, Nat.reduceEqDiff, lk33, lk34, lk35, lk36, lk75, lk76, lk41, intss, mixL_len]
  have h12 := hp.k12
  have hpw := pow12 h12
  refine goE_loop (bad := []) (kp := kp35) (fun s : Nat => { slots := [(1, ints l), (2, .c (.ptr 0 0)), (7, .c (.own 1 ((fitN p l s).map iD))), (24, intss (mixL p)), (25, I ((2 ^ p.pig.length : Nat) : Int)), (26, I s)], heap := [.cells (palC p), .grow (fitN p l s).length 1], marks := [] }) (fun s => s ≤ 2 ^ p.pig.length) (fun s => 2 ^ p.pig.length - s) 0 mo (by kernel_rfl) ?_ (Nat.zero_le _) ?_
  · refine Ent.trans (ent_own 7 1 rfl) ?_
    refine ent_weaken [] rfl rfl (Nat.zero_le _) rfl rfl ?_
    simp (maxSteps := 2000000) only [go_sem, reduceIte, Nat.reduceEqDiff, Nat.reduceAdd, Nat.reduceLT, lk33, lk34, lk35, lk36, lk75, lk76, lk41, ints, intss, palC, fitN, List.range_zero, List.filter_nil, List.map_nil]
    all_goals first | exact .refl _ | exact ⟨.refl _, .refl _⟩ | exact ⟨.refl _, .refl _, .refl _⟩ | exact ⟨.refl _, _, rfl⟩ | exact ⟨_, rfl⟩ | exact ⟨.refl _, [], by simp⟩ | exact ⟨[], by simp⟩
  rintro s hs
  simp (maxSteps := 2000000) only [go_sem, reduceIte, Nat.reduceEqDiff, Nat.reduceAdd, lk33, lk34, lk35, lk36, lk75, lk76, lk41, ints, intss, palC, mixL_len]
  by_cases hlt : s < 2 ^ p.pig.length
  · have hlt' : (s : Int) < ((2 ^ p.pig.length : Nat) : Int) := by omega
    have m1 : 2 ^ p.pig.length - (s + 1) < 2 ^ p.pig.length - s := by omega
    have g1 := mixL_get hlt
    have w3 : wr .i64 ((s : Int) + 1) = ((s + 1 : Nat) : Int) := wr_succ hlt (by omega)
    have fl := fitN_len p l s
    have hq := own_ok (m := (fitN p l s).length) (by omega)
    have ea := hp.e0
    have eb := hp.e1
    have hnr := near70 l (sumL p s) p.err (by rw [sumL_len]; omega) (sumL_small hp s) ea (by omega)
    simp (maxSteps := 2000000) only [go_sem, reduceIte, Nat.reduceEqDiff, Nat.reduceAdd, Nat.reduceBEq, lk33, lk34, lk35, lk36, lk75, lk76, lk41, hlt', g1, rowI, nn, mixL_len]
    refine aops_pure' (hnr) rfl rfl (by first | exact wk_refls _ | (repeat constructor)) ?_
    have ef : nearB l (sumL p s) p.err = fitP p l s := rfl
    rw [ef]
    cases hf' : fitP p l s with
    | true =>
      simp (maxSteps := 2000000) only [go_sem, reduceIte, Nat.reduceEqDiff, Nat.reduceAdd, Nat.reduceLT, Nat.reduceLeDiff, Nat.reduceBEq, Nat.reduceMul, lk33, lk34, lk35, lk36, lk75, lk76, lk41, w3, List.length_map]
      refine ⟨?_, s + 1, hlt, m1, ?_⟩
      · simpa [iD] using hq
      refine ent_weaken [] (by simp [fitN_t hf', palC]) rfl (Nat.zero_le _) rfl rfl ?_
      simp (maxSteps := 2000000) only [go_sem, reduceIte, Nat.reduceEqDiff, Nat.reduceAdd, Nat.reduceLT, lk33, lk34, lk35, lk36, lk75, lk76, lk41, ints, intss, palC, fitN_t hf', List.map_append, List.map_cons, List.map_nil, iD]
      all_goals first | exact .refl _ | exact ⟨.refl _, .refl _⟩ | exact ⟨.refl _, .refl _, .refl _⟩ | exact ⟨.refl _, _, rfl⟩ | exact ⟨_, rfl⟩ | exact ⟨.refl _, [], by simp⟩ | exact ⟨[], by simp⟩
    | false =>
      simp (maxSteps := 2000000) only [go_sem, reduceIte, Nat.reduceEqDiff, Nat.reduceAdd, lk33, lk34, lk35, lk36, lk75, lk76, lk41, w3]
      refine ⟨s + 1, hlt, m1, ?_⟩
      refine ent_weaken [] (by simp [fitN_f hf', palC]) rfl (Nat.zero_le _) rfl rfl ?_
      simp (maxSteps := 2000000) only [go_sem, reduceIte, Nat.reduceEqDiff, Nat.reduceAdd, Nat.reduceLT, lk33, lk34, lk35, lk36, lk75, lk76, lk41, ints, intss, palC, fitN_f hf']
      all_goals first | exact .refl _ | exact ⟨.refl _, .refl _⟩ | exact ⟨.refl _, .refl _, .refl _⟩ | exact ⟨.refl _, _, rfl⟩ | exact ⟨_, rfl⟩ | exact ⟨.refl _, [], by simp⟩ | exact ⟨[], by simp⟩
  · have hlt' : ¬ (s : Int) < ((2 ^ p.pig.length : Nat) : Int) := by omega
    have es : s = 2 ^ p.pig.length := by omega
    subst es
    simp (maxSteps := 2000000) only [go_sem, reduceIte, Nat.reduceEqDiff, Nat.reduceAdd, lk33, lk34, lk35, lk36, lk75, lk76, lk41, hlt', e, ints]
    all_goals first | exact .refl _ | exact ⟨.refl _, .refl _⟩ | exact ⟨.refl _, .refl _, .refl _⟩ | exact ⟨.refl _, _, rfl⟩ | exact ⟨_, rfl⟩ | exact ⟨.refl _, [], by simp⟩ | exact ⟨[], by simp⟩

set_option maxHeartbeats 4000000 in
theorem fit36 (p : Pal) (l : List Int) : Pure Try.prog 36 [palV p, ints l] (fitV' p l) := by
  refine pure_wkE (bad := []) (kp := kp36) (X := tx) (nt := 41) (rs := [.tmp 4, .tmp 5]) Try.func36 rfl rfl rfl rfl mo (by kernel_rfl) rfl rfl (fun hf => ?_)
  simp (maxSteps := 2000000) only [go_sem, reduceIte, Nat.reduceEqDiff, Nat.reduceAdd, lk33, lk34, lk35, lk36, lk75, lk76, lk41, palV, palC, ints]
  refine aops_pure' (checkPal38 p) rfl rfl (by first | exact wk_refls _ | (repeat constructor)) ?_
  by_cases h : okPal p = 0
  case neg =>
    have e := fitV_bad (l := l) h
    simp (maxSteps := 2000000) only [go_sem, reduceIte, Nat.reduceEqDiff, Nat.reduceAdd, lk33, lk34, lk35, lk36, lk75, lk76, lk41, h, palC]
    refine aops_pure' (checkPal38 p) rfl rfl (by first | exact wk_refls _ | (repeat constructor)) ?_
    simp (maxSteps := 2000000) only [go_sem, reduceIte, Nat.reduceEqDiff, lk33, lk34, lk35, lk36, lk75, lk76, lk41, e, ints, List.map_nil]
  have hp := (okPal_iff p).1 h
  have g0 := (hp.at' hp.k1).1
  have hk1 := hp.k1
  have k0 : (0 : Int) < p.pig.length := by omega
  have en : (p.row 0).length = p.n := rfl
  by_cases h2 : l.length = p.n
  case neg =>
    have h2' : ¬ (l.length : Int) = p.n := by omega
    have e := fitV_len h h2
    simp (maxSteps := 2000000) only [go_sem, reduceIte, Nat.reduceEqDiff, Nat.reduceAdd, Nat.reduceLeDiff, Nat.reduceBEq, Int.reduceLE, Int.reduceToNat, lk33, lk34, lk35, lk36, lk75, lk76, lk41, h, palC, g0, k0, rowI, en, h2', e, ints, List.map_nil]
  have h2' : (l.length : Int) = p.n := by omega
  have e := fitV_ok h h2
  have h12 := hp.k12
  have hpw := pow12 h12
  simp (maxSteps := 2000000) only [go_sem, reduceIte, Nat.reduceEqDiff, Nat.reduceAdd, Nat.reduceLeDiff, Nat.reduceBEq, Int.reduceLE, Int.reduceToNat, lk33, lk34, lk35, lk36, lk75, lk76, lk41, h, palC, g0, k0, rowI, en, h2']
  refine goE_loop (bad := []) (kp := kp36) (fun s : Nat => { slots := [(1, ints l), (2, .c (.ptr 0 0)), (6, .c (.own 1 ((fitN p l s).map iD))), (7, I s)], heap := [.cells (palC p), .grow (fitN p l s).length 1], marks := [] }) (fun s => s ≤ 2 ^ p.pig.length) (fun s => 2 ^ p.pig.length - s) 0 mo (by kernel_rfl) ?_ (Nat.zero_le _) ?_
  · refine Ent.trans (ent_own 6 1 rfl) ?_
    refine ent_weaken [] rfl rfl (Nat.zero_le _) rfl rfl ?_
    simp (maxSteps := 2000000) only [go_sem, reduceIte, Nat.reduceEqDiff, Nat.reduceAdd, Nat.reduceLT, lk33, lk34, lk35, lk36, lk75, lk76, lk41, ints, palC, fitN, List.range_zero, List.filter_nil, List.map_nil]
    all_goals first | exact .refl _ | exact ⟨.refl _, .refl _⟩ | exact ⟨.refl _, .refl _, .refl _⟩ | exact ⟨.refl _, _, rfl⟩ | exact ⟨_, rfl⟩ | exact ⟨.refl _, [], by simp⟩ | exact ⟨[], by simp⟩
  rintro s hs
  simp (maxSteps := 2000000) only [go_sem, reduceIte, Nat.reduceEqDiff, Nat.reduceAdd, Nat.reduceLeDiff, Nat.reduceBEq, lk33, lk34, lk35, lk36, lk75, lk76, lk41, ints, palC, shl12 h12, z2]
  by_cases hlt : s < 2 ^ p.pig.length
  · have hlt' : (s : Int) < ((2 ^ p.pig.length : Nat) : Int) := by omega
    have m1 : 2 ^ p.pig.length - (s + 1) < 2 ^ p.pig.length - s := by omega
    have w3 : wr .i64 ((s : Int) + 1) = ((s + 1 : Nat) : Int) := wr_succ hlt (by omega)
    have fl := fitN_len p l s
    have hq := own_ok (m := (fitN p l s).length) (by omega)
    have ea := hp.e0
    have eb := hp.e1
    have hnr := near48 l (sumL p s) p.err (by rw [sumL_len]; omega) (sumL_small hp s) ea (by omega)
    simp (maxSteps := 2000000) only [go_sem, reduceIte, Nat.reduceEqDiff, Nat.reduceAdd, lk33, lk34, lk35, lk36, lk75, lk76, lk41, hlt', palC]
    refine dops_pure' (sum46 p s hp hlt) rfl rfl (by first | exact wk_refls _ | (repeat constructor)) (by kernel_rfl) ?_
    simp (maxSteps := 2000000) only [go_sem, reduceIte, Nat.reduceEqDiff, Nat.reduceAdd, Nat.reduceBEq, lk33, lk34, lk35, lk36, lk75, lk76, lk41, palC]
    refine dops_pure' (hnr) rfl rfl (by first | exact wk_refls _ | (repeat constructor)) (by kernel_rfl) ?_
    have ef : nearB l (sumL p s) p.err = fitP p l s := rfl
    rw [ef]
    simp (maxSteps := 2000000) only [go_sem, reduceIte, Nat.reduceEqDiff, Nat.reduceAdd, lk33, lk34, lk35, lk36, lk75, lk76, lk41]
    cases hf' : fitP p l s with
    | true =>
      simp (maxSteps := 2000000) only [go_sem, reduceIte, Nat.reduceEqDiff, Nat.reduceAdd, Nat.reduceLT, Nat.reduceLeDiff, Nat.reduceBEq, Nat.reduceMul, lk33, lk34, lk35, lk36, lk75, lk76, lk41, w3, List.length_map]
      refine ⟨?_, s + 1, hlt, m1, ?_⟩
      · simpa [iD] using hq
      refine ent_weaken [] (by simp [fitN_t hf', palC]) rfl (Nat.zero_le _) rfl rfl ?_
      simp (maxSteps := 2000000) only [go_sem, reduceIte, Nat.reduceEqDiff, Nat.reduceAdd, Nat.reduceLT, lk33, lk34, lk35, lk36, lk75, lk76, lk41, ints, palC, fitN_t hf', List.map_append, List.map_cons, List.map_nil, iD]
      all_goals first | exact .refl _ | exact ⟨.refl _, .refl _⟩ | exact ⟨.refl _, .refl _, .refl _⟩ | exact ⟨.refl _, _, rfl⟩ | exact ⟨_, rfl⟩ | exact ⟨.refl _, [], by simp⟩ | exact ⟨[], by simp⟩
    | false =>
      simp (maxSteps := 2000000) only [go_sem, reduceIte, Nat.reduceEqDiff, Nat.reduceAdd, lk33, lk34, lk35, lk36, lk75, lk76, lk41, w3]
      refine ⟨s + 1, hlt, m1, ?_⟩
      refine ent_weaken [] (by simp [fitN_f hf', palC]) rfl (Nat.zero_le _) rfl rfl ?_
      simp (maxSteps := 2000000) only [go_sem, reduceIte, Nat.reduceEqDiff, Nat.reduceAdd, Nat.reduceLT, lk33, lk34, lk35, lk36, lk75, lk76, lk41, ints, palC, fitN_f hf']
      all_goals first | exact .refl _ | exact ⟨.refl _, .refl _⟩ | exact ⟨.refl _, .refl _, .refl _⟩ | exact ⟨.refl _, _, rfl⟩ | exact ⟨_, rfl⟩ | exact ⟨.refl _, [], by simp⟩ | exact ⟨[], by simp⟩
  · have hlt' : ¬ (s : Int) < ((2 ^ p.pig.length : Nat) : Int) := by omega
    have es : s = 2 ^ p.pig.length := by omega
    subst es
    simp (maxSteps := 2000000) only [go_sem, reduceIte, Nat.reduceEqDiff, Nat.reduceAdd, lk33, lk34, lk35, lk36, lk75, lk76, lk41, hlt', e, ints]
    all_goals first | exact .refl _ | exact ⟨.refl _, .refl _⟩ | exact ⟨.refl _, .refl _, .refl _⟩ | exact ⟨.refl _, _, rfl⟩ | exact ⟨_, rfl⟩ | exact ⟨.refl _, [], by simp⟩ | exact ⟨[], by simp⟩

/-- The cell of a spectrum, and the lesser number. -/
def celC (l : List Int) (step : Int) : List C := [.d (.int .i64 ((gI l 0).tdiv step)), .d (.int .i64 ((gI l (l.length - 1)).tdiv step))]
set_option maxHeartbeats 1000000 in
theorem least76 (a b : Int) (ok : Bool) : Pure Try.prog 76 [I a, B ok, I b] (I (if ok then min a b else b)) := by
  refine pure_wkE (bad := []) (kp := kp76) (X := tx) (nt := 13) (rs := [.tmp 6]) Try.func76 rfl rfl rfl rfl mo (by kernel_rfl) rfl rfl (fun hf => ?_)
  cases ok with
  | true => simp (maxSteps := 2000000) only [go_sem, reduceIte, Nat.reduceEqDiff, Nat.reduceAdd, lk33, lk34, lk35, lk36, lk75, lk76, lk41, minL2, if_true]
  | false => simp (maxSteps := 2000000) only [go_sem, reduceIte, Nat.reduceEqDiff, Nat.reduceAdd, lk33, lk34, lk35, lk36, lk75, lk76, lk41, Bool.false_eq_true, if_false]
theorem tdiv_in {x s : Int} (h : 0 ≤ x ∧ x ≤ 1000000) (hs : 1 ≤ s) : wr .i64 (x.tdiv s) = x.tdiv s := by
  rw [Int.tdiv_eq_ediv_of_nonneg h.1]
  have h1 := Int.ediv_nonneg h.1 (show 0 ≤ s by omega)
  have h2 := Int.ediv_le_self s h.1
  exact wr_in (by omega)
set_option maxHeartbeats 1000000 in
theorem newCell75 (l : List Int) (step : Int) (hl : 0 < l.length) (h8 : l.length ≤ 8) (hb : ∀ x ∈ l, 0 ≤ x ∧ x ≤ 1000000) (hs : 1 ≤ step) : Pure Try.prog 75 [ints l, I step] (.agg (celC l step)) := by
  refine pure_wkE (bad := []) (kp := kp75) (X := tx) (nt := 19) (rs := [.cell 4 110]) Try.func75 rfl rfl rfl rfl mo (by kernel_rfl) rfl rfl (fun hf => ?_)
  have g0 := gI_lt hl
  have g1 := gI_lt (l := l) (b := l.length - 1) (by omega)
  have w : wr .i64 ((l.length : Int) - 1) = ((l.length - 1 : Nat) : Int) := by rw [wr_i64] <;> omega
  have k0 : (0 : Int) < l.length := by omega
  have k1 : ((l.length - 1 : Nat) : Int) < l.length := by omega
  have k2 : ¬ step = 0 := by omega
  have q0 := hb _ (List.mem_of_getElem? g0)
  have q1 := hb _ (List.mem_of_getElem? g1)
  have t0 := tdiv_in q0 hs
  have t1 := tdiv_in q1 hs
  simp (maxSteps := 2000000) only [go_sem, reduceIte, Nat.reduceEqDiff, Nat.reduceAdd, Nat.reduceLeDiff, Nat.reduceBEq, Int.reduceLE, Int.reduceToNat, lk33, lk34, lk35, lk36, lk75, lk76, lk41, ints, iD, g0, g1, w, k0, k1, k2, nn, t0, t1, celC]

/-- Two sets that clash. -/
def nearP (p : Pal) (s t : Nat) : Bool := nearB (sumL p s) (sumL p t) (2 * p.err)
def cT (p : Pal) (s : Nat) : Option Nat := firstB (fun t => decide (s < t) && nearP p s t) (2 ^ p.pig.length)
def cS (p : Pal) : Option Nat := firstB (fun s => (cT p s).isSome) (2 ^ p.pig.length)
def clR (p : Pal) : Int × Int × Int := if okPal p = 0 then (match cS p with | none => (0, 0, 5) | some s => ((s : Int), (((cT p s).getD 0 : Nat) : Int), 0)) else (0, 0, okPal p)
def clV (p : Pal) : V := .tup [I (clR p).1, I (clR p).2.1, I (clR p).2.2]
theorem clV_of {p : Pal} {a b e : Int} (h : clR p = (a, b, e)) : clV p = .tup [I a, I b, I e] := by rw [clV, h]
theorem clR_bad {p : Pal} (h : ¬ okPal p = 0) : clR p = (0, 0, okPal p) := by simp only [clR, if_neg h]
theorem clR_none {p : Pal} (h : okPal p = 0) (h2 : cS p = none) : clR p = (0, 0, 5) := by simp only [clR, if_pos h, h2]
theorem clR_some {p : Pal} {s t : Nat} (h : okPal p = 0) (h2 : cS p = some s) (h3 : cT p s = some t) : clR p = ((s : Int), (t : Int), 0) := by simp only [clR, if_pos h, h2, h3, Option.getD_some]
theorem cS_at {p : Pal} {s t : Nat} (hs : s < 2 ^ p.pig.length) (h : ∀ j, j < s → cT p j = none) (ht : t < 2 ^ p.pig.length) (hst : s < t) (hn : nearP p s t = true) (h2 : ∀ j, s < j → j < t → nearP p s j = false) : cS p = some s ∧ cT p s = some t := by
  have e : cT p s = some t := firstB_some (fun j hj => by
    by_cases hsj : s < j
    · rw [h2 j hsj hj]; simp
    · simp [hsj]) (by simp [hst, hn]) ht
  exact ⟨firstB_some (fun j hj => by rw [h j hj]; rfl) (by rw [e]; rfl) hs, e⟩
theorem cT_none {p : Pal} {s : Nat} (h2 : ∀ j, s < j → j < 2 ^ p.pig.length → nearP p s j = false) : cT p s = none := firstB_none fun j hj => by
  by_cases hsj : s < j
  · rw [h2 j hsj hj]; simp
  · simp [hsj]
theorem cS_none {p : Pal} (h : ∀ j, j < 2 ^ p.pig.length → cT p j = none) : cS p = none := firstB_none fun j hj => by rw [h j hj]; rfl
set_option maxHeartbeats 4000000 in
theorem clash41 (p : Pal) : Pure Try.prog 41 [palV p] (clV p) := by
  refine pure_wkE (bad := []) (kp := kp41) (X := tx) (nt := 42) (rs := [.tmp 2, .tmp 3, .tmp 4]) Try.func41 rfl rfl rfl rfl mo (by kernel_rfl) rfl rfl (fun hf => ?_)
  simp (maxSteps := 2000000) only [go_sem, reduceIte, Nat.reduceEqDiff, Nat.reduceAdd, lk33, lk34, lk35, lk36, lk75, lk76, lk41, palV, palC]
  refine aops_pure' (checkPal38 p) rfl rfl (by first | exact wk_refls _ | (repeat constructor)) ?_
  by_cases h : okPal p = 0
  case neg =>
    have e := clV_of (clR_bad h)
    simp (maxSteps := 2000000) only [go_sem, reduceIte, Nat.reduceEqDiff, Nat.reduceAdd, lk33, lk34, lk35, lk36, lk75, lk76, lk41, h, palC]
    refine aops_pure' (checkPal38 p) rfl rfl (by first | exact wk_refls _ | (repeat constructor)) ?_
    simp (maxSteps := 2000000) only [go_sem, reduceIte, Nat.reduceEqDiff, lk33, lk34, lk35, lk36, lk75, lk76, lk41, e]
  have hp := (okPal_iff p).1 h
  have h12 := hp.k12
  have hpw := pow12 h12
  have ea := hp.e0
  have eb := hp.e1
  simp (maxSteps := 2000000) only [go_sem, reduceIte, Nat.reduceEqDiff, Nat.reduceAdd, lk33, lk34, lk35, lk36, lk75, lk76, lk41, h, palC]
  refine goE_loop (bad := []) (kp := kp41) (fun s : Nat => { slots := [(1, .c (.ptr 0 0)), (5, I s)], heap := [.cells (palC p)], marks := [] }) (fun s => s ≤ 2 ^ p.pig.length ∧ ∀ j, j < s → cT p j = none) (fun s => 2 ^ p.pig.length - s) 0 mo (by kernel_rfl) ?_ ⟨Nat.zero_le _, by intro j h; omega⟩ ?_
  · refine ent_weaken [] rfl rfl (Nat.zero_le _) rfl rfl ?_
    simp (maxSteps := 2000000) only [go_sem, reduceIte, Nat.reduceEqDiff, Nat.reduceLT, lk33, lk34, lk35, lk36, lk75, lk76, lk41, palC]
    all_goals first | exact .refl _ | exact ⟨.refl _, .refl _⟩ | exact ⟨.refl _, .refl _, .refl _⟩ | exact ⟨.refl _, _, rfl⟩ | exact ⟨_, rfl⟩ | exact ⟨.refl _, [], by simp⟩ | exact ⟨[], by simp⟩
  rintro s ⟨hs, hall⟩
  simp (maxSteps := 2000000) only [go_sem, reduceIte, Nat.reduceEqDiff, Nat.reduceAdd, Nat.reduceLeDiff, Nat.reduceBEq, lk33, lk34, lk35, lk36, lk75, lk76, lk41, palC, shl12 h12, z2]
  by_cases hlt : s < 2 ^ p.pig.length
  case neg =>
    have hlt' : ¬ (s : Int) < ((2 ^ p.pig.length : Nat) : Int) := by omega
    have e := clV_of (clR_none h (cS_none (fun j hj => hall j (by omega))))
    simp (maxSteps := 2000000) only [go_sem, reduceIte, Nat.reduceEqDiff, Nat.reduceAdd, lk33, lk34, lk35, lk36, lk75, lk76, lk41, hlt', e]
  have hlt' : (s : Int) < ((2 ^ p.pig.length : Nat) : Int) := by omega
  have m1 : 2 ^ p.pig.length - (s + 1) < 2 ^ p.pig.length - s := by omega
  have ns : s + 1 ≤ 2 ^ p.pig.length := hlt
  have w3 : wr .i64 ((s : Int) + 1) = ((s + 1 : Nat) : Int) := wr_succ hlt (by omega)
  simp (maxSteps := 2000000) only [go_sem, reduceIte, Nat.reduceEqDiff, Nat.reduceAdd, lk33, lk34, lk35, lk36, lk75, lk76, lk41, hlt', w3]
  refine goE_loop (bad := []) (kp := kp41) (fun t : Nat => { slots := [(1, .c (.ptr 0 0)), (5, I s), (6, I t)], heap := [.cells (palC p)], marks := [] }) (fun t => s + 1 ≤ t ∧ t ≤ 2 ^ p.pig.length ∧ ∀ j, s < j → j < t → nearP p s j = false) (fun t => 2 ^ p.pig.length - t) (s + 1) mo (by kernel_rfl) ?_ ⟨Nat.le_refl _, ns, by intro j h1 h2; omega⟩ ?_
  · refine ent_weaken [] rfl rfl (Nat.zero_le _) rfl rfl ?_
    simp (maxSteps := 2000000) only [go_sem, reduceIte, Nat.reduceEqDiff, Nat.reduceLT, lk33, lk34, lk35, lk36, lk75, lk76, lk41, palC]
    all_goals first | exact .refl _ | exact ⟨.refl _, .refl _⟩ | exact ⟨.refl _, .refl _, .refl _⟩ | exact ⟨.refl _, _, rfl⟩ | exact ⟨_, rfl⟩ | exact ⟨.refl _, [], by simp⟩ | exact ⟨[], by simp⟩
  rintro t ⟨ht0, ht, hall2⟩
  simp (maxSteps := 2000000) only [go_sem, reduceIte, Nat.reduceEqDiff, Nat.reduceAdd, Nat.reduceLeDiff, Nat.reduceBEq, lk33, lk34, lk35, lk36, lk75, lk76, lk41, palC, shl12 h12, z2]
  by_cases hlt2 : t < 2 ^ p.pig.length
  case neg =>
    have hlt2' : ¬ (t : Int) < ((2 ^ p.pig.length : Nat) : Int) := by omega
    have hn := cT_none (p := p) (s := s) (fun j h1 h2 => hall2 j h1 (by omega))
    simp (maxSteps := 2000000) only [go_sem, reduceIte, Nat.reduceEqDiff, Nat.reduceAdd, lk33, lk34, lk35, lk36, lk75, lk76, lk41, hlt2', w3]
    refine ⟨s + 1, ⟨hlt, fun j hj => ?_⟩, m1, ?_⟩
    · rcases Nat.lt_succ_iff_lt_or_eq.1 hj with h1 | h1
      · exact hall j h1
      · rw [h1]; exact hn
    refine ent_weaken [] rfl rfl (Nat.zero_le _) rfl rfl ?_
    simp (maxSteps := 2000000) only [go_sem, reduceIte, Nat.reduceEqDiff, Nat.reduceLT, lk33, lk34, lk35, lk36, lk75, lk76, lk41, palC]
    all_goals first | exact .refl _ | exact ⟨.refl _, .refl _⟩ | exact ⟨.refl _, .refl _, .refl _⟩ | exact ⟨.refl _, _, rfl⟩ | exact ⟨_, rfl⟩ | exact ⟨.refl _, [], by simp⟩ | exact ⟨[], by simp⟩
  have hlt2' : (t : Int) < ((2 ^ p.pig.length : Nat) : Int) := by omega
  have m2 : 2 ^ p.pig.length - (t + 1) < 2 ^ p.pig.length - t := by omega
  have hst : s < t := ht0
  have e5 : -200000000 ≤ 2 * p.err ∧ 2 * p.err ≤ 200000000 := by omega
  have e6 : 0 ≤ 2 * p.err ∧ 2 * p.err ≤ 1000000 := by omega
  have e7 : (sumL p s).length ≤ (sumL p t).length := by rw [sumL_len, sumL_len]; exact Nat.le_refl _
  have w4 : wr .i64 ((t : Int) + 1) = ((t + 1 : Nat) : Int) := wr_succ hlt2 (by omega)
  have w5 : wr .i64 (2 * p.err) = 2 * p.err := wr_in e5
  have hnr := near48 (sumL p s) (sumL p t) (2 * p.err) e7 (sumL_small hp t) e6.1 e6.2
  have ef : nearB (sumL p s) (sumL p t) (2 * p.err) = nearP p s t := rfl
  simp (maxSteps := 2000000) only [go_sem, reduceIte, Nat.reduceEqDiff, Nat.reduceAdd, lk33, lk34, lk35, lk36, lk75, lk76, lk41, hlt2', palC]
  refine dops_pure' (sum46 p s hp hlt) rfl rfl (by first | exact wk_refls _ | (repeat constructor)) (by kernel_rfl) ?_
  simp (maxSteps := 2000000) only [go_sem, reduceIte, Nat.reduceEqDiff, Nat.reduceAdd, lk33, lk34, lk35, lk36, lk75, lk76, lk41, palC]
  refine dops_pure' (sum46 p t hp hlt2) rfl rfl (by first | exact wk_refls _ | (repeat constructor)) (by kernel_rfl) ?_
  simp (maxSteps := 2000000) only [go_sem, reduceIte, Nat.reduceEqDiff, Nat.reduceAdd, Nat.reduceBEq, lk33, lk34, lk35, lk36, lk75, lk76, lk41, palC, w5]
  refine dops_pure' (hnr) rfl rfl (by first | exact wk_refls _ | (repeat constructor)) (by kernel_rfl) ?_
  rw [ef]
  simp (maxSteps := 2000000) only [go_sem, reduceIte, Nat.reduceEqDiff, Nat.reduceAdd, lk33, lk34, lk35, lk36, lk75, lk76, lk41]
  cases hq : nearP p s t with
  | true =>
    obtain ⟨c1, c2⟩ := cS_at hlt hall hlt2 hst hq hall2
    have e := clV_of (clR_some h c1 c2)
    simp (maxSteps := 2000000) only [go_sem, reduceIte, Nat.reduceEqDiff, Nat.reduceAdd, lk33, lk34, lk35, lk36, lk75, lk76, lk41, e]
  | false =>
    simp (maxSteps := 2000000) only [go_sem, reduceIte, Nat.reduceEqDiff, Nat.reduceAdd, lk33, lk34, lk35, lk36, lk75, lk76, lk41, w4]
    refine ⟨t + 1, ⟨Nat.le_succ_of_le ht0, hlt2, fun j h1 h2 => ?_⟩, m2, ?_⟩
    · rcases Nat.lt_succ_iff_lt_or_eq.1 h2 with h3 | h3
      · exact hall2 j h1 h3
      · rw [h3]; exact hq
    refine ent_weaken [] rfl rfl (Nat.zero_le _) rfl rfl ?_
    simp (maxSteps := 2000000) only [go_sem, reduceIte, Nat.reduceEqDiff, Nat.reduceLT, lk33, lk34, lk35, lk36, lk75, lk76, lk41, palC]
    all_goals first | exact .refl _ | exact ⟨.refl _, .refl _⟩ | exact ⟨.refl _, .refl _, .refl _⟩ | exact ⟨.refl _, _, rfl⟩ | exact ⟨_, rfl⟩ | exact ⟨.refl _, [], by simp⟩ | exact ⟨[], by simp⟩
end Go.Proofs.Ytjkpfojkkfopmaa
