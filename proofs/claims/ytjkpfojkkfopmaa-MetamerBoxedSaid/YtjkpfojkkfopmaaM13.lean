/- Metamers: slices that are made by append and written later. -/
import Derived.Test.YtjkpfojkkfopmaaM12
set_option linter.unusedSimpArgs false
set_option linter.unusedVariables false
set_option maxRecDepth 100000
namespace Go.Proofs.Ytjkpfojkkfopmaa
open Go Go.Abs Go.Proofs
def kp67 : List (Nat × List Nat) := [(0, [0]), (1, [0, 3]), (2, [3, 6, 7, 8]), (3, [3, 6, 7, 8, 9]), (4, [3, 5, 6, 7, 8]), (5, [3, 6, 7, 8]), (6, [3, 6, 7, 8]), (7, [2])]
theorem lk67 : lookK kp67 0 = some [0] ∧ lookK kp67 1 = some [0, 3] ∧ lookK kp67 2 = some [3, 6, 7, 8] ∧ lookK kp67 3 = some [3, 6, 7, 8, 9] ∧ lookK kp67 4 = some [3, 5, 6, 7, 8] ∧ lookK kp67 5 = some [3, 6, 7, 8] ∧ lookK kp67 6 = some [3, 6, 7, 8] ∧ lookK kp67 7 = some [2] := ⟨rfl, rfl, rfl, rfl, rfl, rfl, rfl, rfl⟩
def kp77 : List (Nat × List Nat) := [(0, [0]), (1, [0, 3]), (2, [0, 3, 4]), (3, [0, 3, 4, 8]), (4, [0, 3, 4]), (5, [0, 3, 4]), (6, [2])]
theorem lk77 : lookK kp77 0 = some [0] ∧ lookK kp77 1 = some [0, 3] ∧ lookK kp77 2 = some [0, 3, 4] ∧ lookK kp77 3 = some [0, 3, 4, 8] ∧ lookK kp77 4 = some [0, 3, 4] ∧ lookK kp77 5 = some [0, 3, 4] ∧ lookK kp77 6 = some [2] := ⟨rfl, rfl, rfl, rfl, rfl, rfl, rfl⟩
def kp49 : List (Nat × List Nat) := [(0, [0]), (1, [0, 1]), (2, [0, 1]), (3, [0])]
theorem lk49 : lookK kp49 0 = some [0] ∧ lookK kp49 1 = some [0, 1] ∧ lookK kp49 2 = some [0, 1] ∧ lookK kp49 3 = some [0] := ⟨rfl, rfl, rfl, rfl⟩
def kp50 : List (Nat × List Nat) := [(0, [0, 2]), (1, [2])]
theorem lk50 : lookK kp50 0 = some [0, 2] ∧ lookK kp50 1 = some [2] := ⟨rfl, rfl⟩

/-- The low ends of ranges. -/
def lowsL (l : List Rg) : List Int := l.map Rg.lo
def iC (n : Int) : C := .d (.int .i64 n)
def intsC (l : List Int) : List C := l.map iC
theorem intsC_low (m : Nat) (l : List Int) : C.lowL m (intsC l) = true := by
  induction l with
  | nil => rfl
  | cons a l ih => simp only [intsC, List.map_cons, C.lowL] at ih ⊢; rw [ih]; rfl
theorem intsC_free (m : Nat) (l : List Int) : C.freeL m (intsC l) = true := by
  induction l with
  | nil => rfl
  | cons a l ih => simp only [intsC, List.map_cons, C.freeL] at ih ⊢; rw [ih]; rfl
theorem intsC_len (l : List Int) : (intsC l).length = l.length := by simp [intsC]
theorem intsC_app (l : List Int) (x : Int) : intsC (l ++ [x]) = intsC l ++ [iC x] := by simp [intsC]
mutual
theorem C.low_le {n m : Nat} (h : n ≤ m) : ∀ {c : C}, c.low n = true → c.low m = true
  | .ptr i _, hc => by simp [C.low] at hc ⊢; omega
  | .own i _, hc => by simp [C.low] at hc ⊢; omega
  | .ms i _ _ _, hc => by simp [C.low] at hc ⊢; omega
  | .mp i, hc => by simp [C.low] at hc ⊢; omega
  | .yd i, hc => by simp [C.low] at hc ⊢; omega
  | .vs i _, hc => by simp [C.low] at hc ⊢; omega
  | .vc i _, hc => by simp [C.low] at hc ⊢; omega
  | .vp i _ _, hc => by simp [C.low] at hc ⊢; omega
  | .fs _ _ cs, hc => by simp only [C.low] at hc ⊢; exact C.lowL_le h hc
  | .fn _ cs, hc => by simp only [C.low] at hc ⊢; exact C.lowL_le h hc
  | .mv _ x, hc => by simp only [C.low] at hc ⊢; exact C.low_le h hc
  | .ma _ cs, hc => by simp only [C.low] at hc ⊢; exact C.lowL_le h hc
  | .any, _ => rfl
  | .d _, _ => rfl
  | .nilp, _ => rfl
  | .dp _, _ => rfl
  | .full _, _ => rfl
  | .gp _, _ => rfl
theorem C.lowL_le {n m : Nat} (h : n ≤ m) : ∀ {cs : List C}, C.lowL n cs = true → C.lowL m cs = true
  | [], _ => rfl
  | c :: cs, hc => by
    simp only [C.lowL, Bool.and_eq_true] at hc ⊢
    exact ⟨C.low_le h hc.1, C.lowL_le h hc.2⟩
end
mutual
theorem V.low_le {n m : Nat} (h : n ≤ m) : ∀ {c : V}, c.low n = true → c.low m = true
  | .c x, hc => C.low_le h hc
  | .agg cs, hc => C.lowL_le h hc
  | .tup vs, hc => V.lowL_le h hc
theorem V.lowL_le {n m : Nat} (h : n ≤ m) : ∀ {cs : List V}, V.lowL n cs = true → V.lowL m cs = true
  | [], _ => rfl
  | c :: cs, hc => by
    simp only [V.lowL, Bool.and_eq_true] at hc ⊢
    exact ⟨V.low_le h hc.1, V.lowL_le h hc.2⟩
end
theorem AB.low_le {n m : Nat} (h : n ≤ m) {b : AB} (hb : b.low n = true) : b.low m = true := by
  cases b with
  | cells cs => exact C.lowL_le h hb
  | vec _ _ cs => exact C.lowL_le h hb
  | mp es =>
    simp only [AB.low, List.all_eq_true, Bool.and_eq_true] at hb ⊢
    exact fun e he => ⟨V.low_le h (hb e he).1, V.low_le h (hb e he).2⟩
  | lp r =>
    simp only [AB.low, List.all_eq_true, Bool.and_eq_true, decide_eq_true_eq] at hb ⊢
    exact ⟨by omega, fun e he => V.low_le h (hb.2 e he)⟩
  | _ => rfl
theorem low_snoc {H : List AB} (hH : H.all (AB.low H.length) = true) {b : AB} (hb : b.low (H.length + 1) = true) : (H ++ [b]).all (AB.low (H ++ [b]).length) = true := by
  rw [List.all_append, List.length_append, Bool.and_eq_true]
  refine ⟨?_, by simpa using hb⟩
  rw [List.all_eq_true] at hH ⊢
  exact fun x hx => AB.low_le (Nat.le_succ _) (hH x hx)
theorem own_ok2 {m : Nat} (h : m ≤ 4096) : (decide ((m + 1 + (m + 1) / 4 + 256) * 16 ≤ 281474976710656) && decide (m ≤ 140737488355327)) = true := by
  simp; omega
theorem getA1 (A : List AB) (x : AB) : (A ++ [x])[A.length]? = some x := by simp
theorem getA2 (A : List AB) (x y : AB) : (A ++ [x] ++ [y])[A.length]? = some x := by rw [List.append_assoc]; simp
theorem setA1 (A : List AB) (x y : AB) : (A ++ [x]).set A.length y = A ++ [y] := by simp
theorem setA2 (A : List AB) (x y z : AB) : (A ++ [x] ++ [y]).set A.length z = A ++ [z] ++ [y] := by simp [List.append_assoc]
set_option maxHeartbeats 4000000 in
theorem lows67 (l : List Rg) (hl : l.length ≤ 4096) (H : List AB) : ACall Try.prog 67 [rgs l] H (one (.c (.vs H.length l.length)) (H ++ [.vec l.length 1 (intsC (lowsL l))])) := by
  refine ACall.low_of Try.func67 rfl rfl (fun hH => ?_)
  have hlow : ∀ (n : Nat) (cs : List Int), (H ++ [AB.vec n 1 (intsC cs)]).all (AB.low (H ++ [AB.vec n 1 (intsC cs)]).length) = true := fun n cs => low_snoc hH (intsC_low _ _)
  refine ACall.drop2 (by simp) (by simp [V.low, C.low]) (hlow _ _) ?_
  refine acall_fitE (bad := []) (kp := kp67) (X := tx) (nt := 24) (rs := [.tmp 2]) Try.func67 rfl rfl rfl rfl mo (by kernel_rfl) (fun hf => ?_)
  simp (maxSteps := 2000000) only [go_sem, reduceIte, Nat.reduceEqDiff, Nat.reduceAdd, lk67, lk77, lk49, lk50, rgs]
  refine goE_loop (bad := []) (kp := kp67) (fun i : Nat => { slots := [(3, .c (.vs H.length i)), (6, rgs l), (7, I l.length), (8, I i)], heap := H ++ [.vec i 1 (intsC ((lowsL l).take i))], marks := [] }) (fun i => i ≤ l.length) (fun i => l.length - i) 0 mo (by kernel_rfl) ?_ (Nat.zero_le _) ?_
  · refine Ent.trans (ent_vec 3 1 rfl) ?_
    refine ent_weaken [] (by simp [intsC]) rfl (by simp; exact Nat.le_succ _) (hlow _ _) rfl ?_
    simp (maxSteps := 2000000) only [go_sem, reduceIte, Nat.reduceEqDiff, lk67, lk77, lk49, lk50, rgs, List.length_append, List.length_singleton]
    refine ⟨by simp, .refl _⟩
  rintro i hi
  simp (maxSteps := 2000000) only [go_sem, reduceIte, Nat.reduceEqDiff, Nat.reduceAdd, lk67, lk77, lk49, lk50, rgs]
  by_cases hlt : i < l.length
  · have hlt' : (i : Int) < l.length := by omega
    have m1 : l.length - (i + 1) < l.length - i := by omega
    have w3 : wr .i64 ((i : Int) + 1) = ((i + 1 : Nat) : Int) := wr_succ hlt (by omega)
    obtain ⟨x, hx⟩ := get_of_lt hlt
    have hx2 : (lowsL l)[i]? = some x.lo := by rw [lowsL, List.getElem?_map, hx]; rfl
    have e1 := take_succ_eq hx2
    simp (maxSteps := 2000000) only [go_sem, reduceIte, Nat.reduceEqDiff, Nat.reduceAdd, Nat.reduceLT, Nat.reduceLeDiff, Nat.reduceBEq, Nat.reduceMul, lk67, lk77, lk49, lk50, hlt', hx, rgD, nn, getA1, getA2, setA1, setA2, w3]
    refine ⟨own_ok (by omega), i + 1, hlt, m1, ?_⟩
    refine ent_weaken [.cells (rgC x)] (by rw [e1, intsC_app]; rfl) rfl (by simp; exact Nat.le_succ _) (hlow _ _) rfl ?_
    simp (maxSteps := 2000000) only [go_sem, reduceIte, Nat.reduceEqDiff, lk67, lk77, lk49, lk50, rgs, List.length_append, List.length_singleton]
    first | done | simp
  · have hlt' : ¬ (i : Int) < l.length := by omega
    have e : i = l.length := by omega
    subst e
    have e2 : List.take l.length (lowsL l) = lowsL l := List.take_of_length_le (by simp [lowsL])
    simp (maxSteps := 2000000) only [go_sem, reduceIte, Nat.reduceEqDiff, Nat.reduceAdd, lk67, lk77, lk49, lk50, hlt', e2]
    exact ⟨[], by simp⟩

/-- Known ranges. -/
def exactL (l : List Int) : List Rg := l.map fun n => ⟨n, n⟩
def rgsC (l : List Rg) : List C := l.flatMap rgC
theorem rgsC_low (m : Nat) (l : List Rg) : C.lowL m (rgsC l) = true := by
  induction l with
  | nil => rfl
  | cons a l ih => simp only [rgsC, List.flatMap_cons, rgC, List.cons_append, List.nil_append, C.lowL] at ih ⊢; rw [ih]; rfl
theorem rgsC_app (l : List Rg) (x : Rg) : rgsC (l ++ [x]) = rgsC l ++ rgC x := by simp [rgsC]
theorem rgsC_ds (l : List Rg) : toDs (rgsC l) = some (l.flatMap rgD) := by
  induction l with
  | nil => rfl
  | cons a l ih =>
    simp only [rgsC, List.flatMap_cons] at ih ⊢
    simp only [rgC, List.cons_append, List.nil_append, toDs, toD, ih]
    rfl
theorem rgs_chunk (l : List Rg) : chunk 2 l.length (l.flatMap rgD) = l.map rgD := by
  induction l with
  | nil => rfl
  | cons a l ih =>
    simp only [List.length_cons, List.flatMap_cons, chunk, List.map_cons]
    rw [List.take_left' (by rfl), List.drop_left' (by rfl), ih]
set_option maxHeartbeats 4000000 in
theorem exact77 (l : List Int) (hl : l.length ≤ 4096) (H : List AB) : ACall Try.prog 77 [ints l] H (one (.c (.vs H.length l.length)) (H ++ [.vec l.length 2 (rgsC (exactL l))])) := by
  refine ACall.low_of Try.func77 rfl rfl (fun hH => ?_)
  have hlow : ∀ (n : Nat) (cs : List Rg), (H ++ [AB.vec n 2 (rgsC cs)]).all (AB.low (H ++ [AB.vec n 2 (rgsC cs)]).length) = true := fun n cs => low_snoc hH (rgsC_low _ _)
  refine ACall.drop2 (by simp) (by simp [V.low, C.low]) (hlow _ _) ?_
  refine acall_fitE (bad := []) (kp := kp77) (X := tx) (nt := 24) (rs := [.tmp 2]) Try.func77 rfl rfl rfl rfl mo (by kernel_rfl) (fun hf => ?_)
  simp (maxSteps := 2000000) only [go_sem, reduceIte, Nat.reduceEqDiff, Nat.reduceAdd, lk67, lk77, lk49, lk50, ints]
  refine goE_loop (bad := []) (kp := kp77) (fun i : Nat => { slots := [(0, ints l), (3, .c (.vs H.length i)), (4, I i)], heap := H ++ [.vec i 2 (rgsC ((exactL l).take i))], marks := [] }) (fun i => i ≤ l.length) (fun i => l.length - i) 0 mo (by kernel_rfl) ?_ (Nat.zero_le _) ?_
  · refine Ent.trans (ent_vec 3 2 rfl) ?_
    refine ent_weaken [] (by simp [rgsC]) rfl (by simp; exact Nat.le_succ _) (hlow _ _) rfl ?_
    simp (maxSteps := 2000000) only [go_sem, reduceIte, Nat.reduceEqDiff, lk67, lk77, lk49, lk50, ints, List.length_append, List.length_singleton]
    refine ⟨by simp, .refl _⟩
  rintro i hi
  simp (maxSteps := 2000000) only [go_sem, reduceIte, Nat.reduceEqDiff, Nat.reduceAdd, lk67, lk77, lk49, lk50, ints]
  by_cases hlt : i < l.length
  · have hlt' : (i : Int) < l.length := by omega
    have m1 : l.length - (i + 1) < l.length - i := by omega
    have w3 : wr .i64 ((i : Int) + 1) = ((i + 1 : Nat) : Int) := wr_succ hlt (by omega)
    obtain ⟨x, hx⟩ := get_of_lt hlt
    have hx2 : (exactL l)[i]? = some ⟨x, x⟩ := by rw [exactL, List.getElem?_map, hx]; rfl
    have e1 := take_succ_eq hx2
    simp (maxSteps := 2000000) only [go_sem, reduceIte, Nat.reduceEqDiff, Nat.reduceAdd, Nat.reduceLT, Nat.reduceLeDiff, Nat.reduceBEq, Nat.reduceMul, lk67, lk77, lk49, lk50, hlt', hx, iD, nn, getA1, getA2, setA1, setA2, w3]
    refine ⟨own_ok2 (by omega), i + 1, hlt, m1, ?_⟩
    refine ent_weaken [] (by rw [e1, rgsC_app, List.append_nil]; rfl) rfl (by simp; exact Nat.le_succ _) (hlow _ _) rfl ?_
    simp (maxSteps := 2000000) only [go_sem, reduceIte, Nat.reduceEqDiff, lk67, lk77, lk49, lk50, ints, List.length_append, List.length_singleton]
    first | done | simp
  · have hlt' : ¬ (i : Int) < l.length := by omega
    have e : i = l.length := by omega
    subst e
    have e2 : List.take l.length (exactL l) = exactL l := List.take_of_length_le (by simp [exactL])
    simp (maxSteps := 2000000) only [go_sem, reduceIte, Nat.reduceEqDiff, Nat.reduceAdd, lk67, lk77, lk49, lk50, hlt', e2]
    exact ⟨[], by simp⟩

theorem exact77d (l : List Int) (hl : l.length ≤ 4096) : Pure Try.prog 77 [ints l] (rgs (exactL l)) := by
  have hlen : (exactL l).length = l.length := by simp [exactL]
  refine ⟨ACall.ent (X := tx) (exact77 l hl []) (fun x H' hp => ?_), rfl, rfl⟩
  obtain ⟨rfl, rfl⟩ := hp
  refine ⟨rgs (exactL l), [.gone], ?_, rfl⟩
  have e : D.sl (chunk 2 l.length ((exactL l).flatMap rgD)) = .sl ((exactL l).map rgD) := by rw [← hlen, rgs_chunk]
  refine ent_fzvec 0 (n := l.length) (sz := 2) (cs := rgsC (exactL l)) (ds := (exactL l).flatMap rgD) rfl (rgsC_ds _) (by decide) (by unfold lim; omega) rfl rfl (fun i => ?_)
  cases i with
  | zero => left; simp [St.get, getS, fzNV, fzN, e, rgs]
  | succ i => right; rfl

/-- The case of the chapter's examples. -/
def caseC : Cs := ⟨[exactL [1, 2, 0, 0], exactL [0, 1, 1, 0], exactL [0, 0, 2, 1]], [⟨1, 2⟩, ⟨1, 1⟩, ⟨1, 1⟩, ⟨1, 1⟩]⟩
set_option maxHeartbeats 2000000 in
theorem case49 : Pure Try.prog 49 [] (csV caseC) := by
  refine pure_wkE (bad := [10003]) (kp := kp49) (X := tx) (nt := 16) (rs := [.cell 0 25]) Try.func49 rfl rfl rfl rfl mo (by kernel_rfl) rfl rfl (fun hf => ?_)
  simp (maxSteps := 2000000) only [go_sem, reduceIte, Nat.reduceEqDiff, Nat.reduceAdd, Nat.reduceLeDiff, Nat.reduceBEq, Nat.reduceMul, Int.reduceLE, Int.reduceToNat, lk67, lk77, lk49, lk50]
  have h1 := exact77 [1, 1, 1, 1] (by decide) [.cells [.full [], .full []]]
  have e1 : rgsC (exactL [1, 1, 1, 1]) = [.d (.int .i64 1), .d (.int .i64 1), .d (.int .i64 1), .d (.int .i64 1), .d (.int .i64 1), .d (.int .i64 1), .d (.int .i64 1), .d (.int .i64 1)] := rfl
  rw [e1] at h1
  simp (maxSteps := 2000000) only [go_sem, Nat.reduceAdd, lk67, lk77, lk49, lk50, ints, iD, List.length_cons, List.length_nil, List.map_cons, List.map_nil, List.cons_append, List.nil_append] at h1
  refine aops_at (h1) rfl rfl (by first | exact wk_refls _ | (repeat constructor)) ?_
  simp (maxSteps := 2000000) only [go_sem, reduceIte, Nat.reduceEqDiff, Nat.reduceAdd, Nat.reduceLT, Nat.reduceLeDiff, Nat.reduceBEq, Nat.reduceMul, lk67, lk77, lk49, lk50]
  refine ⟨rfl, ?_⟩
  refine aops_pure' (exact77d [1, 2, 0, 0] (by decide)) rfl rfl (by first | exact wk_refls _ | (repeat constructor)) ?_
  simp (maxSteps := 2000000) only [go_sem, reduceIte, Nat.reduceEqDiff, Nat.reduceAdd, Nat.reduceLeDiff, Nat.reduceBEq, Nat.reduceMul, lk67, lk77, lk49, lk50]
  refine aops_pure' (exact77d [0, 1, 1, 0] (by decide)) rfl rfl (by first | exact wk_refls _ | (repeat constructor)) ?_
  simp (maxSteps := 2000000) only [go_sem, reduceIte, Nat.reduceEqDiff, Nat.reduceAdd, Nat.reduceLeDiff, Nat.reduceBEq, Nat.reduceMul, lk67, lk77, lk49, lk50]
  refine aops_pure' (exact77d [0, 0, 2, 1] (by decide)) rfl rfl (by first | exact wk_refls _ | (repeat constructor)) ?_
  simp (maxSteps := 2000000) only [go_sem, reduceIte, Nat.reduceEqDiff, Nat.reduceAdd, Nat.reduceLeDiff, Nat.reduceBEq, Nat.reduceMul, lk67, lk77, lk49, lk50, rgs]
  refine stop_mk { slots := [(0, .c (.ptr 0 0))], heap := [.cells [.full [[.sl ((exactL [1, 2, 0, 0]).map rgD)], [.sl ((exactL [0, 1, 1, 0]).map rgD)], [.sl ((exactL [0, 0, 2, 1]).map rgD)]], .d (.sl (caseC.lamp.map rgD))], .gone], marks := [] } ?_ ?_
  · refine ent_fzvec 1 (n := 4) (sz := 2) (cs := rgsC caseC.lamp) (ds := caseC.lamp.flatMap rgD) rfl (rgsC_ds _) (by decide) (by unfold lim; omega) rfl rfl (fun i => ?_)
    cases i with
    | zero => left; rfl
    | succ i => right; rfl
  simp (maxSteps := 2000000) only [go_sem, reduceIte, Nat.reduceAdd, lk67, lk77, lk49, lk50, csV, csC, caseC, List.map_cons, List.map_nil, rowR]
  all_goals first | exact .refl _ | exact ⟨.refl _, .refl _⟩ | exact ⟨.refl _, .refl _, .refl _⟩ | exact ⟨.refl _, _, rfl⟩ | exact ⟨_, rfl⟩ | exact ⟨.refl _, [], by simp⟩ | exact ⟨[], by simp⟩
def palX (off : Int) : Pal := ⟨[[1], [2], [4]], off⟩
theorem palette50 (off : Int) : Pure Try.prog 50 [I off] (palV (palX off)) := by
  refine pure_wkE (bad := []) (kp := kp50) (X := tx) (nt := 9) (rs := [.cell 2 50]) Try.func50 rfl rfl rfl rfl mo (by kernel_rfl) rfl rfl (fun hf => ?_)
  simp (maxSteps := 2000000) only [go_sem, reduceIte, Nat.reduceEqDiff, Nat.reduceAdd, Nat.reduceLeDiff, Nat.reduceBEq, Nat.reduceMul, lk67, lk77, lk49, lk50, palV, palC, palX, List.map_cons, List.map_nil, rowI, iD]
end Go.Proofs.Ytjkpfojkkfopmaa
