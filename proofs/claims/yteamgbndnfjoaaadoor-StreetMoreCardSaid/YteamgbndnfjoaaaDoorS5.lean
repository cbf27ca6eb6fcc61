/- The steps of a street, one after another. -/
import Derived.Test.YteamgbndnfjoaaaDoorS4
import Derived.Test.YteamgbndnfjoaaaDoorMK
import Derived.Test.YteamgbndnfjoaaaDoorAbsR
set_option linter.unusedSimpArgs false
set_option linter.unusedVariables false
set_option maxRecDepth 100000
namespace Go.Proofs.YteamgbndnfjoaaaDoor
open Go Go.Abs Go.Proofs
def kp69 : List (Nat × List Nat) := [(0, [0, 1, 13, 14]), (1, [0, 1, 13, 14, 15]), (2, [0, 1, 3, 13, 14]), (3, [0, 1, 13, 14, 41]), (4, [0, 1, 13, 14]), (5, [0, 1, 47, 48, 49]), (6, [0, 1, 47, 48, 49, 50]), (7, [0, 1, 4, 5, 47, 48, 49]), (8, [0, 1, 4, 5, 6, 7, 47, 48, 49]), (9, [0, 1, 4, 5, 6, 7, 8, 47, 48, 49]), (10, [0, 1, 4, 5, 6, 7, 8, 47, 48, 49, 72]), (11, [0, 1, 6, 7, 8, 47, 48, 49]), (12, [0, 1, 47, 48, 49, 88]), (13, [0, 1, 47, 48, 49])]
theorem lk69 : lookK kp69 0 = some [0, 1, 13, 14] ∧ lookK kp69 1 = some [0, 1, 13, 14, 15] ∧ lookK kp69 2 = some [0, 1, 3, 13, 14] ∧ lookK kp69 3 = some [0, 1, 13, 14, 41] ∧ lookK kp69 4 = some [0, 1, 13, 14] ∧ lookK kp69 5 = some [0, 1, 47, 48, 49] ∧ lookK kp69 6 = some [0, 1, 47, 48, 49, 50] ∧ lookK kp69 7 = some [0, 1, 4, 5, 47, 48, 49] ∧ lookK kp69 8 = some [0, 1, 4, 5, 6, 7, 47, 48, 49] ∧ lookK kp69 9 = some [0, 1, 4, 5, 6, 7, 8, 47, 48, 49] ∧ lookK kp69 10 = some [0, 1, 4, 5, 6, 7, 8, 47, 48, 49, 72] ∧ lookK kp69 11 = some [0, 1, 6, 7, 8, 47, 48, 49] ∧ lookK kp69 12 = some [0, 1, 47, 48, 49, 88] ∧ lookK kp69 13 = some [0, 1, 47, 48, 49] := ⟨rfl, rfl, rfl, rfl, rfl, rfl, rfl, rfl, rfl, rfl, rfl, rfl, rfl, rfl⟩

structure Stp where
  fr : Int
  to : Int
  co : Int
  po : Int
def sC (s : Stp) : List C := [.d (.int .i64 s.fr), .d (.int .i64 s.to), .d (.int .i64 s.co), .d (.int .i64 s.po)]
def sV (s : Stp) : V := .agg (sC s)
/-- Back over a place, and on again. -/
def backL (bk : Nat → Int) (k : Nat) : List Stp := ⟨(k : Int) + 1, k, 0, -1⟩ :: (if 0 < bk k then [⟨k, (k : Int) + 1, 0, -1⟩] else [])
def postS (r : Rd) (st : Nat → Int) (i : Nat) : Stp := if st i = 1 then ⟨rTo r i, rFrom r i, -(po r i).co, i⟩ else ⟨rFrom r i, rTo r i, (po r i).co, i⟩
def postL (r : Rd) (st : Nat → Int) (i : Nat) : List Stp := if rFrom r i < rTo r i then [postS r st i] else []
def stepsL (r : Rd) (st bk : Nat → Int) : List Stp := (List.range r.pl.toNat).flatMap (backL bk) ++ (List.range r.ps.length).flatMap (postL r st)
theorem flat_split {α : Type} (f : Nat → List α) {k n : Nat} (h : k < n) : ∃ suf, (List.range n).flatMap f = (List.range k).flatMap f ++ (f k ++ suf) := by
  induction n with
  | zero => omega
  | succ n ih =>
    rw [List.range_succ, List.flatMap_append]
    by_cases e : k = n
    · subst e; exact ⟨[], by simp⟩
    · obtain ⟨suf, hs⟩ := ih (by omega)
      exact ⟨suf ++ f n, by rw [hs]; simp⟩
theorem flat_succ {α : Type} (f : Nat → List α) (k : Nat) : (List.range (k + 1)).flatMap f = (List.range k).flatMap f ++ f k := by
  rw [List.range_succ, List.flatMap_append]; simp

/-- What it costs to come to the ends, and by which step. -/
structure FS where
  far : Nat → Int
  by' : List (Int × Stp)
def fnd (k : Int) : List (Int × Stp) → Nat → Option (Nat × Stp)
  | [], _ => none
  | e :: es, i => if k = e.1 then some (i, e.2) else fnd k es (i + 1)
def updB (k : Int) (s : Stp) (es : List (Int × Stp)) : List (Int × Stp) := match fnd k es 0 with
  | some (i, _) => es.set i (k, s)
  | none => es ++ [(k, s)]
def delB (k : Int) (es : List (Int × Stp)) : List (Int × Stp) := match fnd k es 0 with
  | some (i, _) => es.eraseIdx i
  | none => es
def byE (es : List (Int × Stp)) : List (V × V) := es.map fun e => (I e.1, sV e.2)
theorem findE_by (k : Int) : ∀ (es : List (Int × Stp)) (i : Nat), findE (I k) (byE es) i = some ((fnd k es i).map fun p => (p.1, sV p.2))
  | [], i => rfl
  | e :: es, i => by
    have ih := findE_by k es (i + 1)
    simp only [byE, List.map_cons, findE, I, keyEq, if_true] at ih ⊢
    by_cases h : k = e.1
    · simp [h, fnd]
    · simp only [h, decide_false, fnd, if_false]; exact ih
theorem updE_by (k : Int) (s : Stp) (es : List (Int × Stp)) : updE (I k) (sV s) (byE es) ((fnd k es 0).map fun p => (p.1, sV p.2)) = byE (updB k s es) := by
  unfold updB
  cases h : fnd k es 0 with
  | none => simp [updE, byE]
  | some p => simp [updE, byE, List.map_set]
theorem erase_map {α β : Type} (f : α → β) : ∀ (l : List α) (i : Nat), (l.map f).eraseIdx i = (l.eraseIdx i).map f
  | [], _ => rfl
  | _ :: _, 0 => rfl
  | a :: l, i + 1 => by simp [erase_map f l i]
theorem delE_by (k : Int) (es : List (Int × Stp)) : delE (byE es) ((fnd k es 0).map fun p => (p.1, sV p.2)) = byE (delB k es) := by
  unfold delB
  cases h : fnd k es 0 with
  | none => simp [delE, byE]
  | some p => simp only [Option.map_some, delE, byE]; exact erase_map _ _ _
def never : Int := 1125899906842624
def relax (q : FS) (s : Stp) : FS :=
  if q.far s.fr.toNat = never then q else
  ⟨upd q.far s.to.toNat (min (q.far s.to.toNat) (wr .i64 (q.far s.fr.toNat + s.co))),
   if min (q.far s.to.toNat) (wr .i64 (q.far s.fr.toNat + s.co)) < q.far s.to.toNat then updB s.to s q.by' else q.by'⟩
def roundF (l : List Stp) (q : FS) : FS := l.foldl relax q
theorem roundF_app (a b : List Stp) (q : FS) : roundF (a ++ b) q = roundF b (roundF a q) := List.foldl_append ..

def noneD : List D := [.int .i64 0, .int .i64 0, .int .i64 0, .int .i64 (-2)]
def slF : List (Nat × V) := [(0, .c (.ptr 3 0)), (2, .c (.ptr 6 0)), (4, .c (.ptr 7 0)), (6, .c (.ptr 9 0)), (7, .c (.ptr 10 0)), (20, .c (.fn (.func 69) [.ptr 11 0]))]
structure FP where
  r : Rd
  st : Nat → Int
  bk : Nat → Int
  z : Nat → Int
  f5 : Nat → Int
  bf : Nat → Int
  A : Code
  Bd : Code
def HF (p : FP) (q : FS) (sta : LoopState) : List AB :=
  [.gl 0 noneD, .cells (roadC p.r), .cells (roadC p.r), .cells (netC p.r p.st p.bk), .cells (numsC 41 p.z), .cells (numsC 41 p.f5),
   .cells (numsC 41 zf), .cells (numsC 41 q.far), .mp (byE q.by'), .cells [.mp 8], .cells (numsC 41 p.bf), .cells [.ptr 3 0], .df,
   .lp { state := sta, pend := none, slots := slF, nt := 52, ps := #[21], assign := p.A, body := p.Bd, D := 12 }]
theorem byE_low (n : Nat) (es : List (Int × Stp)) : (byE es).all (fun e => e.1.low n && e.2.low n) = true := by
  rw [List.all_eq_true]
  intro e he
  obtain ⟨x, _, rfl⟩ := List.mem_map.1 he
  rfl
theorem HF_low (p : FP) (q : FS) (sta : LoopState) (n : Nat) (h : 14 ≤ n) : (HF p q sta).all (AB.low n) = true := by
  have h8 : decide (8 < n) = true := by simp; omega
  have h3 : decide (3 < n) = true := by simp; omega
  have h12 : decide (12 < n) = true := by simp; omega
  have h6 : decide (6 < n) = true := by simp; omega
  have h7 : decide (7 < n) = true := by simp; omega
  have h9 : decide (9 < n) = true := by simp; omega
  have h10 : decide (10 < n) = true := by simp; omega
  have h11 : decide (11 < n) = true := by simp; omega
  simp only [HF, List.all_cons, List.all_nil, AB.low, numsC_low, netC_low, roadC_low, C.lowL, C.low, slF, V.low, byE_low, h8, h3, h12, h6, h7, h9, h10, h11, Bool.and_self]

theorem netC_len (r : Rd) (st bk : Nat → Int) : (netC r st bk).length = 68 := by simp [netC, numsD_len]
theorem nC0 (r : Rd) (st bk : Nat → Int) : (netC r st bk)[0]? = some (.d (.int .i64 r.pl)) := rfl
theorem nC1 (r : Rd) (st bk : Nat → Int) : (netC r st bk)[1]? = some (.d (.int .i64 r.de)) := rfl
theorem nC2 (r : Rd) (st bk : Nat → Int) : (netC r st bk)[2]? = some (.d (.int .i64 r.di)) := rfl
theorem nC3 (r : Rd) (st bk : Nat → Int) : (netC r st bk)[3]? = some (.d (.sl (r.ps.map pD))) := rfl
theorem nCst (r : Rd) (st bk : Nat → Int) {i : Nat} (h : i < 24) : (netC r st bk)[4 + i]? = some (.d (.int .i64 (st i))) := by
  rw [Nat.add_comm 4 i]
  show ((numsD 24 st ++ numsD 40 bk).map C.d)[i]? = _
  rw [List.getElem?_map, net_st h]; rfl
theorem nCbk (r : Rd) (st bk : Nat → Int) {i : Nat} (h : i < 40) : (netC r st bk)[28 + i]? = some (.d (.int .i64 (bk i))) := by
  rw [show 28 + i = (24 + i) + 4 by omega]
  show ((numsD 24 st ++ numsD 40 bk).map C.d)[24 + i]? = _
  rw [List.getElem?_map, net_bk h]; rfl
set_option maxHeartbeats 1000000 in
theorem reach59p (r : Rd) (st bk : Nat → Int) (i : Int) (hr : OkR r) (h0 : 0 ≤ i) (hi : i < r.ps.length) (H : List AB) (hH : H.all (AB.low H.length) = true) (h3 : H[3]? = some (.cells (netC r st bk))) :
    ACall Tryd.prog 59 [.c (.ptr 3 0), I i] H (one (.tup [I (rFrom r i), I (rTo r i)]) H) := by
  refine acall_atE (bad := [1]) (kp := kp59) (X := tx) (nt := 37) (rs := [.tmp 4, .tmp 5]) Tryd.func59 rfl rfl rfl rfl mo (by kernel_rfl) rfl hH (fun hf => ?_)
  obtain ⟨hp, q0, q1, q2, q3, q4⟩ := hr.post h0 hi
  have := hr.p40
  have := hr.i0
  have := hr.i5
  have w1 : wr .i64 ((po r i).fr + r.di) = (po r i).fr + r.di := by rw [wr_i64] <;> omega
  have w2 : wr .i64 ((po r i).to - r.di) = (po r i).to - r.di := by rw [wr_i64] <;> omega
  have w3 : wr .i64 ((po r i).to - r.di + 1) = (po r i).to - r.di + 1 := by rw [wr_i64] <;> omega
  have hc : decide (0 ≤ i) = true := by simpa using h0
  have hd : decide (i < r.ps.length) = true := by simpa using hi
  have hl := net_len st bk
  simp (config := { maxSteps := 2000000 }) only [go_sem, reduceIte, Nat.reduceEqDiff, Nat.reduceAdd, Nat.reduceLT, Nat.reduceLeDiff, Nat.reduceBEq, Nat.reduceMul, Nat.reduceSub, Nat.reduceDiv, Int.reduceNeg, Int.reduceLT, Int.reduceLE, Int.reduceEq, Int.reduceToNat, fillC, zc, List.replicate_succ, List.replicate_zero, List.flatten_cons, List.flatten_nil, toDs, toD, chunk, placeS, srcRows, List.all_cons, List.all_nil, List.all_map, Function.comp_def, List.take_nil, List.drop_nil, List.toList_toArray, C.eqbL, eqCs, eqC, List.drop_one, List.tail_cons, lim, lk69, h3, netC, hp, pD, w1, w2, w3, hc, hd, rFrom, rTo, hl, lk59]
  refine ⟨by kernel_rfl, [], by simp⟩

theorem HF_low1 (p : FP) (q : FS) (sta : LoopState) (a : Po) : (HF p q sta ++ [AB.cells (pC a)]).all (AB.low (HF p q sta ++ [AB.cells (pC a)]).length) = true := by
  rw [List.all_append, HF_low _ _ _ _ (by simp [HF])]; rfl
theorem HF_low2 (p : FP) (q : FS) (sta : LoopState) (a : Po) (b : Stp) : (HF p q sta ++ [AB.cells (pC a), AB.cells (sC b)]).all (AB.low (HF p q sta ++ [AB.cells (pC a), AB.cells (sC b)]).length) = true := by
  rw [List.all_append, HF_low _ _ _ _ (by simp [HF])]; rfl
set_option maxHeartbeats 8000000 in
theorem steps69 (p : FP) (q : FS) (hr : OkR p.r) (hst : ∀ i, 0 ≤ p.st i ∧ p.st i ≤ 1)
    (hy : ∀ pre x suf T, stepsL p.r p.st p.bk = pre ++ x :: suf → (T = [] ∨ ∃ a b, T = [.cells (pC a), .cells (sC b)]) → YC Tryd.prog 13 (HF p (roundF pre q) .ready ++ T) (sV x) (one (B true) (HF p (roundF (pre ++ [x]) q) .ready ++ T))) :
    ACall Tryd.prog 69 [.c (.yd 13), .c (.ptr 11 0)] (HF p q .ready) (fun _ H' => H' = HF p (roundF (stepsL p.r p.st p.bk) q) .ready) := by
  refine acall_fitE (bad := []) (kp := kp69) (X := tx) (nt := 90) (rs := []) Tryd.func69 rfl rfl rfl rfl mo (by kernel_rfl) (fun hf => ?_)
  have h1 := hr.p1
  have h40 := hr.p40
  have hlen := hr.len
  have nl := netC_len p.r p.st p.bk
  have n0 := nC0 p.r p.st p.bk
  have n3 := nC3 p.r p.st p.bk
  simp (config := { maxSteps := 2000000 }) only [go_sem, reduceIte, Nat.reduceEqDiff, Nat.reduceAdd, Nat.reduceLT, Nat.reduceLeDiff, Nat.reduceBEq, Nat.reduceMul, Nat.reduceSub, Nat.reduceDiv, Int.reduceNeg, Int.reduceLT, Int.reduceLE, Int.reduceEq, Int.reduceToNat, fillC, zc, List.replicate_succ, List.replicate_zero, List.flatten_cons, List.flatten_nil, toDs, toD, chunk, placeS, srcRows, List.all_cons, List.all_nil, List.all_map, Function.comp_def, List.take_nil, List.drop_nil, List.toList_toArray, C.eqbL, eqCs, eqC, List.drop_one, List.tail_cons, lim, lk69, HF, nl, n0, n3]
  refine goE_loop (bad := []) (kp := kp69) (fun k : Nat => { slots := [(0, .c (.yd 13)), (1, .c (.ptr 11 0)), (13, I p.r.pl), (14, I k)], heap := HF p (roundF ((List.range k).flatMap (backL p.bk)) q) .ready, marks := [] }) (fun k => (k : Int) ≤ p.r.pl) (fun k => p.r.pl.toNat - k) 0 mo (by kernel_rfl) ?_ (by simp; omega) ?_
  · refine ent_weaken [] (by simp only [HF, roundF, List.range_zero, List.flatMap_nil, List.foldl_nil, List.append_nil]) rfl (Nat.le_refl _) (HF_low _ _ _ _ (Nat.le_refl _)) rfl ?_
    simp (config := { maxSteps := 2000000 }) only [go_sem, reduceIte, Nat.reduceEqDiff, Nat.reduceAdd, Nat.reduceLT, Nat.reduceLeDiff, Nat.reduceBEq, Nat.reduceMul, Nat.reduceSub, Nat.reduceDiv, Int.reduceNeg, Int.reduceLT, Int.reduceLE, Int.reduceEq, Int.reduceToNat, fillC, zc, List.replicate_succ, List.replicate_zero, List.flatten_cons, List.flatten_nil, toDs, toD, chunk, placeS, srcRows, List.all_cons, List.all_nil, List.all_map, Function.comp_def, List.take_nil, List.drop_nil, List.toList_toArray, C.eqbL, eqCs, eqC, List.drop_one, List.tail_cons, lim, lk69, HF]
    exact .refl _
  rintro k hk
  simp (config := { maxSteps := 2000000 }) only [go_sem, reduceIte, Nat.reduceEqDiff, Nat.reduceAdd, Nat.reduceLT, Nat.reduceLeDiff, Nat.reduceBEq, Nat.reduceMul, Nat.reduceSub, Nat.reduceDiv, Int.reduceNeg, Int.reduceLT, Int.reduceLE, Int.reduceEq, Int.reduceToNat, fillC, zc, List.replicate_succ, List.replicate_zero, List.flatten_cons, List.flatten_nil, toDs, toD, chunk, placeS, srcRows, List.all_cons, List.all_nil, List.all_map, Function.comp_def, List.take_nil, List.drop_nil, List.toList_toArray, C.eqbL, eqCs, eqC, List.drop_one, List.tail_cons, lim, lk69, HF]
  refine goE_if (fun h => ?_) (fun h => ?_)
  · have hlt : (k : Int) < p.r.pl := by simpa using h
    obtain ⟨suf, hs⟩ := flat_split (backL p.bk) (k := k) (n := p.r.pl.toNat) (by omega)
    have w1 : wr .i64 ((k : Int) + 1) = (k : Int) + 1 := wr_id (by omega) (by omega)
    have e1 : ((k + 1 : Nat) : Int) = (k : Int) + 1 := by omega
    have hall : stepsL p.r p.st p.bk = (List.range k).flatMap (backL p.bk) ++ ⟨(k : Int) + 1, k, 0, -1⟩ :: ((if 0 < p.bk k then [⟨k, (k : Int) + 1, 0, -1⟩] else []) ++ (suf ++ (List.range p.r.ps.length).flatMap (postL p.r p.st))) := by
      rw [stepsL, hs]; simp [backL]
    have y1 := hy _ _ _ [] hall (.inl rfl)
    simp only [List.append_nil] at y1
    simp (config := { maxSteps := 2000000 }) only [go_sem, reduceIte, Nat.reduceEqDiff, Nat.reduceAdd, Nat.reduceLT, Nat.reduceLeDiff, Nat.reduceBEq, Nat.reduceMul, Nat.reduceSub, Nat.reduceDiv, Int.reduceNeg, Int.reduceLT, Int.reduceLE, Int.reduceEq, Int.reduceToNat, fillC, zc, List.replicate_succ, List.replicate_zero, List.flatten_cons, List.flatten_nil, toDs, toD, chunk, placeS, srcRows, List.all_cons, List.all_nil, List.all_map, Function.comp_def, List.take_nil, List.drop_nil, List.toList_toArray, C.eqbL, eqCs, eqC, List.drop_one, List.tail_cons, lim, lk69, fillC, placeS, w1]
    refine aops_yc y1 rfl rfl (fun y H' h => ?_)
    obtain ⟨rfl, rfl⟩ := h
    have nb := nCbk p.r p.st p.bk (i := k) (by omega)
    have c1 : decide (28 + k + 1 ≤ 68) = true := by simp; omega
    have c2 : (decide ((0 : Int) ≤ (k : Int)) && decide ((k : Int) < ((40 : Nat) : Int))) = true := by simp; omega
    by_cases hb : 0 < p.bk k
    · simp (config := { maxSteps := 2000000 }) only [go_sem, reduceIte, Nat.reduceEqDiff, Nat.reduceAdd, Nat.reduceLT, Nat.reduceLeDiff, Nat.reduceBEq, Nat.reduceMul, Nat.reduceSub, Nat.reduceDiv, Int.reduceNeg, Int.reduceLT, Int.reduceLE, Int.reduceEq, Int.reduceToNat, fillC, zc, List.replicate_succ, List.replicate_zero, List.flatten_cons, List.flatten_nil, toDs, toD, chunk, placeS, srcRows, List.all_cons, List.all_nil, List.all_map, Function.comp_def, List.take_nil, List.drop_nil, List.toList_toArray, C.eqbL, eqCs, eqC, List.drop_one, List.tail_cons, lim, lk69, HF, nb, nl, hb, c1, c2, Nat.mul_one, fillC, placeS, w1]
      refine ⟨by simp; omega, ?_⟩
      have y2 := hy ((List.range k).flatMap (backL p.bk) ++ [⟨(k : Int) + 1, k, 0, -1⟩]) ⟨k, (k : Int) + 1, 0, -1⟩ (suf ++ (List.range p.r.ps.length).flatMap (postL p.r p.st)) [] (by rw [hall]; simp [hb]) (.inl rfl)
      simp only [List.append_nil] at y2
      refine aops_yc y2 rfl rfl (fun y H' h => ?_)
      obtain ⟨rfl, rfl⟩ := h
      simp (config := { maxSteps := 2000000 }) only [go_sem, reduceIte, Nat.reduceEqDiff, Nat.reduceAdd, Nat.reduceLT, Nat.reduceLeDiff, Nat.reduceBEq, Nat.reduceMul, Nat.reduceSub, Nat.reduceDiv, Int.reduceNeg, Int.reduceLT, Int.reduceLE, Int.reduceEq, Int.reduceToNat, fillC, zc, List.replicate_succ, List.replicate_zero, List.flatten_cons, List.flatten_nil, toDs, toD, chunk, placeS, srcRows, List.all_cons, List.all_nil, List.all_map, Function.comp_def, List.take_nil, List.drop_nil, List.toList_toArray, C.eqbL, eqCs, eqC, List.drop_one, List.tail_cons, lim, lk69, HF, w1]
      refine ⟨k + 1, by omega, by omega, ?_⟩
      refine ent_weaken [] (by simp only [HF, flat_succ, backL, hb, if_true, List.append_assoc, List.cons_append, List.nil_append, List.append_nil]) rfl (Nat.le_refl _) (HF_low _ _ _ _ (Nat.le_refl _)) rfl ?_
      simp (config := { maxSteps := 2000000 }) only [go_sem, reduceIte, Nat.reduceEqDiff, Nat.reduceAdd, Nat.reduceLT, Nat.reduceLeDiff, Nat.reduceBEq, Nat.reduceMul, Nat.reduceSub, Nat.reduceDiv, Int.reduceNeg, Int.reduceLT, Int.reduceLE, Int.reduceEq, Int.reduceToNat, fillC, zc, List.replicate_succ, List.replicate_zero, List.flatten_cons, List.flatten_nil, toDs, toD, chunk, placeS, srcRows, List.all_cons, List.all_nil, List.all_map, Function.comp_def, List.take_nil, List.drop_nil, List.toList_toArray, C.eqbL, eqCs, eqC, List.drop_one, List.tail_cons, lim, lk69, HF, e1]
    · simp (config := { maxSteps := 2000000 }) only [go_sem, reduceIte, Nat.reduceEqDiff, Nat.reduceAdd, Nat.reduceLT, Nat.reduceLeDiff, Nat.reduceBEq, Nat.reduceMul, Nat.reduceSub, Nat.reduceDiv, Int.reduceNeg, Int.reduceLT, Int.reduceLE, Int.reduceEq, Int.reduceToNat, fillC, zc, List.replicate_succ, List.replicate_zero, List.flatten_cons, List.flatten_nil, toDs, toD, chunk, placeS, srcRows, List.all_cons, List.all_nil, List.all_map, Function.comp_def, List.take_nil, List.drop_nil, List.toList_toArray, C.eqbL, eqCs, eqC, List.drop_one, List.tail_cons, lim, lk69, HF, nb, nl, hb, c1, c2, Nat.mul_one, w1]
      refine ⟨by simp; omega, ?_⟩
      refine ⟨k + 1, by omega, by omega, ?_⟩
      refine ent_weaken [] (by simp only [HF, flat_succ, backL, hb, if_false, List.append_assoc, List.cons_append, List.nil_append, List.append_nil]) rfl (Nat.le_refl _) (HF_low _ _ _ _ (Nat.le_refl _)) rfl ?_
      simp (config := { maxSteps := 2000000 }) only [go_sem, reduceIte, Nat.reduceEqDiff, Nat.reduceAdd, Nat.reduceLT, Nat.reduceLeDiff, Nat.reduceBEq, Nat.reduceMul, Nat.reduceSub, Nat.reduceDiv, Int.reduceNeg, Int.reduceLT, Int.reduceLE, Int.reduceEq, Int.reduceToNat, fillC, zc, List.replicate_succ, List.replicate_zero, List.flatten_cons, List.flatten_nil, toDs, toD, chunk, placeS, srcRows, List.all_cons, List.all_nil, List.all_map, Function.comp_def, List.take_nil, List.drop_nil, List.toList_toArray, C.eqbL, eqCs, eqC, List.drop_one, List.tail_cons, lim, lk69, HF, e1]
  · have hk' : p.r.pl.toNat = k := by simp at h; omega
    simp (config := { maxSteps := 2000000 }) only [go_sem, reduceIte, Nat.reduceEqDiff, Nat.reduceAdd, Nat.reduceLT, Nat.reduceLeDiff, Nat.reduceBEq, Nat.reduceMul, Nat.reduceSub, Nat.reduceDiv, Int.reduceNeg, Int.reduceLT, Int.reduceLE, Int.reduceEq, Int.reduceToNat, fillC, zc, List.replicate_succ, List.replicate_zero, List.flatten_cons, List.flatten_nil, toDs, toD, chunk, placeS, srcRows, List.all_cons, List.all_nil, List.all_map, Function.comp_def, List.take_nil, List.drop_nil, List.toList_toArray, C.eqbL, eqCs, eqC, List.drop_one, List.tail_cons, lim, lk69, nl, n3]
    refine goE_loop (bad := []) (kp := kp69) (fun i : Nat => { slots := [(0, .c (.yd 13)), (1, .c (.ptr 11 0)), (47, postsV p.r.ps), (48, I p.r.ps.length), (49, I i)], heap := HF p (roundF ((List.range p.r.pl.toNat).flatMap (backL p.bk) ++ (List.range i).flatMap (postL p.r p.st)) q) .ready, marks := [] }) (fun i => i ≤ p.r.ps.length) (fun i => p.r.ps.length - i) 0 mo (by kernel_rfl) ?_ (Nat.zero_le _) ?_
    · refine ent_weaken [] (by simp only [HF, hk', List.range_zero, List.flatMap_nil, List.append_nil]) rfl (Nat.le_refl _) (HF_low _ _ _ _ (Nat.le_refl _)) rfl ?_
      simp (config := { maxSteps := 2000000 }) only [go_sem, reduceIte, Nat.reduceEqDiff, Nat.reduceAdd, Nat.reduceLT, Nat.reduceLeDiff, Nat.reduceBEq, Nat.reduceMul, Nat.reduceSub, Nat.reduceDiv, Int.reduceNeg, Int.reduceLT, Int.reduceLE, Int.reduceEq, Int.reduceToNat, fillC, zc, List.replicate_succ, List.replicate_zero, List.flatten_cons, List.flatten_nil, toDs, toD, chunk, placeS, srcRows, List.all_cons, List.all_nil, List.all_map, Function.comp_def, List.take_nil, List.drop_nil, List.toList_toArray, C.eqbL, eqCs, eqC, List.drop_one, List.tail_cons, lim, lk69, HF, postsV]
      exact .refl _
    clear h hk hk'
    rintro i hi
    simp (config := { maxSteps := 2000000 }) only [go_sem, reduceIte, Nat.reduceEqDiff, Nat.reduceAdd, Nat.reduceLT, Nat.reduceLeDiff, Nat.reduceBEq, Nat.reduceMul, Nat.reduceSub, Nat.reduceDiv, Int.reduceNeg, Int.reduceLT, Int.reduceLE, Int.reduceEq, Int.reduceToNat, fillC, zc, List.replicate_succ, List.replicate_zero, List.flatten_cons, List.flatten_nil, toDs, toD, chunk, placeS, srcRows, List.all_cons, List.all_nil, List.all_map, Function.comp_def, List.take_nil, List.drop_nil, List.toList_toArray, C.eqbL, eqCs, eqC, List.drop_one, List.tail_cons, lim, lk69, HF, postsV]
    refine goE_if (fun h => ?_) (fun h => ?_)
    · have hlt : i < p.r.ps.length := by simpa using h
      obtain ⟨hp, _, _, _, q3, q4⟩ := hr.post (i := (i : Int)) (by omega) (by omega)
      have hp : p.r.ps[i]? = some (po p.r i) := hp
      obtain ⟨suf, hs⟩ := flat_split (postL p.r p.st) (k := i) (n := p.r.ps.length) hlt
      have w2 : wr .i64 (-(po p.r i).co) = -(po p.r i).co := wr_id (by omega) (by omega)
      have c6 : (decide ((0 : Int) ≤ (i : Int)) && decide ((i : Int) < (p.r.ps.length : Int))) = true := by simp; omega
      have ns := nCst p.r p.st p.bk (i := i) (by omega)
      have c1 : decide (4 + i + 1 ≤ 68) = true := by simp; omega
      have c1' : decide (4 + i ≤ 67) = true := by simp; omega
      have c2 : (decide ((0 : Int) ≤ (i : Int)) && decide ((i : Int) < ((24 : Nat) : Int))) = true := by simp; omega
      have hss : ∀ x, postS p.r p.st i = x → rFrom p.r i < rTo p.r i → stepsL p.r p.st p.bk = ((List.range p.r.pl.toNat).flatMap (backL p.bk) ++ (List.range i).flatMap (postL p.r p.st)) ++ x :: suf := by
        intro x hx hft
        rw [stepsL, hs, postL, if_pos hft, hx]; simp
      have wi := wr_succ hlt (show p.r.ps.length ≤ 140737488355328 by omega)
      simp (config := { maxSteps := 2000000 }) only [go_sem, reduceIte, Nat.reduceEqDiff, Nat.reduceAdd, Nat.reduceLT, Nat.reduceLeDiff, Nat.reduceBEq, Nat.reduceMul, Nat.reduceSub, Nat.reduceDiv, Int.reduceNeg, Int.reduceLT, Int.reduceLE, Int.reduceEq, Int.reduceToNat, fillC, zc, List.replicate_succ, List.replicate_zero, List.flatten_cons, List.flatten_nil, toDs, toD, chunk, placeS, srcRows, List.all_cons, List.all_nil, List.all_map, Function.comp_def, List.take_nil, List.drop_nil, List.toList_toArray, C.eqbL, eqCs, eqC, List.drop_one, List.tail_cons, lim, lk69, hp, pD, c6]
      have hre := reach59p p.r p.st p.bk (i : Int) hr (by omega) (by omega) (HF p (roundF ((List.range p.r.pl.toNat).flatMap (backL p.bk) ++ (List.range i).flatMap (postL p.r p.st)) q) .ready ++ [AB.cells (pC (po p.r i))]) (HF_low1 _ _ _ _) rfl
      simp only [HF, pC, List.cons_append, List.nil_append] at hre
      refine aops_at (hre) rfl rfl (by first | exact wk_refls _ | (repeat constructor)) ?_
      by_cases hone : p.st i = 1
      · have hps : postS p.r p.st i = ⟨rTo p.r i, rFrom p.r i, -(po p.r i).co, i⟩ := by simp [postS, hone]
        by_cases hft : rFrom p.r i < rTo p.r i
        · have y3 := hy _ _ _ [AB.cells (pC (po p.r i)), AB.cells (sC ⟨rTo p.r i, rFrom p.r i, -(po p.r i).co, i⟩)] (hss _ hps hft) (.inr ⟨_, _, rfl⟩)
          simp (config := { maxSteps := 2000000 }) only [go_sem, reduceIte, Nat.reduceEqDiff, Nat.reduceAdd, Nat.reduceLT, Nat.reduceLeDiff, Nat.reduceBEq, Nat.reduceMul, Nat.reduceSub, Nat.reduceDiv, Int.reduceNeg, Int.reduceLT, Int.reduceLE, Int.reduceEq, Int.reduceToNat, fillC, zc, List.replicate_succ, List.replicate_zero, List.flatten_cons, List.flatten_nil, toDs, toD, chunk, placeS, srcRows, List.all_cons, List.all_nil, List.all_map, Function.comp_def, List.take_nil, List.drop_nil, List.toList_toArray, C.eqbL, eqCs, eqC, List.drop_one, List.tail_cons, lim, lk69, HF, pC, fillC, placeS, nl, ns, hone, c1, c1', c2, Nat.mul_one, w2, hft]
          refine aops_yc y3 rfl rfl (fun y H' h => ?_)
          obtain ⟨rfl, rfl⟩ := h
          simp (config := { maxSteps := 2000000 }) only [go_sem, reduceIte, Nat.reduceEqDiff, Nat.reduceAdd, Nat.reduceLT, Nat.reduceLeDiff, Nat.reduceBEq, Nat.reduceMul, Nat.reduceSub, Nat.reduceDiv, Int.reduceNeg, Int.reduceLT, Int.reduceLE, Int.reduceEq, Int.reduceToNat, fillC, zc, List.replicate_succ, List.replicate_zero, List.flatten_cons, List.flatten_nil, toDs, toD, chunk, placeS, srcRows, List.all_cons, List.all_nil, List.all_map, Function.comp_def, List.take_nil, List.drop_nil, List.toList_toArray, C.eqbL, eqCs, eqC, List.drop_one, List.tail_cons, lim, lk69, HF, pC, sC, wi]
          refine ⟨i + 1, hlt, by omega, ?_⟩
          refine ent_weaken [AB.cells (pC (po p.r i)), AB.cells (sC ⟨rTo p.r i, rFrom p.r i, -(po p.r i).co, i⟩)] (by simp only [HF, flat_succ, postL, hft, if_true, hps, List.append_assoc, List.cons_append, List.nil_append, List.append_nil, pC, sC]) rfl (Nat.le_refl _) (HF_low _ _ _ _ (Nat.le_refl _)) rfl ?_
          simp (config := { maxSteps := 2000000 }) only [go_sem, reduceIte, Nat.reduceEqDiff, Nat.reduceAdd, Nat.reduceLT, Nat.reduceLeDiff, Nat.reduceBEq, Nat.reduceMul, Nat.reduceSub, Nat.reduceDiv, Int.reduceNeg, Int.reduceLT, Int.reduceLE, Int.reduceEq, Int.reduceToNat, fillC, zc, List.replicate_succ, List.replicate_zero, List.flatten_cons, List.flatten_nil, toDs, toD, chunk, placeS, srcRows, List.all_cons, List.all_nil, List.all_map, Function.comp_def, List.take_nil, List.drop_nil, List.toList_toArray, C.eqbL, eqCs, eqC, List.drop_one, List.tail_cons, lim, lk69, HF]
        · simp (config := { maxSteps := 2000000 }) only [go_sem, reduceIte, Nat.reduceEqDiff, Nat.reduceAdd, Nat.reduceLT, Nat.reduceLeDiff, Nat.reduceBEq, Nat.reduceMul, Nat.reduceSub, Nat.reduceDiv, Int.reduceNeg, Int.reduceLT, Int.reduceLE, Int.reduceEq, Int.reduceToNat, fillC, zc, List.replicate_succ, List.replicate_zero, List.flatten_cons, List.flatten_nil, toDs, toD, chunk, placeS, srcRows, List.all_cons, List.all_nil, List.all_map, Function.comp_def, List.take_nil, List.drop_nil, List.toList_toArray, C.eqbL, eqCs, eqC, List.drop_one, List.tail_cons, lim, lk69, HF, pC, fillC, placeS, nl, ns, hone, c1, c1', c2, Nat.mul_one, w2, hft, wi]
          refine ⟨i + 1, hlt, by omega, ?_⟩
          refine ent_weaken [AB.cells (pC (po p.r i)), AB.cells (sC ⟨rTo p.r i, rFrom p.r i, -(po p.r i).co, i⟩)] (by simp only [HF, flat_succ, postL, hft, if_false, List.append_assoc, List.cons_append, List.nil_append, List.append_nil, pC, sC]) rfl (Nat.le_refl _) (HF_low _ _ _ _ (Nat.le_refl _)) rfl ?_
          simp (config := { maxSteps := 2000000 }) only [go_sem, reduceIte, Nat.reduceEqDiff, Nat.reduceAdd, Nat.reduceLT, Nat.reduceLeDiff, Nat.reduceBEq, Nat.reduceMul, Nat.reduceSub, Nat.reduceDiv, Int.reduceNeg, Int.reduceLT, Int.reduceLE, Int.reduceEq, Int.reduceToNat, fillC, zc, List.replicate_succ, List.replicate_zero, List.flatten_cons, List.flatten_nil, toDs, toD, chunk, placeS, srcRows, List.all_cons, List.all_nil, List.all_map, Function.comp_def, List.take_nil, List.drop_nil, List.toList_toArray, C.eqbL, eqCs, eqC, List.drop_one, List.tail_cons, lim, lk69, HF]
      · have hps : postS p.r p.st i = ⟨rFrom p.r i, rTo p.r i, (po p.r i).co, i⟩ := by simp [postS, hone]
        by_cases hft : rFrom p.r i < rTo p.r i
        · have y3 := hy _ _ _ [AB.cells (pC (po p.r i)), AB.cells (sC ⟨rFrom p.r i, rTo p.r i, (po p.r i).co, i⟩)] (hss _ hps hft) (.inr ⟨_, _, rfl⟩)
          simp (config := { maxSteps := 2000000 }) only [go_sem, reduceIte, Nat.reduceEqDiff, Nat.reduceAdd, Nat.reduceLT, Nat.reduceLeDiff, Nat.reduceBEq, Nat.reduceMul, Nat.reduceSub, Nat.reduceDiv, Int.reduceNeg, Int.reduceLT, Int.reduceLE, Int.reduceEq, Int.reduceToNat, fillC, zc, List.replicate_succ, List.replicate_zero, List.flatten_cons, List.flatten_nil, toDs, toD, chunk, placeS, srcRows, List.all_cons, List.all_nil, List.all_map, Function.comp_def, List.take_nil, List.drop_nil, List.toList_toArray, C.eqbL, eqCs, eqC, List.drop_one, List.tail_cons, lim, lk69, HF, pC, fillC, placeS, nl, ns, hone, c1, c1', c2, Nat.mul_one, w2, hft]
          refine aops_yc y3 rfl rfl (fun y H' h => ?_)
          obtain ⟨rfl, rfl⟩ := h
          simp (config := { maxSteps := 2000000 }) only [go_sem, reduceIte, Nat.reduceEqDiff, Nat.reduceAdd, Nat.reduceLT, Nat.reduceLeDiff, Nat.reduceBEq, Nat.reduceMul, Nat.reduceSub, Nat.reduceDiv, Int.reduceNeg, Int.reduceLT, Int.reduceLE, Int.reduceEq, Int.reduceToNat, fillC, zc, List.replicate_succ, List.replicate_zero, List.flatten_cons, List.flatten_nil, toDs, toD, chunk, placeS, srcRows, List.all_cons, List.all_nil, List.all_map, Function.comp_def, List.take_nil, List.drop_nil, List.toList_toArray, C.eqbL, eqCs, eqC, List.drop_one, List.tail_cons, lim, lk69, HF, pC, sC, wi]
          refine ⟨i + 1, hlt, by omega, ?_⟩
          refine ent_weaken [AB.cells (pC (po p.r i)), AB.cells (sC ⟨rFrom p.r i, rTo p.r i, (po p.r i).co, i⟩)] (by simp only [HF, flat_succ, postL, hft, if_true, hps, List.append_assoc, List.cons_append, List.nil_append, List.append_nil, pC, sC]) rfl (Nat.le_refl _) (HF_low _ _ _ _ (Nat.le_refl _)) rfl ?_
          simp (config := { maxSteps := 2000000 }) only [go_sem, reduceIte, Nat.reduceEqDiff, Nat.reduceAdd, Nat.reduceLT, Nat.reduceLeDiff, Nat.reduceBEq, Nat.reduceMul, Nat.reduceSub, Nat.reduceDiv, Int.reduceNeg, Int.reduceLT, Int.reduceLE, Int.reduceEq, Int.reduceToNat, fillC, zc, List.replicate_succ, List.replicate_zero, List.flatten_cons, List.flatten_nil, toDs, toD, chunk, placeS, srcRows, List.all_cons, List.all_nil, List.all_map, Function.comp_def, List.take_nil, List.drop_nil, List.toList_toArray, C.eqbL, eqCs, eqC, List.drop_one, List.tail_cons, lim, lk69, HF]
        · simp (config := { maxSteps := 2000000 }) only [go_sem, reduceIte, Nat.reduceEqDiff, Nat.reduceAdd, Nat.reduceLT, Nat.reduceLeDiff, Nat.reduceBEq, Nat.reduceMul, Nat.reduceSub, Nat.reduceDiv, Int.reduceNeg, Int.reduceLT, Int.reduceLE, Int.reduceEq, Int.reduceToNat, fillC, zc, List.replicate_succ, List.replicate_zero, List.flatten_cons, List.flatten_nil, toDs, toD, chunk, placeS, srcRows, List.all_cons, List.all_nil, List.all_map, Function.comp_def, List.take_nil, List.drop_nil, List.toList_toArray, C.eqbL, eqCs, eqC, List.drop_one, List.tail_cons, lim, lk69, HF, pC, fillC, placeS, nl, ns, hone, c1, c1', c2, Nat.mul_one, w2, hft, wi]
          refine ⟨i + 1, hlt, by omega, ?_⟩
          refine ent_weaken [AB.cells (pC (po p.r i)), AB.cells (sC ⟨rFrom p.r i, rTo p.r i, (po p.r i).co, i⟩)] (by simp only [HF, flat_succ, postL, hft, if_false, List.append_assoc, List.cons_append, List.nil_append, List.append_nil, pC, sC]) rfl (Nat.le_refl _) (HF_low _ _ _ _ (Nat.le_refl _)) rfl ?_
          simp (config := { maxSteps := 2000000 }) only [go_sem, reduceIte, Nat.reduceEqDiff, Nat.reduceAdd, Nat.reduceLT, Nat.reduceLeDiff, Nat.reduceBEq, Nat.reduceMul, Nat.reduceSub, Nat.reduceDiv, Int.reduceNeg, Int.reduceLT, Int.reduceLE, Int.reduceEq, Int.reduceToNat, fillC, zc, List.replicate_succ, List.replicate_zero, List.flatten_cons, List.flatten_nil, toDs, toD, chunk, placeS, srcRows, List.all_cons, List.all_nil, List.all_map, Function.comp_def, List.take_nil, List.drop_nil, List.toList_toArray, C.eqbL, eqCs, eqC, List.drop_one, List.tail_cons, lim, lk69, HF]
    · have hi' : i = p.r.ps.length := by simp at h; omega
      subst hi'
      simp (config := { maxSteps := 2000000 }) only [go_sem, reduceIte, Nat.reduceEqDiff, Nat.reduceAdd, Nat.reduceLT, Nat.reduceLeDiff, Nat.reduceBEq, Nat.reduceMul, Nat.reduceSub, Nat.reduceDiv, Int.reduceNeg, Int.reduceLT, Int.reduceLE, Int.reduceEq, Int.reduceToNat, fillC, zc, List.replicate_succ, List.replicate_zero, List.flatten_cons, List.flatten_nil, toDs, toD, chunk, placeS, srcRows, List.all_cons, List.all_nil, List.all_map, Function.comp_def, List.take_nil, List.drop_nil, List.toList_toArray, C.eqbL, eqCs, eqC, List.drop_one, List.tail_cons, lim, lk69]
      rfl
end Go.Proofs.YteamgbndnfjoaaaDoor
