/- Dyes: the least spot. -/
import Derived.Test.YtkbnmanfoejoiaaNC
import Derived.Test.YtkbnmanfoejoiaaAbsB
import Derived.Test.YtkbnmanfoejoiaaD9
set_option linter.unusedSimpArgs false
set_option linter.unusedVariables false
set_option maxRecDepth 100000
namespace Go.Proofs.Ytkbnmanfoejoiaa
open Go Go.Abs Go.Proofs
def kp73 : List (Nat × List Nat) := [(0, [0, 1, 4]), (1, [0, 1, 4, 5]), (2, [1, 4, 5, 11, 12, 13]), (3, [1, 4, 5, 11, 12, 13, 14]), (4, [1, 4, 5, 7, 11, 12, 13]), (5, [1, 4, 5, 7, 11, 12, 13, 23]), (6, [1, 4, 5, 11, 12, 13]), (7, [1, 4, 5, 11, 12, 13]), (8, [4])]
theorem lk73 : lookK kp73 0 = some [0, 1, 4] ∧ lookK kp73 1 = some [0, 1, 4, 5] ∧ lookK kp73 2 = some [1, 4, 5, 11, 12, 13] ∧ lookK kp73 3 = some [1, 4, 5, 11, 12, 13, 14] ∧ lookK kp73 4 = some [1, 4, 5, 7, 11, 12, 13] ∧ lookK kp73 5 = some [1, 4, 5, 7, 11, 12, 13, 23] ∧ lookK kp73 6 = some [1, 4, 5, 11, 12, 13] ∧ lookK kp73 7 = some [1, 4, 5, 11, 12, 13] ∧ lookK kp73 8 = some [4] := ⟨rfl, rfl, rfl, rfl, rfl, rfl, rfl, rfl, rfl⟩
def kp74 : List (Nat × List Nat) := [(0, [1, 2, 3]), (1, [4])]
theorem lk74 : lookK kp74 0 = some [1, 2, 3] ∧ lookK kp74 1 = some [4] := ⟨rfl, rfl⟩

def sD (p : Nat × Nat) : List D := [.int .i64 p.1, .int .i64 p.2]
def sC (p : Nat × Nat) : List C := [.d (.int .i64 p.1), .d (.int .i64 p.2)]
def sps (l : List (Nat × Nat)) : V := .c (.d (.sl (l.map sD)))
theorem fit_sps {l : List (Nat × Nat)} (h : FitV (sps l)) : l.length ≤ 140737488355328 := by simpa using fit_sl h
set_option maxHeartbeats 1000000 in
theorem cost74 (H : List AB) (a b bid : Nat) (l : List Dy) (f : Nat → Int) (q : Int) (i : Nat) (ha : H[a]? = some (.cells [.ptr bid 0])) (hb : H[b]? = some (.cells [.d (.int .i64 i)])) (hbid : H[bid]? = some (.cells (benchC l f q)))
    (p : Nat × Nat) (hi : i < 9) (hx : p.1 < 21) (hy : p.2 < 21) : ACall Try.prog 74 [.agg (sC p), .c (.ptr a 0), .c (.ptr b 0)] H (Go.Abs.one (I (f (cix i p.1 p.2))) H) := by
  refine ACall.low_of Try.func74 rfl rfl (fun hH => ?_)
  have la := (List.getElem?_eq_some_iff.1 ha).1
  have lb := (List.getElem?_eq_some_iff.1 hb).1
  have lc := (List.getElem?_eq_some_iff.1 hbid).1
  have k1 := cix_lt hi hx hy
  have v1 := bench_at (l := l) (f := f) (q := q) k1
  have hc := cost68 (H ++ [.cells (sC p)]) bid (by simp; omega) i p.1 p.2 hi hx hy
  generalize cix i p.1 p.2 = k at *
  have r1 : decide (1 + k + 1 ≤ 3971) = true := by simp; omega
  have r1' : decide (1 + k ≤ 3970) = true := by simp; omega
  have e1 : (H ++ [AB.cells (sC p)])[a]? = some (.cells [.ptr bid 0]) := by rw [List.getElem?_append_left la]; exact ha
  have e2 : (H ++ [AB.cells (sC p)])[b]? = some (.cells [.d (.int .i64 i)]) := by rw [List.getElem?_append_left lb]; exact hb
  have e3 : (H ++ [AB.cells (sC p)])[bid]? = some (.cells (benchC l f q)) := by rw [List.getElem?_append_left lc]; exact hbid
  refine acall_atE (bad := []) (kp := kp74) (X := tx) (nt := 11) (rs := [.tmp 4]) Try.func74 rfl rfl rfl rfl mo (by kernel_rfl) rfl hH (fun hf => ?_)
  unfold sC at hc e1 e2 e3
  simp (maxSteps := 2000000) only [go_sem, lk73, lk74, spV, spC] at hc
  simp (maxSteps := 2000000) only [go_sem, reduceIte, Nat.reduceEqDiff, Nat.reduceAdd, lk73, lk74, sC, e1, e2, cat_at]
  refine aops_at (hc) rfl rfl (by first | exact wk_refls _ | (repeat constructor)) ?_
  simp (maxSteps := 2000000) only [go_sem, reduceIte, Nat.reduceEqDiff, Nat.reduceLeDiff, lk73, lk74, e3, v1, bench_len, r1, r1']
  all_goals first | exact .refl _ | exact ⟨.refl _, .refl _⟩ | exact ⟨.refl _, .refl _, .refl _⟩ | exact ⟨.refl _, _, rfl⟩ | exact ⟨_, rfl⟩ | exact ⟨.refl _, [], by simp⟩ | exact ⟨[], by simp⟩
def stepL (c : Nat × Nat → Int) (b x : Nat × Nat) : Nat × Nat := if c x < c b then x else b
def leastS (c : Nat × Nat → Int) (l : List (Nat × Nat)) : Nat × Nat := l.foldl (stepL c) (l.headD (0, 0))
theorem foldl_step (c : Nat × Nat → Int) : ∀ (l : List (Nat × Nat)) (b : Nat × Nat), (l.foldl (stepL c) b = b ∨ l.foldl (stepL c) b ∈ l) ∧ c (l.foldl (stepL c) b) ≤ c b ∧ ∀ x ∈ l, c (l.foldl (stepL c) b) ≤ c x
  | [], b => ⟨.inl rfl, Int.le_refl _, fun x hx => by simp at hx⟩
  | y :: l, b => by
    obtain ⟨h1, h2, h3⟩ := foldl_step c l (stepL c b y)
    have hs : (stepL c b y = b ∨ stepL c b y = y) ∧ c (stepL c b y) ≤ c b ∧ c (stepL c b y) ≤ c y := by
      unfold stepL
      split
      · exact ⟨.inr rfl, by omega, by omega⟩
      · exact ⟨.inl rfl, by omega, by omega⟩
    rw [List.foldl_cons]
    refine ⟨?_, by omega, fun x hx => ?_⟩
    · rcases h1 with h1 | h1
      · rw [h1]
        rcases hs.1 with h | h
        · exact .inl h
        · exact .inr (by rw [h]; simp)
      · exact .inr (List.mem_cons_of_mem _ h1)
    · rcases List.mem_cons.1 hx with rfl | hx
      · omega
      · exact h3 x hx
theorem leastS_spec (c : Nat × Nat → Int) {l : List (Nat × Nat)} (h : l ≠ []) : leastS c l ∈ l ∧ ∀ x ∈ l, c (leastS c l) ≤ c x := by
  obtain ⟨h1, h2, h3⟩ := foldl_step c l (l.headD (0, 0))
  refine ⟨?_, h3⟩
  rcases h1 with h1 | h1
  · unfold leastS; rw [h1]
    cases l with
    | nil => exact absurd rfl h
    | cons a l => simp
  · exact h1
set_option maxHeartbeats 4000000 in
theorem least73 (H : List AB) (hH : H.all (AB.low H.length) = true) (a b bid : Nat) (l : List Dy) (f : Nat → Int) (q : Int) (i : Nat) (ha : H[a]? = some (.cells [.ptr bid 0])) (hb : H[b]? = some (.cells [.d (.int .i64 i)])) (hbid : H[bid]? = some (.cells (benchC l f q)))
    (hi : i < 9) (ls : List (Nat × Nat)) (h0 : ls ≠ []) (hls : ∀ p ∈ ls, p.1 < 21 ∧ p.2 < 21) : ACall Try.prog 73 [sps ls, .c (.fn (.func 74) [.ptr a 0, .ptr b 0])] H (Go.Abs.one (.agg (sC (leastS (fun p => f (cix i p.1 p.2)) ls))) H) := by
  have la := (List.getElem?_eq_some_iff.1 ha).1
  have lb := (List.getElem?_eq_some_iff.1 hb).1
  have lc := (List.getElem?_eq_some_iff.1 hbid).1
  have hpos : 0 < ls.length := List.length_pos_iff.2 h0
  obtain ⟨x0, hx0⟩ := get_of_lt hpos
  have hhd : ls.headD (0, 0) = x0 := by
    cases ls with
    | nil => exact absurd rfl h0
    | cons y ys => simp at hx0 ⊢; exact hx0
  have hpos' : (0 : Int) < ls.length := by omega
  let c : Nat × Nat → Int := fun p => f (cix i p.1 p.2)
  let bs : Nat → Nat × Nat := fun j => (ls.take j).foldl (stepL c) x0
  have hbs : ∀ j, bs j ∈ ls := fun j => by
    obtain ⟨h1, _⟩ := foldl_step c (ls.take j) x0
    rcases h1 with h1 | h1
    · show (ls.take j).foldl (stepL c) x0 ∈ ls
      rw [h1]; exact List.mem_of_getElem? hx0
    · exact List.mem_of_mem_take h1
  have hend : bs ls.length = leastS c ls := by
    show (ls.take ls.length).foldl (stepL c) x0 = ls.foldl (stepL c) (ls.headD (0, 0))
    rw [List.take_length, hhd]
  refine acall_atE (bad := []) (kp := kp73) (X := tx) (nt := 27) (rs := [.cell 4 69]) Try.func73 rfl rfl rfl rfl mo (by kernel_rfl) rfl hH (fun hf => ?_)
  have hfit := fit_sps (hf (sps ls) (by simp))
  simp (maxSteps := 2000000) only [go_sem, reduceIte, Nat.reduceEqDiff, Nat.reduceAdd, Int.reduceLE, Int.reduceToNat, lk73, lk74, ap0, apk, st0, stk, List.append_assoc, List.cons_append, List.nil_append, List.length_append, List.length_cons, List.length_nil, Nat.zero_add, Nat.reduceAdd, Nat.add_assoc, sps, hpos', hx0, sD]
  refine goE_loop (bad := []) (kp := kp73) (fun j : Nat => { slots := [(1, .c (.fn (.func 74) [.ptr a 0, .ptr b 0])), (4, .c (.ptr H.length 0)), (5, .c (.ptr (H.length + 1) 0)), (11, sps ls), (12, I ls.length), (13, I j)], heap := H ++ [.cells [.d (.int .i64 0), .d (.int .i64 0)], .cells (sC (bs j))], marks := [] }) (fun j => j ≤ ls.length) (fun j => ls.length - j) 0 mo (by kernel_rfl) ?_ (Nat.zero_le _) ?_
  · refine ent_weaken [] (by simp [bs, sC]) rfl (by simp [Tx.cx]) (all_low_app hH (by simp) (by simp [AB.low, C.lowL, C.low, sC])) rfl ?_
    have q1 : H.length < H.length + 2 := by omega
    have q2 : H.length + 1 < H.length + 2 := by omega
    have q3 : a < H.length + 2 := by omega
    have q4 : b < H.length + 2 := by omega
    simp (maxSteps := 2000000) only [go_sem, reduceIte, Nat.reduceEqDiff, Nat.reduceAdd, lk73, lk74, ap0, apk, st0, stk, List.append_assoc, List.cons_append, List.nil_append, List.length_append, List.length_cons, List.length_nil, Nat.zero_add, Nat.reduceAdd, Nat.add_assoc, sps, q1, q2, q3, q4]
    all_goals first | exact .refl _ | exact ⟨.refl _, .refl _⟩ | exact ⟨.refl _, .refl _, .refl _⟩ | exact ⟨.refl _, _, rfl⟩ | exact ⟨_, rfl⟩ | exact ⟨.refl _, [], by simp⟩ | exact ⟨[], by simp⟩
  rintro j hj
  simp (maxSteps := 2000000) only [go_sem, reduceIte, Nat.reduceEqDiff, Nat.reduceAdd, lk73, lk74, ap0, apk, st0, stk, List.append_assoc, List.cons_append, List.nil_append, List.length_append, List.length_cons, List.length_nil, Nat.zero_add, Nat.reduceAdd, Nat.add_assoc, sps, sC]
  by_cases hlt : j < ls.length
  · have hlt' : (j : Int) < ls.length := by omega
    obtain ⟨x, hx⟩ := get_of_lt hlt
    have hm := List.mem_of_getElem? hx
    have hj1 : bs (j + 1) = stepL c (bs j) x := by
      show (ls.take (j + 1)).foldl (stepL c) x0 = _
      rw [take_succ_eq hx, List.foldl_append]; rfl
    have K := fun (p : Nat × Nat) (hp : p ∈ ls) (T : List AB) => cost74 (H ++ T) a b bid l f q i (by rw [List.getElem?_append_left la]; exact ha) (by rw [List.getElem?_append_left lb]; exact hb) (by rw [List.getElem?_append_left lc]; exact hbid) p hi (hls p hp).1 (hls p hp).2
    have K1 := K x hm [.cells [.d (.int .i64 0), .d (.int .i64 0)], .cells (sC (bs j)), .cells (sC x)]
    have K2 := K (bs j) (hbs j) [.cells [.d (.int .i64 0), .d (.int .i64 0)], .cells (sC (bs j)), .cells (sC x)]
    unfold sC at K1 K2
    have w7 : wr .i64 ((j : Int) + 1) = ((j + 1 : Nat) : Int) := wr_succ hlt hfit
    have m1 : ls.length - (j + 1) < ls.length - j := by omega
    simp (maxSteps := 2000000) only [go_sem, reduceIte, Nat.reduceEqDiff, Nat.reduceAdd, lk73, lk74, ap0, apk, st0, stk, List.append_assoc, List.cons_append, List.nil_append, List.length_append, List.length_cons, List.length_nil, Nat.zero_add, Nat.reduceAdd, Nat.add_assoc, hlt', hx, nn, sD]
    refine dops_at (K1) rfl rfl (by first | exact wk_refls _ | (repeat constructor)) (by kernel_rfl) ?_
    simp (maxSteps := 2000000) only [go_sem, reduceIte, Nat.reduceEqDiff, Nat.reduceAdd, lk73, lk74, ap0, apk, st0, stk, List.append_assoc, List.cons_append, List.nil_append, List.length_append, List.length_cons, List.length_nil, Nat.zero_add, Nat.reduceAdd, Nat.add_assoc]
    refine dops_at (K2) rfl rfl (by first | exact wk_refls _ | (repeat constructor)) (by kernel_rfl) ?_
    have q1 : H.length < H.length + 2 := by omega
    have q2 : H.length + 1 < H.length + 2 := by omega
    have q3 : a < H.length + 2 := by omega
    have q4 : b < H.length + 2 := by omega
    by_cases hc : f (cix i x.1 x.2) < f (cix i (bs j).1 (bs j).2)
    · have hj2 : bs (j + 1) = x := by rw [hj1]; exact if_pos hc
      simp (maxSteps := 2000000) only [go_sem, reduceIte, Nat.reduceEqDiff, Nat.reduceAdd, lk73, lk74, ap0, apk, st0, stk, List.append_assoc, List.cons_append, List.nil_append, List.length_append, List.length_cons, List.length_nil, Nat.zero_add, Nat.reduceAdd, Nat.add_assoc, hc, w7]
      refine ⟨j + 1, hlt, m1, ?_⟩
      refine ent_weaken [.cells (sC x)] (by rw [hj2]; simp [sC]) rfl (by simp [Tx.cx]) (all_low_app hH (by simp) (by simp [AB.low, C.lowL, C.low, sC])) rfl ?_
      simp (maxSteps := 2000000) only [go_sem, reduceIte, Nat.reduceEqDiff, Nat.reduceAdd, lk73, lk74, ap0, apk, st0, stk, List.append_assoc, List.cons_append, List.nil_append, List.length_append, List.length_cons, List.length_nil, Nat.zero_add, Nat.reduceAdd, Nat.add_assoc, sps, q1, q2, q3, q4]
      all_goals first | exact .refl _ | exact ⟨.refl _, .refl _⟩ | exact ⟨.refl _, .refl _, .refl _⟩ | exact ⟨.refl _, _, rfl⟩ | exact ⟨_, rfl⟩ | exact ⟨.refl _, [], by simp⟩ | exact ⟨[], by simp⟩
    · have hj2 : bs (j + 1) = bs j := by rw [hj1]; exact if_neg hc
      simp (maxSteps := 2000000) only [go_sem, reduceIte, Nat.reduceEqDiff, Nat.reduceAdd, lk73, lk74, ap0, apk, st0, stk, List.append_assoc, List.cons_append, List.nil_append, List.length_append, List.length_cons, List.length_nil, Nat.zero_add, Nat.reduceAdd, Nat.add_assoc, hc, w7]
      refine ⟨j + 1, hlt, m1, ?_⟩
      refine ent_weaken [.cells (sC x)] (by rw [hj2]; simp [sC]) rfl (by simp [Tx.cx]) (all_low_app hH (by simp) (by simp [AB.low, C.lowL, C.low, sC])) rfl ?_
      simp (maxSteps := 2000000) only [go_sem, reduceIte, Nat.reduceEqDiff, Nat.reduceAdd, lk73, lk74, ap0, apk, st0, stk, List.append_assoc, List.cons_append, List.nil_append, List.length_append, List.length_cons, List.length_nil, Nat.zero_add, Nat.reduceAdd, Nat.add_assoc, sps, q1, q2, q3, q4]
      all_goals first | exact .refl _ | exact ⟨.refl _, .refl _⟩ | exact ⟨.refl _, .refl _, .refl _⟩ | exact ⟨.refl _, _, rfl⟩ | exact ⟨_, rfl⟩ | exact ⟨.refl _, [], by simp⟩ | exact ⟨[], by simp⟩
  · have hlt' : ¬ (j : Int) < ls.length := by omega
    have e : j = ls.length := by omega
    simp (maxSteps := 2000000) only [go_sem, reduceIte, Nat.reduceEqDiff, Nat.reduceAdd, lk73, lk74, ap0, apk, st0, stk, List.append_assoc, List.cons_append, List.nil_append, List.length_append, List.length_cons, List.length_nil, Nat.zero_add, Nat.reduceAdd, Nat.add_assoc, hlt']
    subst e
    rw [hend]
    exact ⟨⟨.refl _, .refl _⟩, _, rfl⟩
end Go.Proofs.Ytkbnmanfoejoiaa
/- Dyes: best. -/
set_option linter.unusedSimpArgs false
set_option linter.unusedVariables false
set_option maxRecDepth 100000
namespace Go.Proofs.Ytkbnmanfoejoiaa
open Go Go.Abs Go.Proofs
def kp53 : List (Nat × List Nat) := [(0, [2, 3, 4]), (1, [2, 3, 4, 6]), (2, [2, 3, 4, 6, 7]), (3, [2, 3, 4, 6, 7, 8]), (4, [2, 3, 4, 6, 7, 8, 18]), (5, [2, 3, 6, 7, 8, 9]), (6, [7, 9, 35]), (7, []), (8, [2, 3, 4, 6, 7, 8, 40]), (9, [2, 3, 6, 7, 8, 10]), (10, [7, 10, 57]), (11, []), (12, [2, 4, 6, 11]), (13, [4, 5])]
theorem lk53 : lookK kp53 0 = some [2, 3, 4] ∧ lookK kp53 1 = some [2, 3, 4, 6] ∧ lookK kp53 2 = some [2, 3, 4, 6, 7] ∧ lookK kp53 3 = some [2, 3, 4, 6, 7, 8] ∧ lookK kp53 4 = some [2, 3, 4, 6, 7, 8, 18] ∧ lookK kp53 5 = some [2, 3, 6, 7, 8, 9] ∧ lookK kp53 6 = some [7, 9, 35] ∧ lookK kp53 7 = some [] ∧ lookK kp53 8 = some [2, 3, 4, 6, 7, 8, 40] ∧ lookK kp53 9 = some [2, 3, 6, 7, 8, 10] ∧ lookK kp53 10 = some [7, 10, 57] ∧ lookK kp53 11 = some [] ∧ lookK kp53 12 = some [2, 4, 6, 11] ∧ lookK kp53 13 = some [4, 5] := ⟨rfl, rfl, rfl, rfl, rfl, rfl, rfl, rfl, rfl, rfl, rfl, rfl, rfl, rfl⟩

theorem eqCs_map (f g : Nat → Int) : ∀ L : List Nat, eqCs (L.map fun k => C.d (.int .i64 (f k))) (L.map fun k => C.d (.int .i64 (g k))) = some (L.all fun k => decide (f k = g k))
  | [] => rfl
  | a :: L => by simp only [List.map_cons, eqCs, eqC, if_true, eqCs_map f g L, List.all_cons]
def rowZ (g : Nat → Int) : Bool := (List.range 21).all fun j => decide (g j = 0)
theorem eq_row (g : Nat → Int) : eqCs (numsC 21 g) (numsC 21 fun _ => 0) = some (rowZ g) := eqCs_map _ _ _
def spotOf (k : Nat) : Nat × Nat := (k / 21, k % 21)
def inS (v : Wn) (p : Nat × Nat) : Bool := inB p.1 v.x && inB p.2 v.y
def p1 (v : Wn) (f : Nat → Int) (n : Nat) (p : Nat × Nat) : Bool := inS v p && !rowZ (fun j => f (n * 441 + p.1 * 21 + j))
def p2 (v : Wn) (f : Nat → Int) (n : Nat) (p : Nat × Nat) : Bool := inS v p && rowZ (fun j => f (n * 441 + p.1 * 21 + j))
def spotsL (P : Nat × Nat → Bool) (k : Nat) : List (Nat × Nat) := ((List.range k).map spotOf).filter P
theorem spotsL_succ (P : Nat × Nat → Bool) (k : Nat) : spotsL P (k + 1) = if P (spotOf k) then spotsL P k ++ [spotOf k] else spotsL P k := by
  unfold spotsL
  rw [List.range_succ, List.map_append, List.filter_append]
  by_cases h : P (spotOf k) = true
  · rw [if_pos h]; simp [h]
  · rw [if_neg h]; simp [h]
theorem spotsL_len (P : Nat × Nat → Bool) (k : Nat) : (spotsL P k).length ≤ k := by
  unfold spotsL
  exact Nat.le_trans (List.length_filter_le _ _) (by simp)
theorem spotOf_at {x y : Nat} (hy : y < 21) : spotOf (x * 21 + y) = (x, y) := by
  unfold spotOf
  rw [Prod.mk.injEq]; omega
theorem spotsL_mem {P : Nat × Nat → Bool} {p : Nat × Nat} : p ∈ spotsL P 441 ↔ (p.1 < 21 ∧ p.2 < 21) ∧ P p = true := by
  unfold spotsL
  rw [List.mem_filter, List.mem_map]
  constructor
  · rintro ⟨⟨k, hk, rfl⟩, h2⟩
    have := List.mem_range.1 hk
    refine ⟨?_, h2⟩
    unfold spotOf; simp only; omega
  · rintro ⟨⟨h1, h2⟩, h3⟩
    exact ⟨⟨p.1 * 21 + p.2, List.mem_range.2 (by omega), spotOf_at h2⟩, h3⟩
def allS (v : Wn) (f : Nat → Int) (n k : Nat) : List (Nat × Nat) := spotsL (p1 v f n) 441 ++ spotsL (p2 v f n) k
theorem allS_mem {v : Wn} {f : Nat → Int} {n : Nat} {p : Nat × Nat} : p ∈ allS v f n 441 ↔ (p.1 < 21 ∧ p.2 < 21) ∧ inS v p = true := by
  unfold allS
  rw [List.mem_append, spotsL_mem, spotsL_mem]
  unfold p1 p2
  cases inS v p <;> cases rowZ (fun j => f (n * 441 + p.1 * 21 + j)) <;> simp
theorem allS_ne {v : Wn} (hv : OkW v) (f : Nat → Int) (n : Nat) : allS v f n 441 ≠ [] := fun e => by
  have h1 := hv.x0
  have h2 := hv.x1
  have h3 := hv.x2
  have h4 := hv.y0
  have h5 := hv.y1
  have h6 := hv.y2
  have : (v.x.lo.toNat, v.y.lo.toNat) ∈ allS v f n 441 := allS_mem.2 ⟨⟨by show v.x.lo.toNat < 21; omega, by show v.y.lo.toNat < 21; omega⟩, by simp [inS, inB]; omega⟩
  rw [e] at this; simp at this
/-- The spot that costs least. -/
def bestS (v : Wn) (f : Nat → Int) (n : Nat) : Nat × Nat := leastS (fun p => f (cix n p.1 p.2)) (allS v f n 441)
def bestC (v : Wn) (f : Nat → Int) (n : Nat) : Int := f (cix n (bestS v f n).1 (bestS v f n).2)
def slF : List (Nat × V) := [(2, .c (.ptr 2 0)), (3, .c (.ptr 3 0)), (4, .c (.ptr 4 0)), (6, .c (.ptr 5 0)), (7, .c (.ptr 6 0)), (8, .c (.ptr 7 0)), (18, .c (.fn (.func 77) []))]
def slG : List (Nat × V) := [(2, .c (.ptr 2 0)), (3, .c (.ptr 3 0)), (4, .c (.ptr 4 0)), (6, .c (.ptr 5 0)), (7, .c (.ptr 6 0)), (8, .c (.ptr 7 0)), (40, .c (.fn (.func 77) []))]
def HF (w v : Wn) (l : List Dy) (f : Nat → Int) (q : Int) (sl : List (Nat × V)) (pt : Nat) (A Bd : Code) (st : LoopState) (ls : List (Nat × Nat)) : List AB :=
  [.cells (wnC w), .cells (benchC l f q), .cells [.ptr 1 0], .cells (wnC v), .cells (spC 0 0), .cells [.d (.int .i64 l.length)], .cells [.own 8 (ls.map sD)], .cells (numsC 21 fun _ => 0), .grow ls.length 2, .df, .lp { state := st, pend := none, slots := sl, nt := 72, ps := #[pt], assign := A, body := Bd, D := 9 }]
theorem nums_low (m n : Nat) (f : Nat → Int) : C.lowL m (numsC n f) = true := by
  have e : numsC n f = ((List.range n).map (fun k => D.int .i64 (f k))).map C.d := by simp [numsC, List.map_map, Function.comp_def]
  rw [e, lowL_d]
theorem HF_low (w v : Wn) (l : List Dy) (f : Nat → Int) (q : Int) (sl : List (Nat × V)) (pt : Nat) (A Bd : Code) (st : LoopState) (ls : List (Nat × Nat)) (hs : sl.all (fun p => (getS sl p.1).low 11) = true) : (HF w v l f q sl pt A Bd st ls).all (AB.low 11) = true := by
  simp only [HF, List.all_cons, List.all_nil, AB.low, bench_low, wn_low, nums_low, Bool.and_true, Bool.true_and, hs]
  rfl
theorem set_all {α : Type} : ∀ (v l : List α) (a : List α), v.length = l.length → setMany (a ++ l) a.length v = a ++ v
  | [], [], a, _ => by simp [setMany]
  | x :: v, y :: l, a, h => by
    rw [setMany, List.set_append_right _ _ (Nat.le_refl _), Nat.sub_self, List.set_cons_zero]
    have := set_all v l (a ++ [x]) (by simpa using h)
    simpa using this
theorem set_row0 : setMany (numsC 21 fun _ => 0) 0 (numsC 21 fun _ => 0) = numsC 21 fun _ => 0 := set_all _ _ [] rfl
theorem take_row0 : List.take 21 (numsC 21 fun _ => 0) = numsC 21 fun _ => 0 := List.take_of_length_le (by rw [numsC_len]; decide)
theorem mx_append (a : List (Nat × Nat)) (b : Nat × Nat) : (a ++ [b]).map sD = a.map sD ++ [[.int .i64 b.1, .int .i64 b.2]] := by simp [sD]
set_option maxHeartbeats 4000000 in
theorem best53 (l : List Dy) (w v : Wn) (f : Nat → Int) (q : Int) (hl : OkL l) (hv : OkW v) : ACall Try.prog 53 [.c (.ptr 1 0), wnV v] [.cells (wnC w), .cells (benchC l f q)] (Go.Abs.one (.tup [.agg (sC (bestS v f l.length)), I (bestC v f l.length)]) [.cells (wnC w), .cells (benchC l f q)]) := by
  refine ACall.drop2 (Nat.le_refl _) rfl (by simp [AB.low, bench_low, wnC, C.lowL, C.low]) ?_
  refine acall_fitE (bad := [13]) (kp := kp53) (X := tx) (nt := 72) (rs := [.cell 4 69, .tmp 5]) Try.func53 rfl rfl rfl rfl mo (by kernel_rfl) (fun hf => ?_)
  have h8 := hl.n8
  have n9 : (l.length : Int) < 9 := by omega
  have nl : ¬ (l.length : Int) < 0 := by omega
  simp (maxSteps := 2000000) only [go_sem, reduceIte, Nat.reduceEqDiff, Nat.reduceAdd, Nat.reduceLeDiff, Nat.reduceBEq, lk53, bench_len, bench_dyes, wnV, wnC, zero_nums, numsC_len, set_row0]
  refine aops_pure' (spots67) rfl rfl (by first | exact wk_refls _ | (repeat constructor)) ?_
  simp (maxSteps := 2000000) only [go_sem, reduceIte, Nat.reduceEqDiff, lk53]
  have hW := fun (x y : Nat) => in44 (x : Int) (y : Int) v
  unfold wnV wnC spV spC at hW
  have hrow := fun (x : Nat) (hx : x < 21) => bench_row (l := l) (f := f) (q := q) (k := l.length * 441 + x * 21) (m := 21) (by omega)
  refine AWP.ent (s' := { slots := slF, heap := [.cells (wnC w), .cells (benchC l f q), .cells [.ptr 1 0], .cells (wnC v), .cells (spC 0 0), .cells [.d (.int .i64 l.length)], .cells [.own 8 []], .cells (numsC 21 fun _ => 0), .grow 0 2], marks := [] }) (Ent.trans (ent_own_cell 6 0 2 rfl rfl) ?_) ?_
  · refine ent_weaken [] (by simp [wnC, spC]) rfl (show 2 ≤ 9 by decide) (by simp [AB.low, bench_low, nums_low, wnC, C.lowL, C.low, spC]) rfl ?_
    simp (maxSteps := 2000000) only [go_sem, reduceIte, Nat.reduceEqDiff, Nat.reduceAdd, Nat.reduceLT, lk53, slF]
    all_goals first | exact .refl _ | exact ⟨.refl _, .refl _⟩ | exact ⟨.refl _, .refl _, .refl _⟩ | exact ⟨.refl _, _, rfl⟩ | exact ⟨_, rfl⟩ | exact ⟨.refl _, [], by simp⟩ | exact ⟨[], by simp⟩
  refine code_gen (fun A Bd hA hB => ?_)
  refine awp_rangeFuncH (gf := 77) (caps := []) rfl rfl (show 2 ≤ 9 by decide) rfl ?_
  refine ACall.mono (spots77 10 (fun k => HF w v l f q slF 19 A Bd .ready (spotsL (p1 v f l.length) k)) (fun k hk => ⟨HF_low _ _ _ _ _ _ _ _ _ _ _ rfl, Nat.le_refl _, (show 10 < 11 by decide)⟩) (fun x y hx hy => ?_)) ?_
  · rw [spotsL_succ, spotOf_at hy]
    have hsl := spotsL_len (p1 v f l.length) (x * 21 + y)
    have hp : p1 v f l.length (x, y) = ((inB x v.x && inB y v.y) && !rowZ (fun j => f (l.length * 441 + x * 21 + j))) := rfl
    generalize spotsL (p1 v f l.length) (x * 21 + y) = ls at *
    rw [hp]
    have hrx := hrow x hx
    have hwx := hW x y
    have x9 : (x : Int) < 21 := by omega
    have c1 : decide (1 + l.length * 441 + x * 21 + 21 ≤ 3971) = true := by simp; omega
    have c1' : decide (1 + l.length * 441 + x * 21 ≤ 3950) = true := by simp; omega
    have c2 : ls.length ≤ 140737488355327 := by omega
    have c3 : ls.length + 1 ≤ 140737488355328 := by omega
    rw [← Nat.add_assoc] at hrx
    have hz := eq_row (fun j => f (l.length * 441 + x * 21 + j))
    generalize (inB (x : Int) v.x && inB (y : Int) v.y) = bi at *
    generalize rowZ (fun j => f (l.length * 441 + x * 21 + j)) = bz at *
    cases bi with
    | false =>
      rw [Bool.false_and]
      rw [if_neg (by simp)]
      refine yc_ofC (bad := [13]) (kp := kp53) (X := tx) mo rfl hA hB rfl rfl (by kernel_rfl) (by kernel_rfl) (fun lp => ?_)
      simp (maxSteps := 2000000) only [go_sem, reduceIte, Nat.reduceEqDiff, Nat.reduceAdd, Nat.reduceBEq, lk53, putPs, HF, slF, spV, spC]
      refine ⟨_, rfl, ?_⟩
      simp (maxSteps := 2000000) only [go_sem, reduceIte, Nat.reduceEqDiff, Nat.reduceAdd, lk53, putPs, HF, slF, spV, spC, wnC, sC]
      refine dops_pure' (hwx) rfl rfl (by first | exact wk_refls _ | (repeat constructor)) (by kernel_rfl) ?_
      simp (maxSteps := 2000000) only [go_sem, reduceIte, Nat.reduceEqDiff, Nat.reduceAdd, lk53]
      refine ⟨{ slots := [], heap := HF w v l f q slF 19 A Bd .busy (ls), marks := [] }, ent_weaken [.cells (sC (x, y))] (by simp [HF, slF, sC, sD, spC, wnC]) rfl (Nat.le_refl _) (HF_low _ _ _ _ _ _ _ _ _ _ _ rfl) rfl trivial, _, rfl, rfl, rfl⟩
    | true =>
      cases bz with
      | false =>
        simp only [Bool.and_true, Bool.not_false, Bool.not_true, Bool.and_false, Bool.true_and, Bool.false_eq_true, if_true, if_false]
        refine yc_ofC (bad := [13]) (kp := kp53) (X := tx) mo rfl hA hB rfl rfl (by kernel_rfl) (by kernel_rfl) (fun lp => ?_)
        simp (maxSteps := 2000000) only [go_sem, reduceIte, Nat.reduceEqDiff, Nat.reduceAdd, Nat.reduceBEq, lk53, putPs, HF, slF, spV, spC]
        refine ⟨_, rfl, ?_⟩
        simp (maxSteps := 2000000) only [go_sem, reduceIte, Nat.reduceEqDiff, Nat.reduceAdd, lk53, putPs, HF, slF, spV, spC, wnC, sC]
        refine dops_pure' (hwx) rfl rfl (by first | exact wk_refls _ | (repeat constructor)) (by kernel_rfl) ?_
        simp (maxSteps := 2000000) only [go_sem, reduceIte, Nat.reduceEqDiff, Nat.reduceAdd, Nat.reduceLT, Nat.reduceLeDiff, Nat.reduceBEq, Nat.reduceMul, lk53, nn, n9, x9, bench_len, hrx, hz, c1, c1', take_row0, numsC_len]
        refine ⟨by simp [sD]; omega, ?_⟩
        refine ⟨{ slots := [], heap := HF w v l f q slF 19 A Bd .busy (ls ++ [(x, y)]), marks := [] }, ent_weaken [.cells (sC (x, y))] (by simp [HF, slF, sC, sD, spC, wnC]) rfl (Nat.le_refl _) (HF_low _ _ _ _ _ _ _ _ _ _ _ rfl) rfl trivial, _, rfl, rfl, rfl⟩
      | true =>
        simp only [Bool.and_true, Bool.not_false, Bool.not_true, Bool.and_false, Bool.true_and, Bool.false_eq_true, if_true, if_false]
        refine yc_ofC (bad := [13]) (kp := kp53) (X := tx) mo rfl hA hB rfl rfl (by kernel_rfl) (by kernel_rfl) (fun lp => ?_)
        simp (maxSteps := 2000000) only [go_sem, reduceIte, Nat.reduceEqDiff, Nat.reduceAdd, Nat.reduceBEq, lk53, putPs, HF, slF, spV, spC]
        refine ⟨_, rfl, ?_⟩
        simp (maxSteps := 2000000) only [go_sem, reduceIte, Nat.reduceEqDiff, Nat.reduceAdd, lk53, putPs, HF, slF, spV, spC, wnC, sC]
        refine dops_pure' (hwx) rfl rfl (by first | exact wk_refls _ | (repeat constructor)) (by kernel_rfl) ?_
        simp (maxSteps := 2000000) only [go_sem, reduceIte, Nat.reduceEqDiff, Nat.reduceAdd, Nat.reduceLeDiff, Nat.reduceBEq, lk53, nn, n9, x9, bench_len, hrx, hz, c1, c1', take_row0, numsC_len]
        refine ⟨{ slots := [], heap := HF w v l f q slF 19 A Bd .busy (ls), marks := [] }, ent_weaken [.cells (sC (x, y))] (by simp [HF, slF, sC, sD, spC, wnC]) rfl (Nat.le_refl _) (HF_low _ _ _ _ _ _ _ _ _ _ _ rfl) rfl trivial, _, rfl, rfl, rfl⟩
  · rintro _ H2 rfl
    refine ⟨fun h => (by cases h), rfl, rfl, ?_⟩
    simp (maxSteps := 2000000) only [go_sem, reduceIte, Nat.reduceEqDiff, Nat.reduceAdd, Nat.reduceBEq, lk53, HF, slF]
    refine aops_pure' (spots67) rfl rfl (by first | exact wk_refls _ | (repeat constructor)) ?_
    simp (maxSteps := 2000000) only [go_sem, reduceIte, Nat.reduceEqDiff, lk53]
    have e0 : spotsL (p1 v f l.length) 441 = allS v f l.length 0 := by simp [allS, spotsL]
    rw [e0]
    refine AWP.ent (s' := { slots := slG, heap := [.cells (wnC w), .cells (benchC l f q), .cells [.ptr 1 0], .cells (wnC v), .cells (spC 0 0), .cells [.d (.int .i64 l.length)], .cells [.own 8 ((allS v f l.length 0).map sD)], .cells (numsC 21 fun _ => 0), .grow (allS v f l.length 0).length 2], marks := [] }) ?_ ?_
    · refine ent_weaken [.gone, .lp { state := .exhausted, pend := none, slots := slF, nt := 72, ps := #[19], assign := A, body := Bd, D := 9 }] rfl rfl (show 2 ≤ 9 by decide) (by simp [AB.low, bench_low, nums_low, wnC, C.lowL, C.low, spC]) rfl ?_
      simp (maxSteps := 2000000) only [go_sem, reduceIte, Nat.reduceEqDiff, Nat.reduceAdd, Nat.reduceLT, lk53, slG]
      all_goals first | exact .refl _ | exact ⟨.refl _, .refl _⟩ | exact ⟨.refl _, .refl _, .refl _⟩ | exact ⟨.refl _, _, rfl⟩ | exact ⟨_, rfl⟩ | exact ⟨.refl _, [], by simp⟩ | exact ⟨[], by simp⟩
    refine code_gen (fun A2 Bd2 hA2 hB2 => ?_)
    refine awp_rangeFuncH (gf := 77) (caps := []) rfl rfl (show 2 ≤ 9 by decide) rfl ?_
    refine ACall.mono (spots77 10 (fun k => HF w v l f q slG 41 A2 Bd2 .ready (allS v f l.length k)) (fun k hk => ⟨HF_low _ _ _ _ _ _ _ _ _ _ _ rfl, Nat.le_refl _, (show 10 < 11 by decide)⟩) (fun x y hx hy => ?_)) ?_
    · unfold allS
      have hsl0 := spotsL_len (p1 v f l.length) 441
      generalize spotsL (p1 v f l.length) 441 = L1 at *
      rw [spotsL_succ, spotOf_at hy]
      have hsl := spotsL_len (p2 v f l.length) (x * 21 + y)
      have hp : p2 v f l.length (x, y) = ((inB x v.x && inB y v.y) && rowZ (fun j => f (l.length * 441 + x * 21 + j))) := rfl
      generalize hlse : spotsL (p2 v f l.length) (x * 21 + y) = ls2 at *
      rw [show L1 ++ (if p2 v f l.length (x, y) = true then ls2 ++ [(x, y)] else ls2) = if p2 v f l.length (x, y) = true then (L1 ++ ls2) ++ [(x, y)] else L1 ++ ls2 by split <;> simp]
      have hlen : (L1 ++ ls2).length ≤ 882 := by rw [List.length_append]; omega
      generalize L1 ++ ls2 = ls at *
      rw [hp]
      have hrx := hrow x hx
      have hwx := hW x y
      have x9 : (x : Int) < 21 := by omega
      have c1 : decide (1 + l.length * 441 + x * 21 + 21 ≤ 3971) = true := by simp; omega
      have c1' : decide (1 + l.length * 441 + x * 21 ≤ 3950) = true := by simp; omega
      have c2 : ls.length ≤ 140737488355327 := by omega
      have c3 : ls.length + 1 ≤ 140737488355328 := by omega
      rw [← Nat.add_assoc] at hrx
      have hz := eq_row (fun j => f (l.length * 441 + x * 21 + j))
      generalize (inB (x : Int) v.x && inB (y : Int) v.y) = bi at *
      generalize rowZ (fun j => f (l.length * 441 + x * 21 + j)) = bz at *
      cases bi with
      | false =>
        rw [Bool.false_and]
        rw [if_neg (by simp)]
        refine yc_ofC (bad := [13]) (kp := kp53) (X := tx) mo rfl hA2 hB2 rfl rfl (by kernel_rfl) (by kernel_rfl) (fun lp => ?_)
        simp (maxSteps := 2000000) only [go_sem, reduceIte, Nat.reduceEqDiff, Nat.reduceAdd, Nat.reduceBEq, lk53, putPs, HF, slG, spV, spC]
        refine ⟨_, rfl, ?_⟩
        simp (maxSteps := 2000000) only [go_sem, reduceIte, Nat.reduceEqDiff, Nat.reduceAdd, lk53, putPs, HF, slG, spV, spC, wnC, sC]
        refine dops_pure' (hwx) rfl rfl (by first | exact wk_refls _ | (repeat constructor)) (by kernel_rfl) ?_
        simp (maxSteps := 2000000) only [go_sem, reduceIte, Nat.reduceEqDiff, Nat.reduceAdd, lk53]
        refine ⟨{ slots := [], heap := HF w v l f q slG 41 A2 Bd2 .busy (ls), marks := [] }, ent_weaken [.cells (sC (x, y))] (by simp [HF, slG, sC, sD, spC, wnC]) rfl (Nat.le_refl _) (HF_low _ _ _ _ _ _ _ _ _ _ _ rfl) rfl trivial, _, rfl, rfl, rfl⟩
      | true =>
        cases bz with
        | false =>
          simp only [Bool.and_true, Bool.not_false, Bool.not_true, Bool.and_false, Bool.true_and, Bool.false_eq_true, if_true, if_false]
          refine yc_ofC (bad := [13]) (kp := kp53) (X := tx) mo rfl hA2 hB2 rfl rfl (by kernel_rfl) (by kernel_rfl) (fun lp => ?_)
          simp (maxSteps := 2000000) only [go_sem, reduceIte, Nat.reduceEqDiff, Nat.reduceAdd, Nat.reduceBEq, lk53, putPs, HF, slG, spV, spC]
          refine ⟨_, rfl, ?_⟩
          simp (maxSteps := 2000000) only [go_sem, reduceIte, Nat.reduceEqDiff, Nat.reduceAdd, lk53, putPs, HF, slG, spV, spC, wnC, sC]
          refine dops_pure' (hwx) rfl rfl (by first | exact wk_refls _ | (repeat constructor)) (by kernel_rfl) ?_
          simp (maxSteps := 2000000) only [go_sem, reduceIte, Nat.reduceEqDiff, Nat.reduceAdd, Nat.reduceLeDiff, Nat.reduceBEq, lk53, nn, n9, x9, bench_len, hrx, hz, c1, c1', take_row0, numsC_len]
          refine ⟨{ slots := [], heap := HF w v l f q slG 41 A2 Bd2 .busy (ls), marks := [] }, ent_weaken [.cells (sC (x, y))] (by simp [HF, slG, sC, sD, spC, wnC]) rfl (Nat.le_refl _) (HF_low _ _ _ _ _ _ _ _ _ _ _ rfl) rfl trivial, _, rfl, rfl, rfl⟩
        | true =>
          simp only [Bool.and_true, Bool.not_false, Bool.not_true, Bool.and_false, Bool.true_and, Bool.false_eq_true, if_true, if_false]
          refine yc_ofC (bad := [13]) (kp := kp53) (X := tx) mo rfl hA2 hB2 rfl rfl (by kernel_rfl) (by kernel_rfl) (fun lp => ?_)
          simp (maxSteps := 2000000) only [go_sem, reduceIte, Nat.reduceEqDiff, Nat.reduceAdd, Nat.reduceBEq, lk53, putPs, HF, slG, spV, spC]
          refine ⟨_, rfl, ?_⟩
          simp (maxSteps := 2000000) only [go_sem, reduceIte, Nat.reduceEqDiff, Nat.reduceAdd, lk53, putPs, HF, slG, spV, spC, wnC, sC]
          refine dops_pure' (hwx) rfl rfl (by first | exact wk_refls _ | (repeat constructor)) (by kernel_rfl) ?_
          simp (maxSteps := 2000000) only [go_sem, reduceIte, Nat.reduceEqDiff, Nat.reduceAdd, Nat.reduceLT, Nat.reduceLeDiff, Nat.reduceBEq, Nat.reduceMul, lk53, nn, n9, x9, bench_len, hrx, hz, c1, c1', take_row0, numsC_len]
          refine ⟨by simp [sD]; omega, ?_⟩
          refine ⟨{ slots := [], heap := HF w v l f q slG 41 A2 Bd2 .busy (ls ++ [(x, y)]), marks := [] }, ent_weaken [.cells (sC (x, y))] (by simp [HF, slG, sC, sD, spC, wnC]) rfl (Nat.le_refl _) (HF_low _ _ _ _ _ _ _ _ _ _ _ rfl) rfl trivial, _, rfl, rfl, rfl⟩
    · rintro _ H2 rfl
      refine ⟨fun h => (by cases h), rfl, rfl, ?_⟩
      simp (maxSteps := 2000000) only [go_sem, reduceIte, Nat.reduceEqDiff, Nat.reduceAdd, Nat.reduceLeDiff, Nat.reduceBEq, lk53, HF, slG]
      have h73 := least73 [.cells (wnC w), .cells (benchC l f q), .cells [.ptr 1 0], .cells (wnC v), .cells (spC 0 0), .cells [.d (.int .i64 l.length)], .cells [.own 8 ((allS v f l.length 441).map sD)], .cells (numsC 21 fun _ => 0), .grow (allS v f l.length 441).length 2, .gone, .lp { state := .exhausted, pend := none, slots := slG, nt := 72, ps := #[41], assign := A2, body := Bd2, D := 9 }] (by
        simp only [slG, List.all_cons, List.all_nil, AB.low, bench_low, nums_low, wn_low, Bool.and_true, Bool.true_and]
        rfl) 2 5 1 l f q l.length rfl rfl rfl (by omega) (allS v f l.length 441) (allS_ne hv f l.length) (fun p hp => (allS_mem.1 hp).1)
      have hb := (allS_mem.1 (leastS_spec (fun p => f (cix l.length p.1 p.2)) (allS_ne hv f l.length)).1).1
      have hB0 : leastS (fun p => f (cix l.length p.1 p.2)) (allS v f l.length 441) = bestS v f l.length := rfl
      rw [hB0] at h73 hb
      unfold bestC
      generalize bestS v f l.length = p at *
      have hc := cost68 [.cells (wnC w), .cells (benchC l f q), .cells [.ptr 1 0], .cells (wnC v), .cells (spC 0 0), .cells [.d (.int .i64 l.length)], .cells [.own 8 ((allS v f l.length 441).map sD)], .cells (numsC 21 fun _ => 0), .grow (allS v f l.length 441).length 2, .gone, .lp { state := .exhausted, pend := none, slots := slG, nt := 72, ps := #[41], assign := A2, body := Bd2, D := 9 }, .cells (sC p)] 1 (show 1 < 12 by decide) l.length p.1 p.2 (by omega) hb.1 hb.2
      have k1 := cix_lt (show l.length < 9 by omega) hb.1 hb.2
      have v1 := bench_at (l := l) (f := f) (q := q) k1
      generalize cix l.length p.1 p.2 = k at *
      have r1 : decide (1 + k + 1 ≤ 3971) = true := by simp; omega
      have r1' : decide (1 + k ≤ 3970) = true := by simp; omega
      simp (maxSteps := 2000000) only [go_sem, lk53, slG, spV, spC, sC, wnC] at h73 hc
      unfold sps at h73
      simp (maxSteps := 2000000) only [go_sem, lk53, wnC, spC]
      refine aops_at (h73) rfl rfl (by first | exact wk_refls _ | (repeat constructor)) ?_
      simp (maxSteps := 2000000) only [go_sem, reduceIte, Nat.reduceEqDiff, Nat.reduceAdd, lk53, sC]
      refine de_at (hc) rfl rfl (by first | exact wk_refls _ | (repeat constructor)) ?_
      simp (maxSteps := 2000000) only [go_sem, reduceIte, Nat.reduceEqDiff, Nat.reduceAdd, Nat.reduceLT, Nat.reduceLeDiff, lk53, v1, bench_len, r1, r1']
      refine ⟨pairsOk_ord (by kernel_rfl), ?_⟩
      exact ⟨_, rfl⟩
end Go.Proofs.Ytkbnmanfoejoiaa
