/- The law StreetTurned. -/
import Derived.Test.YteamgbndnfjoaaaDoorS20
import Derived.Test.YteamgbndnfjoaaaDoorS22
set_option linter.unusedSimpArgs false
set_option linter.unusedVariables false
set_option maxRecDepth 100000
namespace Go.Proofs.YteamgbndnfjoaaaDoor
open Go Go.Abs Go.Proofs
def kp10 : List (Nat × List Nat) := [(0, [1, 2]), (1, [1, 2, 22]), (2, [4]), (3, [1, 2, 5]), (4, [1, 2, 5, 6]), (5, [1, 2, 5, 6, 28]), (6, [1, 2, 5, 6]), (7, [1, 2, 5, 6, 7]), (8, [1, 2, 5, 6]), (9, [1, 2, 8]), (10, [1, 2, 8, 10, 11]), (11, [1, 2, 8, 10, 11, 13, 14]), (12, [2, 8, 10, 11, 13, 14, 15]), (13, [8, 10, 11, 13, 14, 15, 16, 17]), (14, [10, 11, 13, 14, 16, 17, 18, 19]), (15, [4])]
theorem lk10 : lookK kp10 0 = some [1, 2] ∧ lookK kp10 1 = some [1, 2, 22] ∧ lookK kp10 2 = some [4] ∧ lookK kp10 3 = some [1, 2, 5] ∧ lookK kp10 4 = some [1, 2, 5, 6] ∧ lookK kp10 5 = some [1, 2, 5, 6, 28] ∧ lookK kp10 6 = some [1, 2, 5, 6] ∧ lookK kp10 7 = some [1, 2, 5, 6, 7] ∧ lookK kp10 8 = some [1, 2, 5, 6] ∧ lookK kp10 9 = some [1, 2, 8] ∧ lookK kp10 10 = some [1, 2, 8, 10, 11] ∧ lookK kp10 11 = some [1, 2, 8, 10, 11, 13, 14] ∧ lookK kp10 12 = some [2, 8, 10, 11, 13, 14, 15] ∧ lookK kp10 13 = some [8, 10, 11, 13, 14, 15, 16, 17] ∧ lookK kp10 14 = some [10, 11, 13, 14, 16, 17, 18, 19] ∧ lookK kp10 15 = some [4] := ⟨rfl, rfl, rfl, rfl, rfl, rfl, rfl, rfl, rfl, rfl, rfl, rfl, rfl, rfl, rfl, rfl⟩

def turnP (L : Int) (p : Po) : Po := ⟨L - 1 - p.to, L - 1 - p.fr, p.co⟩
def turnR (r : Rd) : Rd := { r with ps := r.ps.map (turnP r.pl) }
theorem po_get {r : Rd} {i : Nat} {p : Po} (h : r.ps[i]? = some p) : po r i = p := by
  simp [po, h]
theorem po_turn {r : Rd} {m : Nat} (h : m < r.ps.length) : po (turnR r) m = turnP r.pl (po r m) := by
  obtain ⟨p, hp⟩ := get_of_lt h
  have h2 : (turnR r).ps[m]? = some (turnP r.pl p) := by simp [turnR, hp]
  rw [po_get hp, po_get h2]
theorem litB_turn {r : Rd} {p : Po} {k : Int} : litB (turnR r) (turnP r.pl p) (r.pl - 1 - k) = litB r p k := by
  obtain ⟨a, b, c⟩ := p
  unfold litB
  rw [decide_eq_decide]
  show (r.pl - 1 - b + r.di ≤ r.pl - 1 - k ∧ r.pl - 1 - k ≤ r.pl - 1 - a - r.di) ↔ (a + r.di ≤ k ∧ k ≤ b - r.di)
  omega
theorem litP_turn (r : Rd) (st : Nat → Int) (k : Int) : ∀ m : Nat, m ≤ r.ps.length → litP (turnR r) st m (r.pl - 1 - k) = litP r st m k
  | 0, _ => rfl
  | m + 1, h => by
    rw [litP, litP, litP_turn r st k m (by omega), po_turn (by omega), litB_turn]
theorem costP_turn (r : Rd) (st : Nat → Int) : ∀ m : Nat, m ≤ r.ps.length → costP (turnR r) st m = costP r st m
  | 0, _ => rfl
  | m + 1, h => by
    rw [costP, costP, costP_turn r st m (by omega), po_turn (by omega)]; rfl
theorem turn_len (r : Rd) : (turnR r).ps.length = r.ps.length := by simp [turnR]
theorem costL_turn (r : Rd) (l : List Int) : costL (turnR r) l = costL r l := by
  unfold costL
  rw [turn_len, costP_turn r _ _ (Nat.le_refl _)]
theorem holdsB_turn (r : Rd) (l : List Int) (h1 : 1 ≤ r.pl) : holdsB (turnR r) l = holdsB r l := by
  have e : (turnR r).pl = r.pl := rfl
  have e2 : (turnR r).de = r.de := rfl
  rw [Bool.eq_iff_iff, holdsB_iff, holdsB_iff, e, e2, turn_len]
  constructor
  · intro h p hp
    have := h (r.pl.toNat - 1 - p) (by omega)
    have e3 : ((r.pl.toNat - 1 - p : Nat) : Int) = r.pl - 1 - (p : Int) := by omega
    rwa [e3, litP_turn r _ _ _ (Nat.le_refl _)] at this
  · intro h p hp
    have := h (r.pl.toNat - 1 - p) (by omega)
    have e3 : ((r.pl.toNat - 1 - p : Nat) : Int) = r.pl - 1 - (p : Int) := by omega
    rw [e3] at this
    have e4 := litP_turn r (ind l) (r.pl - 1 - (p : Int)) _ (Nat.le_refl _)
    have e5 : r.pl - 1 - (r.pl - 1 - (p : Int)) = p := by omega
    rw [e5] at e4
    rwa [e4]
theorem okRoad_turn {r : Rd} (h : OkR r) : OkR (turnR r) where
  len := by rw [turn_len]; exact h.len
  p1 := h.p1
  p40 := h.p40
  d0 := h.d0
  d2 := h.d2
  i0 := h.i0
  i5 := h.i5
  ok := fun p hp => by
    obtain ⟨q, hq, rfl⟩ := List.mem_map.1 hp
    obtain ⟨a, b, c, d, e⟩ := h.ok q hq
    have e2 : (turnR r).pl = r.pl := rfl
    rw [e2]
    simp only [turnP]
    omega
theorem okHold_turn {r : Rd} {l : List Int} (h : OkR r) : okHold (turnR r) l = okHold r l := by
  have h1 := h.zero
  have h2 := (okRoad_turn h).zero
  have p1 := h.p1
  unfold okHold okCh
  rw [h1, h2, turn_len, holdsB_turn r l p1]
/-- Two streets whose choices hold alike and cost alike are told alike. -/
theorem best_same {r x : Rd} {c c' : List Int} {n n' : Int} {pr pr' : List Int} (hr : OkR r) (hx : OkR x) (hh : ∀ l, holdsB x l = holdsB r l) (hc : ∀ l, costL x l = costL r l)
    (a : Best r c n pr) (b : Best x c' n' pr') : n = n' := by
  have h1 := weak_ch hr a.prL a.prX ((hh c').symm.trans b.hold)
  have h2 := weak_ch hx b.prL b.prX ((hh c).trans a.hold)
  have := a.bound
  have := a.cost
  have := b.bound
  have := b.cost
  rw [hc] at *
  omega
theorem same_told {r x : Rd} (hr : OkR r) (hx : OkR x) (hh : ∀ l, holdsB x l = holdsB r l) (hc : ∀ l, costL x l = costL r l) :
    ∃ c pr c' pr' n e, Told r c n pr e ∧ Told x c' n pr' e := by
  rcases told_of hr with ⟨c, n, pr, t, b⟩ | ⟨t, b⟩
  · rcases told_of hx with ⟨c', n', pr', t', b'⟩ | ⟨t', b'⟩
    · obtain rfl := best_same hr hx hh hc b b'
      exact ⟨_, _, _, _, _, _, t, t'⟩
    · have := b' c; rw [hh, b.hold] at this; cases this
  · rcases told_of hx with ⟨c', n', pr', t', b'⟩ | ⟨t', b'⟩
    · have := b c'; rw [← hh, b'.hold] at this; cases this
    · exact ⟨_, _, _, _, _, _, t, t'⟩

set_option maxHeartbeats 8000000 in
theorem turnedLaw (r : Rd) (b : Int) : ACall Tryd.prog 10 [roadV r, .c (.d (.int .u32 b))] GH (one (B true) GH) := by
  refine acall_atE (bad := []) (kp := kp10) (X := tx) (nt := 105) (rs := [.tmp 4]) Tryd.func10 rfl rfl rfl rfl mo (by kernel_rfl) rfl rfl (fun hf => ?_)
  have wa : ∀ T, ACall Tryd.prog 14 [] (.gl 0 noneD :: .cells (roadC r) :: T) (one (B true) (.gl 0 noneD :: .cells (roadC r) :: T)) := fun T => works_at _
  simp only [roadC] at wa
  simp (config := { maxSteps := 2000000 }) only [go_sem, reduceIte, Nat.reduceEqDiff, Nat.reduceAdd, Nat.reduceLT, Nat.reduceLeDiff, Nat.reduceBEq, Nat.reduceMul, Nat.reduceSub, Nat.reduceDiv, Int.reduceNeg, Int.reduceLT, Int.reduceLE, Int.reduceEq, Int.reduceToNat, fillC, zc, List.replicate_succ, List.replicate_zero, List.flatten_cons, List.flatten_nil, toDs, toD, chunk, placeS, srcRows, List.all_cons, List.all_nil, List.all_map, Function.comp_def, List.take_nil, List.drop_nil, List.toList_toArray, C.eqbL, eqCs, eqC, List.drop_one, List.tail_cons, lim, lk10, GH, roadV, roadC]
  refine aops_pure' (fine32 r) rfl rfl (by first | exact wk_refls _ | (repeat constructor)) ?_
  cases hfi : fineB r with
  | false =>
    simp (config := { maxSteps := 2000000 }) only [go_sem, reduceIte, Nat.reduceEqDiff, Nat.reduceAdd, Nat.reduceLT, Nat.reduceLeDiff, Nat.reduceBEq, Nat.reduceMul, Nat.reduceSub, Nat.reduceDiv, Int.reduceNeg, Int.reduceLT, Int.reduceLE, Int.reduceEq, Int.reduceToNat, fillC, zc, List.replicate_succ, List.replicate_zero, List.flatten_cons, List.flatten_nil, toDs, toD, chunk, placeS, srcRows, List.all_cons, List.all_nil, List.all_map, Function.comp_def, List.take_nil, List.drop_nil, List.toList_toArray, C.eqbL, eqCs, eqC, List.drop_one, List.tail_cons, lim, lk10]
    refine aops_at (wa _) rfl rfl (by first | exact wk_refls _ | (repeat constructor)) ?_
    simp (config := { maxSteps := 2000000 }) only [go_sem, reduceIte, Nat.reduceEqDiff, Nat.reduceAdd, Nat.reduceLT, Nat.reduceLeDiff, Nat.reduceBEq, Nat.reduceMul, Nat.reduceSub, Nat.reduceDiv, Int.reduceNeg, Int.reduceLT, Int.reduceLE, Int.reduceEq, Int.reduceToNat, fillC, zc, List.replicate_succ, List.replicate_zero, List.flatten_cons, List.flatten_nil, toDs, toD, chunk, placeS, srcRows, List.all_cons, List.all_nil, List.all_map, Function.comp_def, List.take_nil, List.drop_nil, List.toList_toArray, C.eqbL, eqCs, eqC, List.drop_one, List.tail_cons, lim, lk10]
    exact ⟨_, rfl⟩
  | true =>
  have hok := fine_ok hfi
  have hr := okRoad_ok hok
  have hlen := hr.len
  have p1 := hr.p1
  have p40 := hr.p40
  obtain ⟨c, pr, c', pr', n, e, t1, t2⟩ := same_told hr (okRoad_turn hr) (fun l => holdsB_turn r l p1) (costL_turn r)
  have q1 := check17 r (chN b r.ps.length)
  have q2 := check17 (turnR r) (chN b r.ps.length)
  rw [okHold_turn hr, costL_turn] at q2
  have hlow : ∀ n, [AB.gl 0 noneD, .cells (roadC r), .grow n 3].all (AB.low 3) = true := fun n => by
    simp only [List.all_cons, List.all_nil, AB.low, roadC_low, Bool.and_self]
  simp (config := { maxSteps := 2000000 }) only [go_sem, reduceIte, Nat.reduceEqDiff, Nat.reduceAdd, Nat.reduceLT, Nat.reduceLeDiff, Nat.reduceBEq, Nat.reduceMul, Nat.reduceSub, Nat.reduceDiv, Int.reduceNeg, Int.reduceLT, Int.reduceLE, Int.reduceEq, Int.reduceToNat, fillC, zc, List.replicate_succ, List.replicate_zero, List.flatten_cons, List.flatten_nil, toDs, toD, chunk, placeS, srcRows, List.all_cons, List.all_nil, List.all_map, Function.comp_def, List.take_nil, List.drop_nil, List.toList_toArray, C.eqbL, eqCs, eqC, List.drop_one, List.tail_cons, lim, lk10, lk10]
  refine goE_loop (bad := []) (kp := kp10) (fun i : Nat => { slots := [(1, .c (.d (.int .u32 b))), (2, .c (.ptr 1 0)), (5, .c (.own 2 ((r.ps.take i).map fun p => pD (turnP r.pl p)))), (6, I i)], heap := [.gl 0 noneD, .cells (roadC r), .grow i 3], marks := [] }) (fun i => i ≤ r.ps.length) (fun i => r.ps.length - i) 0 mo (by kernel_rfl) ?_ (Nat.zero_le _) ?_
  · refine Ent.trans (ent_own 5 3 rfl) ?_
    refine ent_weaken [] (by simp only [List.append_nil, roadC]; rfl) rfl (show 1 ≤ 3 by decide) (hlow _) rfl ?_
    simp (config := { maxSteps := 2000000 }) only [go_sem, reduceIte, Nat.reduceEqDiff, Nat.reduceAdd, Nat.reduceLT, Nat.reduceLeDiff, Nat.reduceBEq, Nat.reduceMul, Nat.reduceSub, Nat.reduceDiv, Int.reduceNeg, Int.reduceLT, Int.reduceLE, Int.reduceEq, Int.reduceToNat, fillC, zc, List.replicate_succ, List.replicate_zero, List.flatten_cons, List.flatten_nil, toDs, toD, chunk, placeS, srcRows, List.all_cons, List.all_nil, List.all_map, Function.comp_def, List.take_nil, List.drop_nil, List.toList_toArray, C.eqbL, eqCs, eqC, List.drop_one, List.tail_cons, lim, lk10, roadC, List.take_zero, List.map_nil]
    exact .refl _
  rintro i hi
  simp (config := { maxSteps := 2000000 }) only [go_sem, reduceIte, Nat.reduceEqDiff, Nat.reduceAdd, Nat.reduceLT, Nat.reduceLeDiff, Nat.reduceBEq, Nat.reduceMul, Nat.reduceSub, Nat.reduceDiv, Int.reduceNeg, Int.reduceLT, Int.reduceLE, Int.reduceEq, Int.reduceToNat, fillC, zc, List.replicate_succ, List.replicate_zero, List.flatten_cons, List.flatten_nil, toDs, toD, chunk, placeS, srcRows, List.all_cons, List.all_nil, List.all_map, Function.comp_def, List.take_nil, List.drop_nil, List.toList_toArray, C.eqbL, eqCs, eqC, List.drop_one, List.tail_cons, lim, lk10, roadC, lk10]
  refine goE_if (fun h => ?_) (fun h => ?_)
  · have hlt : i < r.ps.length := by simpa using h
    obtain ⟨p, hp⟩ := get_of_lt hlt
    obtain ⟨f0, f1, f2, f3, f4⟩ := hr.ok p (List.mem_of_getElem? hp)
    have hpm : (r.ps.map pD)[i]? = some [.int .i64 p.fr, .int .i64 p.to, .int .i64 p.co] := by rw [List.getElem?_map, hp]; rfl
    have cx : (decide ((0 : Int) ≤ (i : Int)) && decide ((i : Int) < (r.ps.length : Int))) = true := by simp; omega
    have w1 : wr .i64 (r.pl - 1) = r.pl - 1 := wr_id (by omega) (by omega)
    have w2 : wr .i64 (r.pl - 1 - p.to) = r.pl - 1 - p.to := wr_id (by omega) (by omega)
    have w3 : wr .i64 (r.pl - 1 - p.fr) = r.pl - 1 - p.fr := wr_id (by omega) (by omega)
    have hs : ((r.ps.take (i + 1)).map fun p => pD (turnP r.pl p)) = ((r.ps.take i).map fun p => pD (turnP r.pl p)) ++ [pD (turnP r.pl p)] := by rw [take_succ_eq hp, List.map_append]; rfl
    have hll : ((r.ps.take i).map fun p => pD (turnP r.pl p)).length = i := by simp; omega
    have htk : (r.ps.take i).length = i := by simp; omega
    simp (config := { maxSteps := 2000000 }) only [go_sem, reduceIte, Nat.reduceEqDiff, Nat.reduceAdd, Nat.reduceLT, Nat.reduceLeDiff, Nat.reduceBEq, Nat.reduceMul, Nat.reduceSub, Nat.reduceDiv, Int.reduceNeg, Int.reduceLT, Int.reduceLE, Int.reduceEq, Int.reduceToNat, fillC, zc, List.replicate_succ, List.replicate_zero, List.flatten_cons, List.flatten_nil, toDs, toD, chunk, placeS, srcRows, List.all_cons, List.all_nil, List.all_map, Function.comp_def, List.take_nil, List.drop_nil, List.toList_toArray, C.eqbL, eqCs, eqC, List.drop_one, List.tail_cons, lim, lk10, hpm, cx, w1, w2, w3, pD, turnP, htk, lk10]
    refine ⟨by simp; omega, i + 1, hlt, by omega, ?_⟩
    refine ent_weaken [_] (by simp only [List.cons_append, List.nil_append, roadC, htk]; rfl) rfl (show 1 ≤ 3 by decide) (hlow _) rfl ?_
    simp (config := { maxSteps := 2000000 }) only [go_sem, reduceIte, Nat.reduceEqDiff, Nat.reduceAdd, Nat.reduceLT, Nat.reduceLeDiff, Nat.reduceBEq, Nat.reduceMul, Nat.reduceSub, Nat.reduceDiv, Int.reduceNeg, Int.reduceLT, Int.reduceLE, Int.reduceEq, Int.reduceToNat, fillC, zc, List.replicate_succ, List.replicate_zero, List.flatten_cons, List.flatten_nil, toDs, toD, chunk, placeS, srcRows, List.all_cons, List.all_nil, List.all_map, Function.comp_def, List.take_nil, List.drop_nil, List.toList_toArray, C.eqbL, eqCs, eqC, List.drop_one, List.tail_cons, lim, lk10, wr_succ hlt (show r.ps.length ≤ 140737488355328 by omega), take_succ_eq hp, List.map_append, List.map_cons, List.map_nil]
    try exact .refl _
  · have hi' : i = r.ps.length := by simp at h; omega
    subst hi'
    have h37 := with37 r (turnR r).ps
    have p2 := t1.che.frame rfl rfl rfl [.cells (roadC r), .grow r.ps.length 3, .cells (roadC (turnR r))]
    have p3 := t2.che.frame rfl rfl rfl [.cells (roadC r), .grow r.ps.length 3, .cells (roadC (turnR r))]
    have ch35 := choice35 r b hlen
    generalize chN b r.ps.length = ch at *
    generalize (if okHold r ch = 0 then costL r ch else 0) = ka at *
    generalize okHold r ch = kg at *
    simp only [GH, roadV, roadC, postsV, turnR, List.map_map, List.cons_append, List.nil_append] at p2 p3 h37 q1 q2 ch35
    simp (config := { maxSteps := 2000000 }) only [go_sem, reduceIte, Nat.reduceEqDiff, Nat.reduceAdd, Nat.reduceLT, Nat.reduceLeDiff, Nat.reduceBEq, Nat.reduceMul, Nat.reduceSub, Nat.reduceDiv, Int.reduceNeg, Int.reduceLT, Int.reduceLE, Int.reduceEq, Int.reduceToNat, fillC, zc, List.replicate_succ, List.replicate_zero, List.flatten_cons, List.flatten_nil, toDs, toD, chunk, placeS, srcRows, List.all_cons, List.all_nil, List.all_map, Function.comp_def, List.take_nil, List.drop_nil, List.toList_toArray, C.eqbL, eqCs, eqC, List.drop_one, List.tail_cons, lim, lk10, List.take_length, List.map_map, lk10]
    refine aops_pure' (h37) rfl rfl (by first | exact wk_refls _ | (repeat constructor)) ?_
    simp (config := { maxSteps := 2000000 }) only [go_sem, reduceIte, Nat.reduceEqDiff, Nat.reduceAdd, Nat.reduceLT, Nat.reduceLeDiff, Nat.reduceBEq, Nat.reduceMul, Nat.reduceSub, Nat.reduceDiv, Int.reduceNeg, Int.reduceLT, Int.reduceLE, Int.reduceEq, Int.reduceToNat, fillC, zc, List.replicate_succ, List.replicate_zero, List.flatten_cons, List.flatten_nil, toDs, toD, chunk, placeS, srcRows, List.all_cons, List.all_nil, List.all_map, Function.comp_def, List.take_nil, List.drop_nil, List.toList_toArray, C.eqbL, eqCs, eqC, List.drop_one, List.tail_cons, lim, lk10]
    refine aops_at (p2) rfl rfl (by first | exact wk_refls _ | (repeat constructor)) ?_
    simp (config := { maxSteps := 2000000 }) only [go_sem, reduceIte, Nat.reduceEqDiff, Nat.reduceAdd, Nat.reduceLT, Nat.reduceLeDiff, Nat.reduceBEq, Nat.reduceMul, Nat.reduceSub, Nat.reduceDiv, Int.reduceNeg, Int.reduceLT, Int.reduceLE, Int.reduceEq, Int.reduceToNat, fillC, zc, List.replicate_succ, List.replicate_zero, List.flatten_cons, List.flatten_nil, toDs, toD, chunk, placeS, srcRows, List.all_cons, List.all_nil, List.all_map, Function.comp_def, List.take_nil, List.drop_nil, List.toList_toArray, C.eqbL, eqCs, eqC, List.drop_one, List.tail_cons, lim, lk10]
    refine aops_at (p3) rfl rfl (by first | exact wk_refls _ | (repeat constructor)) ?_
    simp (config := { maxSteps := 2000000 }) only [go_sem, reduceIte, Nat.reduceEqDiff, Nat.reduceAdd, Nat.reduceLT, Nat.reduceLeDiff, Nat.reduceBEq, Nat.reduceMul, Nat.reduceSub, Nat.reduceDiv, Int.reduceNeg, Int.reduceLT, Int.reduceLE, Int.reduceEq, Int.reduceToNat, fillC, zc, List.replicate_succ, List.replicate_zero, List.flatten_cons, List.flatten_nil, toDs, toD, chunk, placeS, srcRows, List.all_cons, List.all_nil, List.all_map, Function.comp_def, List.take_nil, List.drop_nil, List.toList_toArray, C.eqbL, eqCs, eqC, List.drop_one, List.tail_cons, lim, lk10]
    refine aops_pure' (ch35) rfl rfl (by first | exact wk_refls _ | (repeat constructor)) ?_
    simp (config := { maxSteps := 2000000 }) only [go_sem, reduceIte, Nat.reduceEqDiff, Nat.reduceAdd, Nat.reduceLT, Nat.reduceLeDiff, Nat.reduceBEq, Nat.reduceMul, Nat.reduceSub, Nat.reduceDiv, Int.reduceNeg, Int.reduceLT, Int.reduceLE, Int.reduceEq, Int.reduceToNat, fillC, zc, List.replicate_succ, List.replicate_zero, List.flatten_cons, List.flatten_nil, toDs, toD, chunk, placeS, srcRows, List.all_cons, List.all_nil, List.all_map, Function.comp_def, List.take_nil, List.drop_nil, List.toList_toArray, C.eqbL, eqCs, eqC, List.drop_one, List.tail_cons, lim, lk10]
    refine aops_pure' (q1) rfl rfl (by first | exact wk_refls _ | (repeat constructor)) ?_
    simp (config := { maxSteps := 2000000 }) only [go_sem, reduceIte, Nat.reduceEqDiff, Nat.reduceAdd, Nat.reduceLT, Nat.reduceLeDiff, Nat.reduceBEq, Nat.reduceMul, Nat.reduceSub, Nat.reduceDiv, Int.reduceNeg, Int.reduceLT, Int.reduceLE, Int.reduceEq, Int.reduceToNat, fillC, zc, List.replicate_succ, List.replicate_zero, List.flatten_cons, List.flatten_nil, toDs, toD, chunk, placeS, srcRows, List.all_cons, List.all_nil, List.all_map, Function.comp_def, List.take_nil, List.drop_nil, List.toList_toArray, C.eqbL, eqCs, eqC, List.drop_one, List.tail_cons, lim, lk10]
    refine aops_pure' (q2) rfl rfl (by first | exact wk_refls _ | (repeat constructor)) ?_
    simp (config := { maxSteps := 2000000 }) only [go_sem, reduceIte, Nat.reduceEqDiff, Nat.reduceAdd, Nat.reduceLT, Nat.reduceLeDiff, Nat.reduceBEq, Nat.reduceMul, Nat.reduceSub, Nat.reduceDiv, Int.reduceNeg, Int.reduceLT, Int.reduceLE, Int.reduceEq, Int.reduceToNat, fillC, zc, List.replicate_succ, List.replicate_zero, List.flatten_cons, List.flatten_nil, toDs, toD, chunk, placeS, srcRows, List.all_cons, List.all_nil, List.all_map, Function.comp_def, List.take_nil, List.drop_nil, List.toList_toArray, C.eqbL, eqCs, eqC, List.drop_one, List.tail_cons, lim, lk10]
    refine aops_at (wa _) rfl rfl (by first | exact wk_refls _ | (repeat constructor)) ?_
    simp (config := { maxSteps := 2000000 }) only [go_sem, reduceIte, Nat.reduceEqDiff, Nat.reduceAdd, Nat.reduceLT, Nat.reduceLeDiff, Nat.reduceBEq, Nat.reduceMul, Nat.reduceSub, Nat.reduceDiv, Int.reduceNeg, Int.reduceLT, Int.reduceLE, Int.reduceEq, Int.reduceToNat, fillC, zc, List.replicate_succ, List.replicate_zero, List.flatten_cons, List.flatten_nil, toDs, toD, chunk, placeS, srcRows, List.all_cons, List.all_nil, List.all_map, Function.comp_def, List.take_nil, List.drop_nil, List.toList_toArray, C.eqbL, eqCs, eqC, List.drop_one, List.tail_cons, lim, lk10]
    exact ⟨_, rfl⟩
end Go.Proofs.YteamgbndnfjoaaaDoor
