/- The law StreetMore (under way). -/
import Derived.Test.YteamgbndnfjoaaaDoorS30
import Derived.Test.YteamgbndnfjoaaaDoorS26
set_option linter.unusedSimpArgs false
set_option linter.unusedVariables false
set_option maxRecDepth 100000
namespace Go.Proofs.YteamgbndnfjoaaaDoor
open Go Go.Abs Go.Proofs
def kp9 : List (Nat × List Nat) := [(0, [2, 3, 4]), (1, [2, 3, 4, 29]), (2, [6]), (3, [2, 3, 4, 8, 9]), (4, [2, 3, 4, 8, 9, 42]), (5, [6]), (6, [2, 3, 8, 9, 10]), (7, [2, 3, 8, 9, 10, 53]), (8, [2, 3, 8, 9, 12, 13]), (9, [2, 3, 8, 9, 78]), (10, [6]), (11, [2, 3, 8, 9, 14, 15]), (12, [2, 3, 8, 9, 14, 15]), (13, [2, 3, 8, 9, 16]), (14, [2, 3, 8, 9, 16, 17]), (15, [2, 3, 8, 9, 16, 17, 99]), (16, [2, 3, 8, 9, 16, 17]), (17, [2, 3, 8, 9, 16, 17, 107]), (18, [2, 3, 8, 9, 16, 17, 19, 20]), (19, [2, 3, 8, 9, 16, 17, 139]), (20, [6]), (21, [2, 3, 9, 21]), (22, [2, 3, 9, 21, 22]), (23, [2, 3, 9, 21, 22, 144]), (24, [2, 3, 9, 21, 22]), (25, [2, 3, 9, 21, 22]), (26, [2, 3, 9, 23, 24, 25]), (27, [3, 9, 23, 24, 25, 26]), (28, [3, 23, 25, 26, 186]), (29, [6]), (30, [6])]
theorem lk9 : lookK kp9 0 = some [2, 3, 4] ∧ lookK kp9 1 = some [2, 3, 4, 29] ∧ lookK kp9 2 = some [6] ∧ lookK kp9 3 = some [2, 3, 4, 8, 9] ∧ lookK kp9 4 = some [2, 3, 4, 8, 9, 42] ∧ lookK kp9 5 = some [6] ∧ lookK kp9 6 = some [2, 3, 8, 9, 10] ∧ lookK kp9 7 = some [2, 3, 8, 9, 10, 53] ∧ lookK kp9 8 = some [2, 3, 8, 9, 12, 13] ∧ lookK kp9 9 = some [2, 3, 8, 9, 78] ∧ lookK kp9 10 = some [6] ∧ lookK kp9 11 = some [2, 3, 8, 9, 14, 15] ∧ lookK kp9 12 = some [2, 3, 8, 9, 14, 15] ∧ lookK kp9 13 = some [2, 3, 8, 9, 16] ∧ lookK kp9 14 = some [2, 3, 8, 9, 16, 17] ∧ lookK kp9 15 = some [2, 3, 8, 9, 16, 17, 99] ∧ lookK kp9 16 = some [2, 3, 8, 9, 16, 17] ∧ lookK kp9 17 = some [2, 3, 8, 9, 16, 17, 107] ∧ lookK kp9 18 = some [2, 3, 8, 9, 16, 17, 19, 20] ∧ lookK kp9 19 = some [2, 3, 8, 9, 16, 17, 139] ∧ lookK kp9 20 = some [6] ∧ lookK kp9 21 = some [2, 3, 9, 21] ∧ lookK kp9 22 = some [2, 3, 9, 21, 22] ∧ lookK kp9 23 = some [2, 3, 9, 21, 22, 144] ∧ lookK kp9 24 = some [2, 3, 9, 21, 22] ∧ lookK kp9 25 = some [2, 3, 9, 21, 22] ∧ lookK kp9 26 = some [2, 3, 9, 23, 24, 25] ∧ lookK kp9 27 = some [3, 9, 23, 24, 25, 26] ∧ lookK kp9 28 = some [3, 23, 25, 26, 186] ∧ lookK kp9 29 = some [6] ∧ lookK kp9 30 = some [6] := ⟨rfl, rfl, rfl, rfl, rfl, rfl, rfl, rfl, rfl, rfl, rfl, rfl, rfl, rfl, rfl, rfl, rfl, rfl, rfl, rfl, rfl, rfl, rfl, rfl, rfl, rfl, rfl, rfl, rfl, rfl, rfl⟩
theorem okCh_ones {r : Rd} {l : List Int} (hr : OkR r) (h : okCh r l = 0) : okCh (onesR r) l = 0 := by
  have h1 := hr.zero
  have h2 := (ones_ok hr).zero
  unfold okCh at h ⊢
  rw [h1] at h
  rw [h2, ones_len]
  exact h
theorem costL_ones {r : Rd} {l : List Int} (h : okCh (onesR r) l = 0) : costL (onesR r) l = l.length := by
  rw [costL_eq h]
  obtain ⟨hr, hris⟩ := okCh_ok h
  obtain ⟨hnd, hrng⟩ := rises_ok hris
  unfold cost
  have : ∀ x ∈ l, (po (onesR r) x).co = 1 := fun x hx => by
    obtain ⟨h0, h1⟩ := hrng x hx
    rw [ones_len] at h1
    have e : ((x.toNat : Nat) : Int) = x := by omega
    rw [← e, po_ones (by omega)]
  clear hrng hnd hris h hr
  induction l with
  | nil => rfl
  | cons x l ih =>
    rw [List.map_cons, List.sum_cons, this x (List.mem_cons_self ..), ih (fun y hy => this y (List.mem_cons_of_mem _ hy)), List.length_cons]
    omega
theorem joinK {K G : Prop} (h : K → G) (hk : K) : G := h hk
/-- What Cheapest tells, in one. -/
theorem told_one {r : Rd} (hr : OkR r) : ∃ c n pr e, Told r c n pr e ∧ ((decide (e = 0) = true ∧ decide (e = 18) = false ∧ Least r n) ∨ (decide (e = 0) = false ∧ decide (e = 18) = true ∧ ∀ st : Nat → Int, (∀ i, st i = 0 ∨ st i = 1) → ¬ HoldS r st)) := by
  rcases told_least hr with ⟨c, n, pr, t, b, l⟩ | ⟨t, l⟩
  · exact ⟨c, n, pr, 0, t, .inl ⟨rfl, rfl, l⟩⟩
  · exact ⟨_, _, _, _, t, .inr ⟨rfl, rfl, l⟩⟩
def moreS (r : Rd) (b n e : Int) : St := { slots := [(2, .c (.d (.int .u32 b))), (3, .c (.ptr 1 0)), (8, I n), (9, I e), (16, .c (.d (.sl [[.int .i64 r.pl, .int .i64 (r.de + 1), .int .i64 r.di, .sl (List.map pD r.ps)], [.int .i64 r.pl, .int .i64 r.de, .int .i64 (r.di + 1), .sl (List.map pD r.ps)]]))), (17, I 0)], heap := [.gl 0 noneD, .cells [.d (.int .i64 r.pl), .d (.int .i64 r.de), .d (.int .i64 r.di), .d (.sl (List.map pD r.ps))]], marks := [] }
set_option maxHeartbeats 8000000 in
theorem moreLaw (r : Rd) (p : Po) (b : Int) : ACall Tryd.prog 9 [roadV r, .agg (pC p), .c (.d (.int .u32 b))] GH (one (B true) GH) := by
  refine acall_atE (bad := [6, 11, 12, 25]) (kp := kp9) (X := tx) (nt := 205) (rs := [.tmp 6]) Tryd.func9 rfl rfl rfl rfl mo (by kernel_rfl) rfl rfl (fun hf => ?_)
  have wa : ∀ T, ACall Tryd.prog 14 [] (.gl 0 noneD :: .cells (roadC r) :: T) (one (B true) (.gl 0 noneD :: .cells (roadC r) :: T)) := fun T => works_at _
  simp only [roadC] at wa
  simp (config := { maxSteps := 2000000 }) only [go_sem, reduceIte, Nat.reduceEqDiff, Nat.reduceAdd, Nat.reduceLT, Nat.reduceLeDiff, Nat.reduceBEq, Nat.reduceMul, Nat.reduceSub, Nat.reduceDiv, Int.reduceNeg, Int.reduceLT, Int.reduceLE, Int.reduceEq, Int.reduceToNat, fillC, zc, List.replicate_succ, List.replicate_zero, List.flatten_cons, List.flatten_nil, toDs, toD, chunk, placeS, srcRows, List.all_cons, List.all_nil, List.all_map, Function.comp_def, List.take_nil, List.drop_nil, List.toList_toArray, C.eqbL, eqCs, eqC, List.drop_one, List.tail_cons, lim, lk9, GH, roadV, roadC, pC]
  refine aops_pure' (fine32 r) rfl rfl (by first | exact wk_refls _ | (repeat constructor)) ?_
  cases hfi : fineB r with
  | false =>
    simp (config := { maxSteps := 2000000 }) only [go_sem, reduceIte, Nat.reduceEqDiff, Nat.reduceAdd, Nat.reduceLT, Nat.reduceLeDiff, Nat.reduceBEq, Nat.reduceMul, Nat.reduceSub, Nat.reduceDiv, Int.reduceNeg, Int.reduceLT, Int.reduceLE, Int.reduceEq, Int.reduceToNat, fillC, zc, List.replicate_succ, List.replicate_zero, List.flatten_cons, List.flatten_nil, toDs, toD, chunk, placeS, srcRows, List.all_cons, List.all_nil, List.all_map, Function.comp_def, List.take_nil, List.drop_nil, List.toList_toArray, C.eqbL, eqCs, eqC, List.drop_one, List.tail_cons, lim, lk9]
    refine aops_at (wa _) rfl rfl (by first | exact wk_refls _ | (repeat constructor)) ?_
    simp (config := { maxSteps := 2000000 }) only [go_sem, reduceIte, Nat.reduceEqDiff, Nat.reduceAdd, Nat.reduceLT, Nat.reduceLeDiff, Nat.reduceBEq, Nat.reduceMul, Nat.reduceSub, Nat.reduceDiv, Int.reduceNeg, Int.reduceLT, Int.reduceLE, Int.reduceEq, Int.reduceToNat, fillC, zc, List.replicate_succ, List.replicate_zero, List.flatten_cons, List.flatten_nil, toDs, toD, chunk, placeS, srcRows, List.all_cons, List.all_nil, List.all_map, Function.comp_def, List.take_nil, List.drop_nil, List.toList_toArray, C.eqbL, eqCs, eqC, List.drop_one, List.tail_cons, lim, lk9]
    exact ⟨_, rfl⟩
  | true =>
  have hr := okRoad_ok (fine_ok hfi)
  have hrl := hr.len
  have hall : (r.ps.all fun x => (pD x).length == 3) = true := List.all_eq_true.2 fun _ _ => rfl
  have hsz : decide ((r.ps.length + r.ps.length / 4 + 256) * 24 ≤ 281474976710656) = true := by simp; omega
  have hln : decide (r.ps.length ≤ 140737488355328) = true := by simp; omega
  have hsz2 : decide ((r.ps.length + 1 + (r.ps.length + 1) / 4 + 256) * 24 ≤ 281474976710656) = true := by simp; omega
  have hln2 : decide (r.ps.length ≤ 140737488355327) = true := by simp; omega
  have hap : List.map pD r.ps ++ [[D.int .i64 p.fr, D.int .i64 p.to, D.int .i64 p.co]] = List.map pD (addR r p).ps := by simp [pD, addR]
  have hx := fine32 (addR r p)
  generalize hfx : fineB (addR r p) = bx at *
  have hxp : (addR r p).pl = r.pl := rfl
  have hxd : (addR r p).de = r.de := rfl
  have hxi : (addR r p).di = r.di := rfl
  generalize hxe : (addR r p) = x at *
  simp only [roadV, roadC, hxp, hxd, hxi] at hx
  have h37 := with37 r r.ps
  simp only [roadV, roadC, postsV] at h37
  have d2 := hr.d2
  have d0 := hr.d0
  have i0 := hr.i0
  have i5 := hr.i5
  have wde : wr .i64 (r.de + 1) = r.de + 1 := wr_id (by omega) (by omega)
  have wdi : wr .i64 (r.di + 1) = r.di + 1 := wr_id (by omega) (by omega)
  have hlow : ∀ l : List (List D), [AB.gl 0 noneD, .cells [.d (.int .i64 r.pl), .d (.int .i64 r.de), .d (.int .i64 r.di), .d (.sl l)]].all (AB.low 2) = true := fun _ => rfl
  obtain ⟨c1, n, pr1, e, t1, hc⟩ := told_one hr
  have p1 := t1.che.frame rfl rfl rfl [.cells (roadC r), .cells (pC p)]
  simp only [GH, roadV, roadC, pC, List.cons_append, List.nil_append] at p1
  simp (config := { maxSteps := 2000000 }) only [go_sem, reduceIte, Nat.reduceEqDiff, Nat.reduceAdd, Nat.reduceLT, Nat.reduceLeDiff, Nat.reduceBEq, Nat.reduceMul, Nat.reduceSub, Nat.reduceDiv, Int.reduceNeg, Int.reduceLT, Int.reduceLE, Int.reduceEq, Int.reduceToNat, fillC, zc, List.replicate_succ, List.replicate_zero, List.flatten_cons, List.flatten_nil, toDs, toD, chunk, placeS, srcRows, List.all_cons, List.all_nil, List.all_map, Function.comp_def, List.take_nil, List.drop_nil, List.toList_toArray, C.eqbL, eqCs, eqC, List.drop_one, List.tail_cons, lim, lk9, lk9]
  refine aops_at (p1) rfl rfl (by first | exact wk_refls _ | (repeat constructor)) ?_
  apply joinK
  · intro hK
    have hc2 := hc
    rcases hc2 with ⟨h0, h18, l1⟩ | ⟨h0, h18, l1⟩
    · simp (config := { maxSteps := 2000000 }) only [go_sem, reduceIte, Nat.reduceEqDiff, Nat.reduceAdd, Nat.reduceLT, Nat.reduceLeDiff, Nat.reduceBEq, Nat.reduceMul, Nat.reduceSub, Nat.reduceDiv, Int.reduceNeg, Int.reduceLT, Int.reduceLE, Int.reduceEq, Int.reduceToNat, fillC, zc, List.replicate_succ, List.replicate_zero, List.flatten_cons, List.flatten_nil, toDs, toD, chunk, placeS, srcRows, List.all_cons, List.all_nil, List.all_map, Function.comp_def, List.take_nil, List.drop_nil, List.toList_toArray, C.eqbL, eqCs, eqC, List.drop_one, List.tail_cons, lim, lk9, hall, hsz, hln, hsz2, hln2, h0, h18, lk9]
      simp only [hap]
      refine de_own 3 (r.ps.length + 1) 3 (fun H h => with37o r x.ps 3 (r.ps.length + 1) 3 H h) rfl rfl rfl (by first | exact wk_refls _ | (repeat constructor)) ?_
      simp (config := { maxSteps := 2000000 }) only [go_sem, reduceIte, Nat.reduceEqDiff, Nat.reduceAdd, Nat.reduceLT, Nat.reduceLeDiff, Nat.reduceBEq, Nat.reduceMul, Nat.reduceSub, Nat.reduceDiv, Int.reduceNeg, Int.reduceLT, Int.reduceLE, Int.reduceEq, Int.reduceToNat, fillC, zc, List.replicate_succ, List.replicate_zero, List.flatten_cons, List.flatten_nil, toDs, toD, chunk, placeS, srcRows, List.all_cons, List.all_nil, List.all_map, Function.comp_def, List.take_nil, List.drop_nil, List.toList_toArray, C.eqbL, eqCs, eqC, List.drop_one, List.tail_cons, lim, lk9, roadOV, lk9]
      refine ⟨pairsOk_ord (by kernel_rfl), ?_⟩
      refine aops_pure' (hx) rfl rfl (by first | exact wk_refls _ | (repeat constructor)) ?_
      simp (config := { maxSteps := 2000000 }) only [go_sem, reduceIte, Nat.reduceEqDiff, Nat.reduceAdd, Nat.reduceLT, Nat.reduceLeDiff, Nat.reduceBEq, Nat.reduceMul, Nat.reduceSub, Nat.reduceDiv, Int.reduceNeg, Int.reduceLT, Int.reduceLE, Int.reduceEq, Int.reduceToNat, fillC, zc, List.replicate_succ, List.replicate_zero, List.flatten_cons, List.flatten_nil, toDs, toD, chunk, placeS, srcRows, List.all_cons, List.all_nil, List.all_map, Function.comp_def, List.take_nil, List.drop_nil, List.toList_toArray, C.eqbL, eqCs, eqC, List.drop_one, List.tail_cons, lim, lk9, lk9]
      refine goE_if (fun h => ?_) (fun h => ?_)
      · have hxx := okRoad_ok (fine_ok (hfx.trans h))
        rcases told_least hxx with ⟨c2, n2, pr2, t2, b2, l2⟩ | ⟨t2, l2⟩
        · have hle : n2 ≤ n := by rw [← hxe] at l2; exact least_add l1 l2
          have hd : decide (n < n2) = false := by simp; omega
          have p2 := t2.che.frame rfl rfl rfl [.cells (roadC r), .cells (pC p), .grow (r.ps.length + 1) 3, .cells [.d (.int .i64 r.pl), .d (.int .i64 r.de), .d (.int .i64 r.di), .own 3 (List.map pD x.ps)], .gone]
          simp only [GH, roadV, roadC, pC, List.cons_append, List.nil_append, hxp, hxd, hxi] at p2
          simp (config := { maxSteps := 2000000 }) only [go_sem, reduceIte, Nat.reduceEqDiff, Nat.reduceAdd, Nat.reduceLT, Nat.reduceLeDiff, Nat.reduceBEq, Nat.reduceMul, Nat.reduceSub, Nat.reduceDiv, Int.reduceNeg, Int.reduceLT, Int.reduceLE, Int.reduceEq, Int.reduceToNat, fillC, zc, List.replicate_succ, List.replicate_zero, List.flatten_cons, List.flatten_nil, toDs, toD, chunk, placeS, srcRows, List.all_cons, List.all_nil, List.all_map, Function.comp_def, List.take_nil, List.drop_nil, List.toList_toArray, C.eqbL, eqCs, eqC, List.drop_one, List.tail_cons, lim, lk9, lk9]
          refine aops_at (p2) rfl rfl (by first | exact wk_refls _ | (repeat constructor)) ?_
          simp (config := { maxSteps := 2000000 }) only [go_sem, reduceIte, Nat.reduceEqDiff, Nat.reduceAdd, Nat.reduceLT, Nat.reduceLeDiff, Nat.reduceBEq, Nat.reduceMul, Nat.reduceSub, Nat.reduceDiv, Int.reduceNeg, Int.reduceLT, Int.reduceLE, Int.reduceEq, Int.reduceToNat, fillC, zc, List.replicate_succ, List.replicate_zero, List.flatten_cons, List.flatten_nil, toDs, toD, chunk, placeS, srcRows, List.all_cons, List.all_nil, List.all_map, Function.comp_def, List.take_nil, List.drop_nil, List.toList_toArray, C.eqbL, eqCs, eqC, List.drop_one, List.tail_cons, lim, lk9, lk9, hd, h0, h18]
          refine de_pure (h37) rfl rfl (by first | exact wk_refls _ | (repeat constructor)) ?_
          simp (config := { maxSteps := 2000000 }) only [go_sem, reduceIte, Nat.reduceEqDiff, Nat.reduceAdd, Nat.reduceLT, Nat.reduceLeDiff, Nat.reduceBEq, Nat.reduceMul, Nat.reduceSub, Nat.reduceDiv, Int.reduceNeg, Int.reduceLT, Int.reduceLE, Int.reduceEq, Int.reduceToNat, fillC, zc, List.replicate_succ, List.replicate_zero, List.flatten_cons, List.flatten_nil, toDs, toD, chunk, placeS, srcRows, List.all_cons, List.all_nil, List.all_map, Function.comp_def, List.take_nil, List.drop_nil, List.toList_toArray, C.eqbL, eqCs, eqC, List.drop_one, List.tail_cons, lim, lk9, lk9]
          refine de_pure (h37) rfl rfl (by first | exact wk_refls _ | (repeat constructor)) ?_
          simp (config := { maxSteps := 2000000 }) only [go_sem, reduceIte, Nat.reduceEqDiff, Nat.reduceAdd, Nat.reduceLT, Nat.reduceLeDiff, Nat.reduceBEq, Nat.reduceMul, Nat.reduceSub, Nat.reduceDiv, Int.reduceNeg, Int.reduceLT, Int.reduceLE, Int.reduceEq, Int.reduceToNat, fillC, zc, List.replicate_succ, List.replicate_zero, List.flatten_cons, List.flatten_nil, toDs, toD, chunk, placeS, srcRows, List.all_cons, List.all_nil, List.all_map, Function.comp_def, List.take_nil, List.drop_nil, List.toList_toArray, C.eqbL, eqCs, eqC, List.drop_one, List.tail_cons, lim, lk9, lk9]
          refine ⟨pairsOk_ord (by kernel_rfl), pairsOk_ord (by kernel_rfl), ?_⟩
          refine AWP.ent (s' := moreS r b n e) ?_ hK
          refine ent_weaken [_, _, _, _, _, _] rfl rfl (show 1 ≤ 2 by decide) (hlow _) rfl ?_
          simp (config := { maxSteps := 2000000 }) only [go_sem, reduceIte, Nat.reduceEqDiff, Nat.reduceAdd, Nat.reduceLT, Nat.reduceLeDiff, Nat.reduceBEq, Nat.reduceMul, Nat.reduceSub, Nat.reduceDiv, Int.reduceNeg, Int.reduceLT, Int.reduceLE, Int.reduceEq, Int.reduceToNat, fillC, zc, List.replicate_succ, List.replicate_zero, List.flatten_cons, List.flatten_nil, toDs, toD, chunk, placeS, srcRows, List.all_cons, List.all_nil, List.all_map, Function.comp_def, List.take_nil, List.drop_nil, List.toList_toArray, C.eqbL, eqCs, eqC, List.drop_one, List.tail_cons, lim, lk9, wde, wdi, moreS]
          try exact .full _
        · obtain ⟨st, h01, hh⟩ := hold_add (p := p) l1
          rw [hxe] at hh
          exact absurd hh (l2 st h01)
      · simp (config := { maxSteps := 2000000 }) only [go_sem, reduceIte, Nat.reduceEqDiff, Nat.reduceAdd, Nat.reduceLT, Nat.reduceLeDiff, Nat.reduceBEq, Nat.reduceMul, Nat.reduceSub, Nat.reduceDiv, Int.reduceNeg, Int.reduceLT, Int.reduceLE, Int.reduceEq, Int.reduceToNat, fillC, zc, List.replicate_succ, List.replicate_zero, List.flatten_cons, List.flatten_nil, toDs, toD, chunk, placeS, srcRows, List.all_cons, List.all_nil, List.all_map, Function.comp_def, List.take_nil, List.drop_nil, List.toList_toArray, C.eqbL, eqCs, eqC, List.drop_one, List.tail_cons, lim, lk9, lk9]
        refine de_pure (h37) rfl rfl (by first | exact wk_refls _ | (repeat constructor)) ?_
        simp (config := { maxSteps := 2000000 }) only [go_sem, reduceIte, Nat.reduceEqDiff, Nat.reduceAdd, Nat.reduceLT, Nat.reduceLeDiff, Nat.reduceBEq, Nat.reduceMul, Nat.reduceSub, Nat.reduceDiv, Int.reduceNeg, Int.reduceLT, Int.reduceLE, Int.reduceEq, Int.reduceToNat, fillC, zc, List.replicate_succ, List.replicate_zero, List.flatten_cons, List.flatten_nil, toDs, toD, chunk, placeS, srcRows, List.all_cons, List.all_nil, List.all_map, Function.comp_def, List.take_nil, List.drop_nil, List.toList_toArray, C.eqbL, eqCs, eqC, List.drop_one, List.tail_cons, lim, lk9, lk9]
        refine de_pure (h37) rfl rfl (by first | exact wk_refls _ | (repeat constructor)) ?_
        simp (config := { maxSteps := 2000000 }) only [go_sem, reduceIte, Nat.reduceEqDiff, Nat.reduceAdd, Nat.reduceLT, Nat.reduceLeDiff, Nat.reduceBEq, Nat.reduceMul, Nat.reduceSub, Nat.reduceDiv, Int.reduceNeg, Int.reduceLT, Int.reduceLE, Int.reduceEq, Int.reduceToNat, fillC, zc, List.replicate_succ, List.replicate_zero, List.flatten_cons, List.flatten_nil, toDs, toD, chunk, placeS, srcRows, List.all_cons, List.all_nil, List.all_map, Function.comp_def, List.take_nil, List.drop_nil, List.toList_toArray, C.eqbL, eqCs, eqC, List.drop_one, List.tail_cons, lim, lk9, lk9]
        refine ⟨pairsOk_ord (by kernel_rfl), pairsOk_ord (by kernel_rfl), ?_⟩
        refine AWP.ent (s' := moreS r b n e) ?_ hK
        refine ent_weaken [_, _, _, _, _, _] rfl rfl (show 1 ≤ 2 by decide) (hlow _) rfl ?_
        simp (config := { maxSteps := 2000000 }) only [go_sem, reduceIte, Nat.reduceEqDiff, Nat.reduceAdd, Nat.reduceLT, Nat.reduceLeDiff, Nat.reduceBEq, Nat.reduceMul, Nat.reduceSub, Nat.reduceDiv, Int.reduceNeg, Int.reduceLT, Int.reduceLE, Int.reduceEq, Int.reduceToNat, fillC, zc, List.replicate_succ, List.replicate_zero, List.flatten_cons, List.flatten_nil, toDs, toD, chunk, placeS, srcRows, List.all_cons, List.all_nil, List.all_map, Function.comp_def, List.take_nil, List.drop_nil, List.toList_toArray, C.eqbL, eqCs, eqC, List.drop_one, List.tail_cons, lim, lk9, wde, wdi, moreS]
        try exact .full _
    · simp (config := { maxSteps := 2000000 }) only [go_sem, reduceIte, Nat.reduceEqDiff, Nat.reduceAdd, Nat.reduceLT, Nat.reduceLeDiff, Nat.reduceBEq, Nat.reduceMul, Nat.reduceSub, Nat.reduceDiv, Int.reduceNeg, Int.reduceLT, Int.reduceLE, Int.reduceEq, Int.reduceToNat, fillC, zc, List.replicate_succ, List.replicate_zero, List.flatten_cons, List.flatten_nil, toDs, toD, chunk, placeS, srcRows, List.all_cons, List.all_nil, List.all_map, Function.comp_def, List.take_nil, List.drop_nil, List.toList_toArray, C.eqbL, eqCs, eqC, List.drop_one, List.tail_cons, lim, lk9, hall, hsz, hln, hsz2, hln2, h0, h18, lk9]
      simp only [hap]
      refine de_own 3 (r.ps.length + 1) 3 (fun H h => with37o r x.ps 3 (r.ps.length + 1) 3 H h) rfl rfl rfl (by first | exact wk_refls _ | (repeat constructor)) ?_
      simp (config := { maxSteps := 2000000 }) only [go_sem, reduceIte, Nat.reduceEqDiff, Nat.reduceAdd, Nat.reduceLT, Nat.reduceLeDiff, Nat.reduceBEq, Nat.reduceMul, Nat.reduceSub, Nat.reduceDiv, Int.reduceNeg, Int.reduceLT, Int.reduceLE, Int.reduceEq, Int.reduceToNat, fillC, zc, List.replicate_succ, List.replicate_zero, List.flatten_cons, List.flatten_nil, toDs, toD, chunk, placeS, srcRows, List.all_cons, List.all_nil, List.all_map, Function.comp_def, List.take_nil, List.drop_nil, List.toList_toArray, C.eqbL, eqCs, eqC, List.drop_one, List.tail_cons, lim, lk9, roadOV, lk9]
      refine ⟨pairsOk_ord (by kernel_rfl), ?_⟩
      refine aops_pure' (hx) rfl rfl (by first | exact wk_refls _ | (repeat constructor)) ?_
      simp (config := { maxSteps := 2000000 }) only [go_sem, reduceIte, Nat.reduceEqDiff, Nat.reduceAdd, Nat.reduceLT, Nat.reduceLeDiff, Nat.reduceBEq, Nat.reduceMul, Nat.reduceSub, Nat.reduceDiv, Int.reduceNeg, Int.reduceLT, Int.reduceLE, Int.reduceEq, Int.reduceToNat, fillC, zc, List.replicate_succ, List.replicate_zero, List.flatten_cons, List.flatten_nil, toDs, toD, chunk, placeS, srcRows, List.all_cons, List.all_nil, List.all_map, Function.comp_def, List.take_nil, List.drop_nil, List.toList_toArray, C.eqbL, eqCs, eqC, List.drop_one, List.tail_cons, lim, lk9, lk9]
      refine goE_if (fun h => ?_) (fun h => ?_)
      · have hxx := okRoad_ok (fine_ok (hfx.trans h))
        have hd : True := trivial
        rcases told_least hxx with ⟨c2, n2, pr2, t2, b2, l2⟩ | ⟨t2, l2⟩
        · have p2 := t2.che.frame rfl rfl rfl [.cells (roadC r), .cells (pC p), .grow (r.ps.length + 1) 3, .cells [.d (.int .i64 r.pl), .d (.int .i64 r.de), .d (.int .i64 r.di), .own 3 (List.map pD x.ps)], .gone]
          simp only [GH, roadV, roadC, pC, List.cons_append, List.nil_append, hxp, hxd, hxi] at p2
          simp (config := { maxSteps := 2000000 }) only [go_sem, reduceIte, Nat.reduceEqDiff, Nat.reduceAdd, Nat.reduceLT, Nat.reduceLeDiff, Nat.reduceBEq, Nat.reduceMul, Nat.reduceSub, Nat.reduceDiv, Int.reduceNeg, Int.reduceLT, Int.reduceLE, Int.reduceEq, Int.reduceToNat, fillC, zc, List.replicate_succ, List.replicate_zero, List.flatten_cons, List.flatten_nil, toDs, toD, chunk, placeS, srcRows, List.all_cons, List.all_nil, List.all_map, Function.comp_def, List.take_nil, List.drop_nil, List.toList_toArray, C.eqbL, eqCs, eqC, List.drop_one, List.tail_cons, lim, lk9, lk9]
          refine aops_at (p2) rfl rfl (by first | exact wk_refls _ | (repeat constructor)) ?_
          simp (config := { maxSteps := 2000000 }) only [go_sem, reduceIte, Nat.reduceEqDiff, Nat.reduceAdd, Nat.reduceLT, Nat.reduceLeDiff, Nat.reduceBEq, Nat.reduceMul, Nat.reduceSub, Nat.reduceDiv, Int.reduceNeg, Int.reduceLT, Int.reduceLE, Int.reduceEq, Int.reduceToNat, fillC, zc, List.replicate_succ, List.replicate_zero, List.flatten_cons, List.flatten_nil, toDs, toD, chunk, placeS, srcRows, List.all_cons, List.all_nil, List.all_map, Function.comp_def, List.take_nil, List.drop_nil, List.toList_toArray, C.eqbL, eqCs, eqC, List.drop_one, List.tail_cons, lim, lk9, lk9, hd, h0, h18]
          refine de_pure (h37) rfl rfl (by first | exact wk_refls _ | (repeat constructor)) ?_
          simp (config := { maxSteps := 2000000 }) only [go_sem, reduceIte, Nat.reduceEqDiff, Nat.reduceAdd, Nat.reduceLT, Nat.reduceLeDiff, Nat.reduceBEq, Nat.reduceMul, Nat.reduceSub, Nat.reduceDiv, Int.reduceNeg, Int.reduceLT, Int.reduceLE, Int.reduceEq, Int.reduceToNat, fillC, zc, List.replicate_succ, List.replicate_zero, List.flatten_cons, List.flatten_nil, toDs, toD, chunk, placeS, srcRows, List.all_cons, List.all_nil, List.all_map, Function.comp_def, List.take_nil, List.drop_nil, List.toList_toArray, C.eqbL, eqCs, eqC, List.drop_one, List.tail_cons, lim, lk9, lk9]
          refine de_pure (h37) rfl rfl (by first | exact wk_refls _ | (repeat constructor)) ?_
          simp (config := { maxSteps := 2000000 }) only [go_sem, reduceIte, Nat.reduceEqDiff, Nat.reduceAdd, Nat.reduceLT, Nat.reduceLeDiff, Nat.reduceBEq, Nat.reduceMul, Nat.reduceSub, Nat.reduceDiv, Int.reduceNeg, Int.reduceLT, Int.reduceLE, Int.reduceEq, Int.reduceToNat, fillC, zc, List.replicate_succ, List.replicate_zero, List.flatten_cons, List.flatten_nil, toDs, toD, chunk, placeS, srcRows, List.all_cons, List.all_nil, List.all_map, Function.comp_def, List.take_nil, List.drop_nil, List.toList_toArray, C.eqbL, eqCs, eqC, List.drop_one, List.tail_cons, lim, lk9, lk9]
          refine ⟨pairsOk_ord (by kernel_rfl), pairsOk_ord (by kernel_rfl), ?_⟩
          refine AWP.ent (s' := moreS r b n e) ?_ hK
          refine ent_weaken [_, _, _, _, _, _] rfl rfl (show 1 ≤ 2 by decide) (hlow _) rfl ?_
          simp (config := { maxSteps := 2000000 }) only [go_sem, reduceIte, Nat.reduceEqDiff, Nat.reduceAdd, Nat.reduceLT, Nat.reduceLeDiff, Nat.reduceBEq, Nat.reduceMul, Nat.reduceSub, Nat.reduceDiv, Int.reduceNeg, Int.reduceLT, Int.reduceLE, Int.reduceEq, Int.reduceToNat, fillC, zc, List.replicate_succ, List.replicate_zero, List.flatten_cons, List.flatten_nil, toDs, toD, chunk, placeS, srcRows, List.all_cons, List.all_nil, List.all_map, Function.comp_def, List.take_nil, List.drop_nil, List.toList_toArray, C.eqbL, eqCs, eqC, List.drop_one, List.tail_cons, lim, lk9, wde, wdi, moreS]
          try exact .full _
        · have p2 := t2.che.frame rfl rfl rfl [.cells (roadC r), .cells (pC p), .grow (r.ps.length + 1) 3, .cells [.d (.int .i64 r.pl), .d (.int .i64 r.de), .d (.int .i64 r.di), .own 3 (List.map pD x.ps)], .gone]
          simp only [GH, roadV, roadC, pC, List.cons_append, List.nil_append, hxp, hxd, hxi] at p2
          simp (config := { maxSteps := 2000000 }) only [go_sem, reduceIte, Nat.reduceEqDiff, Nat.reduceAdd, Nat.reduceLT, Nat.reduceLeDiff, Nat.reduceBEq, Nat.reduceMul, Nat.reduceSub, Nat.reduceDiv, Int.reduceNeg, Int.reduceLT, Int.reduceLE, Int.reduceEq, Int.reduceToNat, fillC, zc, List.replicate_succ, List.replicate_zero, List.flatten_cons, List.flatten_nil, toDs, toD, chunk, placeS, srcRows, List.all_cons, List.all_nil, List.all_map, Function.comp_def, List.take_nil, List.drop_nil, List.toList_toArray, C.eqbL, eqCs, eqC, List.drop_one, List.tail_cons, lim, lk9, lk9]
          refine aops_at (p2) rfl rfl (by first | exact wk_refls _ | (repeat constructor)) ?_
          simp (config := { maxSteps := 2000000 }) only [go_sem, reduceIte, Nat.reduceEqDiff, Nat.reduceAdd, Nat.reduceLT, Nat.reduceLeDiff, Nat.reduceBEq, Nat.reduceMul, Nat.reduceSub, Nat.reduceDiv, Int.reduceNeg, Int.reduceLT, Int.reduceLE, Int.reduceEq, Int.reduceToNat, fillC, zc, List.replicate_succ, List.replicate_zero, List.flatten_cons, List.flatten_nil, toDs, toD, chunk, placeS, srcRows, List.all_cons, List.all_nil, List.all_map, Function.comp_def, List.take_nil, List.drop_nil, List.toList_toArray, C.eqbL, eqCs, eqC, List.drop_one, List.tail_cons, lim, lk9, lk9, hd, h0, h18]
          refine de_pure (h37) rfl rfl (by first | exact wk_refls _ | (repeat constructor)) ?_
          simp (config := { maxSteps := 2000000 }) only [go_sem, reduceIte, Nat.reduceEqDiff, Nat.reduceAdd, Nat.reduceLT, Nat.reduceLeDiff, Nat.reduceBEq, Nat.reduceMul, Nat.reduceSub, Nat.reduceDiv, Int.reduceNeg, Int.reduceLT, Int.reduceLE, Int.reduceEq, Int.reduceToNat, fillC, zc, List.replicate_succ, List.replicate_zero, List.flatten_cons, List.flatten_nil, toDs, toD, chunk, placeS, srcRows, List.all_cons, List.all_nil, List.all_map, Function.comp_def, List.take_nil, List.drop_nil, List.toList_toArray, C.eqbL, eqCs, eqC, List.drop_one, List.tail_cons, lim, lk9, lk9]
          refine de_pure (h37) rfl rfl (by first | exact wk_refls _ | (repeat constructor)) ?_
          simp (config := { maxSteps := 2000000 }) only [go_sem, reduceIte, Nat.reduceEqDiff, Nat.reduceAdd, Nat.reduceLT, Nat.reduceLeDiff, Nat.reduceBEq, Nat.reduceMul, Nat.reduceSub, Nat.reduceDiv, Int.reduceNeg, Int.reduceLT, Int.reduceLE, Int.reduceEq, Int.reduceToNat, fillC, zc, List.replicate_succ, List.replicate_zero, List.flatten_cons, List.flatten_nil, toDs, toD, chunk, placeS, srcRows, List.all_cons, List.all_nil, List.all_map, Function.comp_def, List.take_nil, List.drop_nil, List.toList_toArray, C.eqbL, eqCs, eqC, List.drop_one, List.tail_cons, lim, lk9, lk9]
          refine ⟨pairsOk_ord (by kernel_rfl), pairsOk_ord (by kernel_rfl), ?_⟩
          refine AWP.ent (s' := moreS r b n e) ?_ hK
          refine ent_weaken [_, _, _, _, _, _] rfl rfl (show 1 ≤ 2 by decide) (hlow _) rfl ?_
          simp (config := { maxSteps := 2000000 }) only [go_sem, reduceIte, Nat.reduceEqDiff, Nat.reduceAdd, Nat.reduceLT, Nat.reduceLeDiff, Nat.reduceBEq, Nat.reduceMul, Nat.reduceSub, Nat.reduceDiv, Int.reduceNeg, Int.reduceLT, Int.reduceLE, Int.reduceEq, Int.reduceToNat, fillC, zc, List.replicate_succ, List.replicate_zero, List.flatten_cons, List.flatten_nil, toDs, toD, chunk, placeS, srcRows, List.all_cons, List.all_nil, List.all_map, Function.comp_def, List.take_nil, List.drop_nil, List.toList_toArray, C.eqbL, eqCs, eqC, List.drop_one, List.tail_cons, lim, lk9, wde, wdi, moreS]
          try exact .full _
      · simp (config := { maxSteps := 2000000 }) only [go_sem, reduceIte, Nat.reduceEqDiff, Nat.reduceAdd, Nat.reduceLT, Nat.reduceLeDiff, Nat.reduceBEq, Nat.reduceMul, Nat.reduceSub, Nat.reduceDiv, Int.reduceNeg, Int.reduceLT, Int.reduceLE, Int.reduceEq, Int.reduceToNat, fillC, zc, List.replicate_succ, List.replicate_zero, List.flatten_cons, List.flatten_nil, toDs, toD, chunk, placeS, srcRows, List.all_cons, List.all_nil, List.all_map, Function.comp_def, List.take_nil, List.drop_nil, List.toList_toArray, C.eqbL, eqCs, eqC, List.drop_one, List.tail_cons, lim, lk9, lk9]
        refine de_pure (h37) rfl rfl (by first | exact wk_refls _ | (repeat constructor)) ?_
        simp (config := { maxSteps := 2000000 }) only [go_sem, reduceIte, Nat.reduceEqDiff, Nat.reduceAdd, Nat.reduceLT, Nat.reduceLeDiff, Nat.reduceBEq, Nat.reduceMul, Nat.reduceSub, Nat.reduceDiv, Int.reduceNeg, Int.reduceLT, Int.reduceLE, Int.reduceEq, Int.reduceToNat, fillC, zc, List.replicate_succ, List.replicate_zero, List.flatten_cons, List.flatten_nil, toDs, toD, chunk, placeS, srcRows, List.all_cons, List.all_nil, List.all_map, Function.comp_def, List.take_nil, List.drop_nil, List.toList_toArray, C.eqbL, eqCs, eqC, List.drop_one, List.tail_cons, lim, lk9, lk9]
        refine de_pure (h37) rfl rfl (by first | exact wk_refls _ | (repeat constructor)) ?_
        simp (config := { maxSteps := 2000000 }) only [go_sem, reduceIte, Nat.reduceEqDiff, Nat.reduceAdd, Nat.reduceLT, Nat.reduceLeDiff, Nat.reduceBEq, Nat.reduceMul, Nat.reduceSub, Nat.reduceDiv, Int.reduceNeg, Int.reduceLT, Int.reduceLE, Int.reduceEq, Int.reduceToNat, fillC, zc, List.replicate_succ, List.replicate_zero, List.flatten_cons, List.flatten_nil, toDs, toD, chunk, placeS, srcRows, List.all_cons, List.all_nil, List.all_map, Function.comp_def, List.take_nil, List.drop_nil, List.toList_toArray, C.eqbL, eqCs, eqC, List.drop_one, List.tail_cons, lim, lk9, lk9]
        refine ⟨pairsOk_ord (by kernel_rfl), pairsOk_ord (by kernel_rfl), ?_⟩
        refine AWP.ent (s' := moreS r b n e) ?_ hK
        refine ent_weaken [_, _, _, _, _, _] rfl rfl (show 1 ≤ 2 by decide) (hlow _) rfl ?_
        simp (config := { maxSteps := 2000000 }) only [go_sem, reduceIte, Nat.reduceEqDiff, Nat.reduceAdd, Nat.reduceLT, Nat.reduceLeDiff, Nat.reduceBEq, Nat.reduceMul, Nat.reduceSub, Nat.reduceDiv, Int.reduceNeg, Int.reduceLT, Int.reduceLE, Int.reduceEq, Int.reduceToNat, fillC, zc, List.replicate_succ, List.replicate_zero, List.flatten_cons, List.flatten_nil, toDs, toD, chunk, placeS, srcRows, List.all_cons, List.all_nil, List.all_map, Function.comp_def, List.take_nil, List.drop_nil, List.toList_toArray, C.eqbL, eqCs, eqC, List.drop_one, List.tail_cons, lim, lk9, wde, wdi, moreS]
        try exact .full _
  · refine goE_loop (bad := [6, 11, 12, 25]) (kp := kp9) (fun i : Nat => { slots := [(2, .c (.d (.int .u32 b))), (3, .c (.ptr 1 0)), (8, I n), (9, I e), (16, .c (.d (.sl [[.int .i64 r.pl, .int .i64 (r.de + 1), .int .i64 r.di, .sl (List.map pD r.ps)], [.int .i64 r.pl, .int .i64 r.de, .int .i64 (r.di + 1), .sl (List.map pD r.ps)]]))), (17, I i)], heap := [.gl 0 noneD, .cells [.d (.int .i64 r.pl), .d (.int .i64 r.de), .d (.int .i64 r.di), .d (.sl (List.map pD r.ps))]], marks := [] }) (fun i => i ≤ 2) (fun i => 2 - i) 0 mo (by kernel_rfl) Ent.refl (Nat.zero_le _) ?_
    rintro i hi
    simp (config := { maxSteps := 2000000 }) only [go_sem, reduceIte, Nat.reduceEqDiff, Nat.reduceAdd, Nat.reduceLT, Nat.reduceLeDiff, Nat.reduceBEq, Nat.reduceMul, Nat.reduceSub, Nat.reduceDiv, Int.reduceNeg, Int.reduceLT, Int.reduceLE, Int.reduceEq, Int.reduceToNat, fillC, zc, List.replicate_succ, List.replicate_zero, List.flatten_cons, List.flatten_nil, toDs, toD, chunk, placeS, srcRows, List.all_cons, List.all_nil, List.all_map, Function.comp_def, List.take_nil, List.drop_nil, List.toList_toArray, C.eqbL, eqCs, eqC, List.drop_one, List.tail_cons, lim, lk9, lk9]
    refine goE_if (fun h => ?_) (fun h => ?_)
    · have hlt : i < 2 := by have := of_decide_eq_true h; omega
      obtain ⟨y, hyr, hps, hh⟩ : ∃ y : Rd, ([[.int .i64 r.pl, .int .i64 (r.de + 1), .int .i64 r.di, .sl (List.map pD r.ps)], [.int .i64 r.pl, .int .i64 r.de, .int .i64 (r.di + 1), .sl (List.map pD r.ps)]] : List (List D))[i]? = some [.int .i64 y.pl, .int .i64 y.de, .int .i64 y.di, .sl (List.map pD y.ps)] ∧ y.ps = r.ps ∧ ∀ st : Nat → Int, (∀ i, st i = 0 ∨ st i = 1) → HoldS y st → HoldS r st := by
        rcases (show i = 0 ∨ i = 1 by omega) with rfl | rfl
        · exact ⟨deR r, rfl, rfl, hold_de r⟩
        · exact ⟨diR r, rfl, rfl, hold_di r⟩
      have hy := fine32 y
      generalize hfy : fineB y = bY at *
      simp only [roadV, roadC] at hy
      have cx : (decide ((0 : Int) ≤ (i : Int)) && decide ((i : Int) < ((2 : Nat) : Int))) = true := by simp; omega
      simp (config := { maxSteps := 2000000 }) only [go_sem, reduceIte, Nat.reduceEqDiff, Nat.reduceAdd, Nat.reduceLT, Nat.reduceLeDiff, Nat.reduceBEq, Nat.reduceMul, Nat.reduceSub, Nat.reduceDiv, Int.reduceNeg, Int.reduceLT, Int.reduceLE, Int.reduceEq, Int.reduceToNat, fillC, zc, List.replicate_succ, List.replicate_zero, List.flatten_cons, List.flatten_nil, toDs, toD, chunk, placeS, srcRows, List.all_cons, List.all_nil, List.all_map, Function.comp_def, List.take_nil, List.drop_nil, List.toList_toArray, C.eqbL, eqCs, eqC, List.drop_one, List.tail_cons, lim, lk9, hyr, cx, lk9]
      refine aops_pure' (hy) rfl rfl (by first | exact wk_refls _ | (repeat constructor)) ?_
      cases bY with
      | false =>
        simp (config := { maxSteps := 2000000 }) only [go_sem, reduceIte, Nat.reduceEqDiff, Nat.reduceAdd, Nat.reduceLT, Nat.reduceLeDiff, Nat.reduceBEq, Nat.reduceMul, Nat.reduceSub, Nat.reduceDiv, Int.reduceNeg, Int.reduceLT, Int.reduceLE, Int.reduceEq, Int.reduceToNat, fillC, zc, List.replicate_succ, List.replicate_zero, List.flatten_cons, List.flatten_nil, toDs, toD, chunk, placeS, srcRows, List.all_cons, List.all_nil, List.all_map, Function.comp_def, List.take_nil, List.drop_nil, List.toList_toArray, C.eqbL, eqCs, eqC, List.drop_one, List.tail_cons, lim, lk9, lk9]
        refine ⟨i + 1, by omega, by omega, ?_⟩
        refine ent_weaken [] rfl rfl (show 1 ≤ 2 by decide) (hlow _) rfl ?_
        simp (config := { maxSteps := 2000000 }) only [go_sem, reduceIte, Nat.reduceEqDiff, Nat.reduceAdd, Nat.reduceLT, Nat.reduceLeDiff, Nat.reduceBEq, Nat.reduceMul, Nat.reduceSub, Nat.reduceDiv, Int.reduceNeg, Int.reduceLT, Int.reduceLE, Int.reduceEq, Int.reduceToNat, fillC, zc, List.replicate_succ, List.replicate_zero, List.flatten_cons, List.flatten_nil, toDs, toD, chunk, placeS, srcRows, List.all_cons, List.all_nil, List.all_map, Function.comp_def, List.take_nil, List.drop_nil, List.toList_toArray, C.eqbL, eqCs, eqC, List.drop_one, List.tail_cons, lim, lk9, wr_succ hlt (show (2 : Nat) ≤ 140737488355328 by omega)]
      | true =>
        have hyo := okRoad_ok (fine_ok hfy)
        rcases told_least hyo with ⟨c2, n2, pr2, t2, b2, l2⟩ | ⟨t2, l2⟩
        · rcases hc with ⟨h0, h18, l1⟩ | ⟨h0, h18, l1⟩
          · have hle : n ≤ n2 := least_hard hps hh l1 l2
            have hd : decide (n2 < n) = false := by simp; omega
            have p2 := t2.che.frame rfl rfl rfl [.cells (roadC r)]
            simp only [GH, roadV, roadC, List.cons_append, List.nil_append] at p2
            simp (config := { maxSteps := 2000000 }) only [go_sem, reduceIte, Nat.reduceEqDiff, Nat.reduceAdd, Nat.reduceLT, Nat.reduceLeDiff, Nat.reduceBEq, Nat.reduceMul, Nat.reduceSub, Nat.reduceDiv, Int.reduceNeg, Int.reduceLT, Int.reduceLE, Int.reduceEq, Int.reduceToNat, fillC, zc, List.replicate_succ, List.replicate_zero, List.flatten_cons, List.flatten_nil, toDs, toD, chunk, placeS, srcRows, List.all_cons, List.all_nil, List.all_map, Function.comp_def, List.take_nil, List.drop_nil, List.toList_toArray, C.eqbL, eqCs, eqC, List.drop_one, List.tail_cons, lim, lk9, hyr, cx, lk9]
            refine aops_at (p2) rfl rfl (by first | exact wk_refls _ | (repeat constructor)) ?_
            simp (config := { maxSteps := 2000000 }) only [go_sem, reduceIte, Nat.reduceEqDiff, Nat.reduceAdd, Nat.reduceLT, Nat.reduceLeDiff, Nat.reduceBEq, Nat.reduceMul, Nat.reduceSub, Nat.reduceDiv, Int.reduceNeg, Int.reduceLT, Int.reduceLE, Int.reduceEq, Int.reduceToNat, fillC, zc, List.replicate_succ, List.replicate_zero, List.flatten_cons, List.flatten_nil, toDs, toD, chunk, placeS, srcRows, List.all_cons, List.all_nil, List.all_map, Function.comp_def, List.take_nil, List.drop_nil, List.toList_toArray, C.eqbL, eqCs, eqC, List.drop_one, List.tail_cons, lim, lk9, hd, h0, h18, lk9]
            refine ⟨i + 1, by omega, by omega, ?_⟩
            refine ent_weaken [] rfl rfl (show 1 ≤ 2 by decide) (hlow _) rfl ?_
            simp (config := { maxSteps := 2000000 }) only [go_sem, reduceIte, Nat.reduceEqDiff, Nat.reduceAdd, Nat.reduceLT, Nat.reduceLeDiff, Nat.reduceBEq, Nat.reduceMul, Nat.reduceSub, Nat.reduceDiv, Int.reduceNeg, Int.reduceLT, Int.reduceLE, Int.reduceEq, Int.reduceToNat, fillC, zc, List.replicate_succ, List.replicate_zero, List.flatten_cons, List.flatten_nil, toDs, toD, chunk, placeS, srcRows, List.all_cons, List.all_nil, List.all_map, Function.comp_def, List.take_nil, List.drop_nil, List.toList_toArray, C.eqbL, eqCs, eqC, List.drop_one, List.tail_cons, lim, lk9, wr_succ hlt (show (2 : Nat) ≤ 140737488355328 by omega)]
          · obtain ⟨st, h01, h2, _⟩ := l2.some
            exact absurd (hh st h01 h2) (l1 st h01)
        · have p2 := t2.che.frame rfl rfl rfl [.cells (roadC r)]
          simp only [GH, roadV, roadC, List.cons_append, List.nil_append] at p2
          rcases hc with ⟨h0, h18, l1⟩ | ⟨h0, h18, l1⟩
          · simp (config := { maxSteps := 2000000 }) only [go_sem, reduceIte, Nat.reduceEqDiff, Nat.reduceAdd, Nat.reduceLT, Nat.reduceLeDiff, Nat.reduceBEq, Nat.reduceMul, Nat.reduceSub, Nat.reduceDiv, Int.reduceNeg, Int.reduceLT, Int.reduceLE, Int.reduceEq, Int.reduceToNat, fillC, zc, List.replicate_succ, List.replicate_zero, List.flatten_cons, List.flatten_nil, toDs, toD, chunk, placeS, srcRows, List.all_cons, List.all_nil, List.all_map, Function.comp_def, List.take_nil, List.drop_nil, List.toList_toArray, C.eqbL, eqCs, eqC, List.drop_one, List.tail_cons, lim, lk9, hyr, cx, lk9]
            refine aops_at (p2) rfl rfl (by first | exact wk_refls _ | (repeat constructor)) ?_
            simp (config := { maxSteps := 2000000 }) only [go_sem, reduceIte, Nat.reduceEqDiff, Nat.reduceAdd, Nat.reduceLT, Nat.reduceLeDiff, Nat.reduceBEq, Nat.reduceMul, Nat.reduceSub, Nat.reduceDiv, Int.reduceNeg, Int.reduceLT, Int.reduceLE, Int.reduceEq, Int.reduceToNat, fillC, zc, List.replicate_succ, List.replicate_zero, List.flatten_cons, List.flatten_nil, toDs, toD, chunk, placeS, srcRows, List.all_cons, List.all_nil, List.all_map, Function.comp_def, List.take_nil, List.drop_nil, List.toList_toArray, C.eqbL, eqCs, eqC, List.drop_one, List.tail_cons, lim, lk9, h0, h18, lk9]
            refine ⟨i + 1, by omega, by omega, ?_⟩
            refine ent_weaken [] rfl rfl (show 1 ≤ 2 by decide) (hlow _) rfl ?_
            simp (config := { maxSteps := 2000000 }) only [go_sem, reduceIte, Nat.reduceEqDiff, Nat.reduceAdd, Nat.reduceLT, Nat.reduceLeDiff, Nat.reduceBEq, Nat.reduceMul, Nat.reduceSub, Nat.reduceDiv, Int.reduceNeg, Int.reduceLT, Int.reduceLE, Int.reduceEq, Int.reduceToNat, fillC, zc, List.replicate_succ, List.replicate_zero, List.flatten_cons, List.flatten_nil, toDs, toD, chunk, placeS, srcRows, List.all_cons, List.all_nil, List.all_map, Function.comp_def, List.take_nil, List.drop_nil, List.toList_toArray, C.eqbL, eqCs, eqC, List.drop_one, List.tail_cons, lim, lk9, wr_succ hlt (show (2 : Nat) ≤ 140737488355328 by omega)]
          · simp (config := { maxSteps := 2000000 }) only [go_sem, reduceIte, Nat.reduceEqDiff, Nat.reduceAdd, Nat.reduceLT, Nat.reduceLeDiff, Nat.reduceBEq, Nat.reduceMul, Nat.reduceSub, Nat.reduceDiv, Int.reduceNeg, Int.reduceLT, Int.reduceLE, Int.reduceEq, Int.reduceToNat, fillC, zc, List.replicate_succ, List.replicate_zero, List.flatten_cons, List.flatten_nil, toDs, toD, chunk, placeS, srcRows, List.all_cons, List.all_nil, List.all_map, Function.comp_def, List.take_nil, List.drop_nil, List.toList_toArray, C.eqbL, eqCs, eqC, List.drop_one, List.tail_cons, lim, lk9, hyr, cx, lk9]
            refine aops_at (p2) rfl rfl (by first | exact wk_refls _ | (repeat constructor)) ?_
            simp (config := { maxSteps := 2000000 }) only [go_sem, reduceIte, Nat.reduceEqDiff, Nat.reduceAdd, Nat.reduceLT, Nat.reduceLeDiff, Nat.reduceBEq, Nat.reduceMul, Nat.reduceSub, Nat.reduceDiv, Int.reduceNeg, Int.reduceLT, Int.reduceLE, Int.reduceEq, Int.reduceToNat, fillC, zc, List.replicate_succ, List.replicate_zero, List.flatten_cons, List.flatten_nil, toDs, toD, chunk, placeS, srcRows, List.all_cons, List.all_nil, List.all_map, Function.comp_def, List.take_nil, List.drop_nil, List.toList_toArray, C.eqbL, eqCs, eqC, List.drop_one, List.tail_cons, lim, lk9, h0, h18, lk9]
            refine ⟨i + 1, by omega, by omega, ?_⟩
            refine ent_weaken [] rfl rfl (show 1 ≤ 2 by decide) (hlow _) rfl ?_
            simp (config := { maxSteps := 2000000 }) only [go_sem, reduceIte, Nat.reduceEqDiff, Nat.reduceAdd, Nat.reduceLT, Nat.reduceLeDiff, Nat.reduceBEq, Nat.reduceMul, Nat.reduceSub, Nat.reduceDiv, Int.reduceNeg, Int.reduceLT, Int.reduceLE, Int.reduceEq, Int.reduceToNat, fillC, zc, List.replicate_succ, List.replicate_zero, List.flatten_cons, List.flatten_nil, toDs, toD, chunk, placeS, srcRows, List.all_cons, List.all_nil, List.all_map, Function.comp_def, List.take_nil, List.drop_nil, List.toList_toArray, C.eqbL, eqCs, eqC, List.drop_one, List.tail_cons, lim, lk9, wr_succ hlt (show (2 : Nat) ≤ 140737488355328 by omega)]
    · have hi' : i = 2 := by simp at h; omega
      subst hi'
      have hlow3 : ∀ n, [AB.gl 0 noneD, .cells (roadC r), .grow n 3].all (AB.low 3) = true := fun n => by
        simp only [List.all_cons, List.all_nil, AB.low, roadC_low, Bool.and_self]
      simp (config := { maxSteps := 2000000 }) only [go_sem, reduceIte, Nat.reduceEqDiff, Nat.reduceAdd, Nat.reduceLT, Nat.reduceLeDiff, Nat.reduceBEq, Nat.reduceMul, Nat.reduceSub, Nat.reduceDiv, Int.reduceNeg, Int.reduceLT, Int.reduceLE, Int.reduceEq, Int.reduceToNat, fillC, zc, List.replicate_succ, List.replicate_zero, List.flatten_cons, List.flatten_nil, toDs, toD, chunk, placeS, srcRows, List.all_cons, List.all_nil, List.all_map, Function.comp_def, List.take_nil, List.drop_nil, List.toList_toArray, C.eqbL, eqCs, eqC, List.drop_one, List.tail_cons, lim, lk9, lk9]
      refine goE_loop (bad := [6, 11, 12, 25]) (kp := kp9) (fun i : Nat => { slots := [(2, .c (.d (.int .u32 b))), (3, .c (.ptr 1 0)), (9, I e), (21, .c (.own 2 ((r.ps.take i).map fun p => pD { p with co := 1 }))), (22, I i)], heap := [.gl 0 noneD, .cells (roadC r), .grow i 3], marks := [] }) (fun i => i ≤ r.ps.length) (fun i => r.ps.length - i) 0 mo (by kernel_rfl) ?_ (Nat.zero_le _) ?_
      · refine Ent.trans (ent_own 21 3 rfl) ?_
        refine ent_weaken [] (by simp only [List.append_nil, roadC]; rfl) rfl (show 1 ≤ 3 by decide) (hlow3 _) rfl ?_
        simp (config := { maxSteps := 2000000 }) only [go_sem, reduceIte, Nat.reduceEqDiff, Nat.reduceAdd, Nat.reduceLT, Nat.reduceLeDiff, Nat.reduceBEq, Nat.reduceMul, Nat.reduceSub, Nat.reduceDiv, Int.reduceNeg, Int.reduceLT, Int.reduceLE, Int.reduceEq, Int.reduceToNat, fillC, zc, List.replicate_succ, List.replicate_zero, List.flatten_cons, List.flatten_nil, toDs, toD, chunk, placeS, srcRows, List.all_cons, List.all_nil, List.all_map, Function.comp_def, List.take_nil, List.drop_nil, List.toList_toArray, C.eqbL, eqCs, eqC, List.drop_one, List.tail_cons, lim, lk9, roadC, List.take_zero, List.map_nil]
        exact .refl _
      rintro i hi
      simp (config := { maxSteps := 2000000 }) only [go_sem, reduceIte, Nat.reduceEqDiff, Nat.reduceAdd, Nat.reduceLT, Nat.reduceLeDiff, Nat.reduceBEq, Nat.reduceMul, Nat.reduceSub, Nat.reduceDiv, Int.reduceNeg, Int.reduceLT, Int.reduceLE, Int.reduceEq, Int.reduceToNat, fillC, zc, List.replicate_succ, List.replicate_zero, List.flatten_cons, List.flatten_nil, toDs, toD, chunk, placeS, srcRows, List.all_cons, List.all_nil, List.all_map, Function.comp_def, List.take_nil, List.drop_nil, List.toList_toArray, C.eqbL, eqCs, eqC, List.drop_one, List.tail_cons, lim, lk9, roadC, lk9]
      refine goE_if (fun h => ?_) (fun h => ?_)
      · have hlt : i < r.ps.length := by simpa using h
        obtain ⟨q, hq⟩ := get_of_lt hlt
        have hpm : (r.ps.map pD)[i]? = some [.int .i64 q.fr, .int .i64 q.to, .int .i64 q.co] := by rw [List.getElem?_map, hq]; rfl
        have cx : (decide ((0 : Int) ≤ (i : Int)) && decide ((i : Int) < (r.ps.length : Int))) = true := by simp; omega
        have hll : ((r.ps.take i).map fun p => pD { p with co := 1 }).length = i := by simp; omega
        have htk : (r.ps.take i).length = i := by simp; omega
        have cs1 : decide ((i + 1 + (i + 1) / 4 + 256) * 24 ≤ 281474976710656) = true := by simp; omega
        have cs2 : decide (i ≤ 140737488355327) = true := by simp; omega
        simp (config := { maxSteps := 2000000 }) only [go_sem, reduceIte, Nat.reduceEqDiff, Nat.reduceAdd, Nat.reduceLT, Nat.reduceLeDiff, Nat.reduceBEq, Nat.reduceMul, Nat.reduceSub, Nat.reduceDiv, Int.reduceNeg, Int.reduceLT, Int.reduceLE, Int.reduceEq, Int.reduceToNat, fillC, zc, List.replicate_succ, List.replicate_zero, List.flatten_cons, List.flatten_nil, toDs, toD, chunk, placeS, srcRows, List.all_cons, List.all_nil, List.all_map, Function.comp_def, List.take_nil, List.drop_nil, List.toList_toArray, C.eqbL, eqCs, eqC, List.drop_one, List.tail_cons, lim, lk9, hpm, cx, pD, htk, cs1, cs2, lk9]
        refine ⟨by simp, pairsOk_ord (by kernel_rfl), i + 1, hlt, by omega, ?_⟩
        refine ent_weaken [_] (by simp only [List.cons_append, List.nil_append, roadC]; rfl) rfl (show 1 ≤ 3 by decide) (hlow3 _) rfl ?_
        simp (config := { maxSteps := 2000000 }) only [go_sem, reduceIte, Nat.reduceEqDiff, Nat.reduceAdd, Nat.reduceLT, Nat.reduceLeDiff, Nat.reduceBEq, Nat.reduceMul, Nat.reduceSub, Nat.reduceDiv, Int.reduceNeg, Int.reduceLT, Int.reduceLE, Int.reduceEq, Int.reduceToNat, fillC, zc, List.replicate_succ, List.replicate_zero, List.flatten_cons, List.flatten_nil, toDs, toD, chunk, placeS, srcRows, List.all_cons, List.all_nil, List.all_map, Function.comp_def, List.take_nil, List.drop_nil, List.toList_toArray, C.eqbL, eqCs, eqC, List.drop_one, List.tail_cons, lim, lk9, wr_succ hlt (show r.ps.length ≤ 140737488355328 by omega), take_succ_eq hq, List.map_append, List.map_cons, List.map_nil, pD]
        try exact .refl _
      · have hi' : i = r.ps.length := by simp at h; omega
        subst hi'
        have hok := fine_ok hfi
        have hch := okCh_chN hok b
        have h26 := holds26 r (chN b r.ps.length) hch
        have ch35 := choice35 r b hrl
        have ho37 := with37 r (onesR r).ps
        have hco := costL_ones (okCh_ones hr hch)
        generalize chN b r.ps.length = ch at *
        simp only [roadV, roadC, postsV, onesR, List.map_map] at ho37
        simp only [roadV, roadC] at ch35 h26
        simp (config := { maxSteps := 2000000 }) only [go_sem, reduceIte, Nat.reduceEqDiff, Nat.reduceAdd, Nat.reduceLT, Nat.reduceLeDiff, Nat.reduceBEq, Nat.reduceMul, Nat.reduceSub, Nat.reduceDiv, Int.reduceNeg, Int.reduceLT, Int.reduceLE, Int.reduceEq, Int.reduceToNat, fillC, zc, List.replicate_succ, List.replicate_zero, List.flatten_cons, List.flatten_nil, toDs, toD, chunk, placeS, srcRows, List.all_cons, List.all_nil, List.all_map, Function.comp_def, List.take_nil, List.drop_nil, List.toList_toArray, C.eqbL, eqCs, eqC, List.drop_one, List.tail_cons, lim, lk9, List.take_length, List.map_map, lk9]
        refine aops_pure' (ho37) rfl rfl (by first | exact wk_refls _ | (repeat constructor)) ?_
        simp (config := { maxSteps := 2000000 }) only [go_sem, reduceIte, Nat.reduceEqDiff, Nat.reduceAdd, Nat.reduceLT, Nat.reduceLeDiff, Nat.reduceBEq, Nat.reduceMul, Nat.reduceSub, Nat.reduceDiv, Int.reduceNeg, Int.reduceLT, Int.reduceLE, Int.reduceEq, Int.reduceToNat, fillC, zc, List.replicate_succ, List.replicate_zero, List.flatten_cons, List.flatten_nil, toDs, toD, chunk, placeS, srcRows, List.all_cons, List.all_nil, List.all_map, Function.comp_def, List.take_nil, List.drop_nil, List.toList_toArray, C.eqbL, eqCs, eqC, List.drop_one, List.tail_cons, lim, lk9, lk9]
        rcases told_least (ones_ok hr) with ⟨c3, n3, pr3, t3, b3, l3⟩ | ⟨t3, l3⟩
        · rcases hc with ⟨h0, h18, l1⟩ | ⟨h0, h18, l1⟩
          · obtain rfl : e = 0 := by simpa using h0
            have hn : n3 = c3.length := by rw [← b3.cost, costL_ones b3.ch]
            subst hn
            have hge : holdsB r ch = true → decide ((c3.length : Int) ≤ ch.length) = true := fun hb => by
              have h1 := l3.all (ind ch) (ind01 ch) ((hold_ones r _).2 (holdsB_iff.1 hb))
              rw [show costP (onesR r) (ind ch) (onesR r).ps.length = ch.length from hco] at h1
              exact decide_eq_true h1
            have p3 := t3.che.frame rfl rfl rfl [.cells (roadC r), .grow r.ps.length 3]
            simp only [GH, roadV, roadC, onesR, List.map_map, List.cons_append, List.nil_append] at p3
            refine aops_at (p3) rfl rfl (by first | exact wk_refls _ | (repeat constructor)) ?_
            simp (config := { maxSteps := 2000000 }) only [go_sem, reduceIte, Nat.reduceEqDiff, Nat.reduceAdd, Nat.reduceLT, Nat.reduceLeDiff, Nat.reduceBEq, Nat.reduceMul, Nat.reduceSub, Nat.reduceDiv, Int.reduceNeg, Int.reduceLT, Int.reduceLE, Int.reduceEq, Int.reduceToNat, fillC, zc, List.replicate_succ, List.replicate_zero, List.flatten_cons, List.flatten_nil, toDs, toD, chunk, placeS, srcRows, List.all_cons, List.all_nil, List.all_map, Function.comp_def, List.take_nil, List.drop_nil, List.toList_toArray, C.eqbL, eqCs, eqC, List.drop_one, List.tail_cons, lim, lk9, lk9]
            refine aops_pure' (ch35) rfl rfl (by first | exact wk_refls _ | (repeat constructor)) ?_
            simp (config := { maxSteps := 2000000 }) only [go_sem, reduceIte, Nat.reduceEqDiff, Nat.reduceAdd, Nat.reduceLT, Nat.reduceLeDiff, Nat.reduceBEq, Nat.reduceMul, Nat.reduceSub, Nat.reduceDiv, Int.reduceNeg, Int.reduceLT, Int.reduceLE, Int.reduceEq, Int.reduceToNat, fillC, zc, List.replicate_succ, List.replicate_zero, List.flatten_cons, List.flatten_nil, toDs, toD, chunk, placeS, srcRows, List.all_cons, List.all_nil, List.all_map, Function.comp_def, List.take_nil, List.drop_nil, List.toList_toArray, C.eqbL, eqCs, eqC, List.drop_one, List.tail_cons, lim, lk9, ints, bne_self_eq_false, lk9]
            simp only [ints] at h26
            refine aops_pure' (h26) rfl rfl (by first | exact wk_refls _ | (repeat constructor)) ?_
            cases hb : holdsB r ch with
            | false =>
              simp (config := { maxSteps := 2000000 }) only [go_sem, reduceIte, Nat.reduceEqDiff, Nat.reduceAdd, Nat.reduceLT, Nat.reduceLeDiff, Nat.reduceBEq, Nat.reduceMul, Nat.reduceSub, Nat.reduceDiv, Int.reduceNeg, Int.reduceLT, Int.reduceLE, Int.reduceEq, Int.reduceToNat, fillC, zc, List.replicate_succ, List.replicate_zero, List.flatten_cons, List.flatten_nil, toDs, toD, chunk, placeS, srcRows, List.all_cons, List.all_nil, List.all_map, Function.comp_def, List.take_nil, List.drop_nil, List.toList_toArray, C.eqbL, eqCs, eqC, List.drop_one, List.tail_cons, lim, lk9, lk9]
              refine aops_at (wa _) rfl rfl (by first | exact wk_refls _ | (repeat constructor)) ?_
              simp (config := { maxSteps := 2000000 }) only [go_sem, reduceIte, Nat.reduceEqDiff, Nat.reduceAdd, Nat.reduceLT, Nat.reduceLeDiff, Nat.reduceBEq, Nat.reduceMul, Nat.reduceSub, Nat.reduceDiv, Int.reduceNeg, Int.reduceLT, Int.reduceLE, Int.reduceEq, Int.reduceToNat, fillC, zc, List.replicate_succ, List.replicate_zero, List.flatten_cons, List.flatten_nil, toDs, toD, chunk, placeS, srcRows, List.all_cons, List.all_nil, List.all_map, Function.comp_def, List.take_nil, List.drop_nil, List.toList_toArray, C.eqbL, eqCs, eqC, List.drop_one, List.tail_cons, lim, lk9, lk9]
              exact ⟨_, rfl⟩
            | true =>
              have hge := hge hb
              simp (config := { maxSteps := 2000000 }) only [go_sem, reduceIte, Nat.reduceEqDiff, Nat.reduceAdd, Nat.reduceLT, Nat.reduceLeDiff, Nat.reduceBEq, Nat.reduceMul, Nat.reduceSub, Nat.reduceDiv, Int.reduceNeg, Int.reduceLT, Int.reduceLE, Int.reduceEq, Int.reduceToNat, fillC, zc, List.replicate_succ, List.replicate_zero, List.flatten_cons, List.flatten_nil, toDs, toD, chunk, placeS, srcRows, List.all_cons, List.all_nil, List.all_map, Function.comp_def, List.take_nil, List.drop_nil, List.toList_toArray, C.eqbL, eqCs, eqC, List.drop_one, List.tail_cons, lim, lk9, hge, lk9]
              refine aops_at (wa _) rfl rfl (by first | exact wk_refls _ | (repeat constructor)) ?_
              simp (config := { maxSteps := 2000000 }) only [go_sem, reduceIte, Nat.reduceEqDiff, Nat.reduceAdd, Nat.reduceLT, Nat.reduceLeDiff, Nat.reduceBEq, Nat.reduceMul, Nat.reduceSub, Nat.reduceDiv, Int.reduceNeg, Int.reduceLT, Int.reduceLE, Int.reduceEq, Int.reduceToNat, fillC, zc, List.replicate_succ, List.replicate_zero, List.flatten_cons, List.flatten_nil, toDs, toD, chunk, placeS, srcRows, List.all_cons, List.all_nil, List.all_map, Function.comp_def, List.take_nil, List.drop_nil, List.toList_toArray, C.eqbL, eqCs, eqC, List.drop_one, List.tail_cons, lim, lk9, lk9]
              exact ⟨_, rfl⟩
          · obtain ⟨st, h01, h2, _⟩ := l3.some
            exact absurd ((hold_ones r st).1 h2) (l1 st h01)
        · rcases hc with ⟨h0, h18, l1⟩ | ⟨h0, h18, l1⟩
          · obtain ⟨st, h01, h2, _⟩ := l1.some
            exact absurd ((hold_ones r st).2 h2) (l3 st h01)
          · obtain rfl : e = 18 := by simpa using h18
            have hb : holdsB r ch = false := by
              cases hb : holdsB r ch with
              | false => rfl
              | true => exact absurd (holdsB_iff.1 hb) (l1 _ (ind01 ch))
            rw [hb] at h26
            have p3 := t3.che.frame rfl rfl rfl [.cells (roadC r), .grow r.ps.length 3]
            simp only [GH, roadV, roadC, onesR, List.map_map, List.cons_append, List.nil_append] at p3
            refine aops_at (p3) rfl rfl (by first | exact wk_refls _ | (repeat constructor)) ?_
            simp (config := { maxSteps := 2000000 }) only [go_sem, reduceIte, Nat.reduceEqDiff, Nat.reduceAdd, Nat.reduceLT, Nat.reduceLeDiff, Nat.reduceBEq, Nat.reduceMul, Nat.reduceSub, Nat.reduceDiv, Int.reduceNeg, Int.reduceLT, Int.reduceLE, Int.reduceEq, Int.reduceToNat, fillC, zc, List.replicate_succ, List.replicate_zero, List.flatten_cons, List.flatten_nil, toDs, toD, chunk, placeS, srcRows, List.all_cons, List.all_nil, List.all_map, Function.comp_def, List.take_nil, List.drop_nil, List.toList_toArray, C.eqbL, eqCs, eqC, List.drop_one, List.tail_cons, lim, lk9, lk9]
            refine aops_pure' (ch35) rfl rfl (by first | exact wk_refls _ | (repeat constructor)) ?_
            simp (config := { maxSteps := 2000000 }) only [go_sem, reduceIte, Nat.reduceEqDiff, Nat.reduceAdd, Nat.reduceLT, Nat.reduceLeDiff, Nat.reduceBEq, Nat.reduceMul, Nat.reduceSub, Nat.reduceDiv, Int.reduceNeg, Int.reduceLT, Int.reduceLE, Int.reduceEq, Int.reduceToNat, fillC, zc, List.replicate_succ, List.replicate_zero, List.flatten_cons, List.flatten_nil, toDs, toD, chunk, placeS, srcRows, List.all_cons, List.all_nil, List.all_map, Function.comp_def, List.take_nil, List.drop_nil, List.toList_toArray, C.eqbL, eqCs, eqC, List.drop_one, List.tail_cons, lim, lk9, ints, bne_self_eq_false, lk9]
            simp only [ints] at h26
            refine aops_pure' (h26) rfl rfl (by first | exact wk_refls _ | (repeat constructor)) ?_
            simp (config := { maxSteps := 2000000 }) only [go_sem, reduceIte, Nat.reduceEqDiff, Nat.reduceAdd, Nat.reduceLT, Nat.reduceLeDiff, Nat.reduceBEq, Nat.reduceMul, Nat.reduceSub, Nat.reduceDiv, Int.reduceNeg, Int.reduceLT, Int.reduceLE, Int.reduceEq, Int.reduceToNat, fillC, zc, List.replicate_succ, List.replicate_zero, List.flatten_cons, List.flatten_nil, toDs, toD, chunk, placeS, srcRows, List.all_cons, List.all_nil, List.all_map, Function.comp_def, List.take_nil, List.drop_nil, List.toList_toArray, C.eqbL, eqCs, eqC, List.drop_one, List.tail_cons, lim, lk9, lk9]
            refine aops_at (wa _) rfl rfl (by first | exact wk_refls _ | (repeat constructor)) ?_
            simp (config := { maxSteps := 2000000 }) only [go_sem, reduceIte, Nat.reduceEqDiff, Nat.reduceAdd, Nat.reduceLT, Nat.reduceLeDiff, Nat.reduceBEq, Nat.reduceMul, Nat.reduceSub, Nat.reduceDiv, Int.reduceNeg, Int.reduceLT, Int.reduceLE, Int.reduceEq, Int.reduceToNat, fillC, zc, List.replicate_succ, List.replicate_zero, List.flatten_cons, List.flatten_nil, toDs, toD, chunk, placeS, srcRows, List.all_cons, List.all_nil, List.all_map, Function.comp_def, List.take_nil, List.drop_nil, List.toList_toArray, C.eqbL, eqCs, eqC, List.drop_one, List.tail_cons, lim, lk9, lk9]
            exact ⟨_, rfl⟩
end Go.Proofs.YteamgbndnfjoaaaDoor
