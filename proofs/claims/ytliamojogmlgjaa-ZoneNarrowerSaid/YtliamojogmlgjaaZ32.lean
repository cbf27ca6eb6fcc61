/- Zones: the statement Narrower. -/
import Derived.Test.YtliamojogmlgjaaZ26
set_option linter.unusedSimpArgs false
set_option linter.unusedVariables false
set_option maxRecDepth 100000
namespace Go.Proofs.Ytliamojogmlgjaa
open Go Go.Abs Go.Proofs
def kp9 : List (Nat × List Nat) := [(0, [1, 3, 4, 6]), (1, [1, 3, 4, 6, 30]), (2, [8]), (3, [1, 3, 4, 6, 9]), (4, [3, 4, 6, 9, 10]), (5, [3, 4, 6, 9, 10, 11]), (6, [3, 4, 6, 9, 10, 11]), (7, [3, 4, 9, 10, 11]), (8, [3, 4, 9]), (9, [4, 9, 12]), (10, [4, 9, 12, 13, 14]), (11, [4, 9, 12, 13, 14, 15, 16]), (12, [4, 9, 12, 13, 14, 15, 16, 17, 18]), (13, [4, 12, 13, 14, 15, 16, 17, 18, 19, 20]), (14, [4, 12, 13, 14, 15, 16, 17, 18, 19, 20, 113]), (15, [8]), (16, [4, 12, 13, 17, 161]), (17, [8]), (18, [13, 21, 22]), (19, [13, 21, 170]), (20, [8]), (21, [13, 21, 173]), (22, [8]), (23, [13, 14, 23]), (24, [8])]
theorem lk9 : lookK kp9 0 = some [1, 3, 4, 6] ∧ lookK kp9 1 = some [1, 3, 4, 6, 30] ∧ lookK kp9 2 = some [8] ∧ lookK kp9 3 = some [1, 3, 4, 6, 9] ∧ lookK kp9 4 = some [3, 4, 6, 9, 10] ∧ lookK kp9 5 = some [3, 4, 6, 9, 10, 11] ∧ lookK kp9 6 = some [3, 4, 6, 9, 10, 11] ∧ lookK kp9 7 = some [3, 4, 9, 10, 11] ∧ lookK kp9 8 = some [3, 4, 9] ∧ lookK kp9 9 = some [4, 9, 12] ∧ lookK kp9 10 = some [4, 9, 12, 13, 14] ∧ lookK kp9 11 = some [4, 9, 12, 13, 14, 15, 16] ∧ lookK kp9 12 = some [4, 9, 12, 13, 14, 15, 16, 17, 18] ∧ lookK kp9 13 = some [4, 12, 13, 14, 15, 16, 17, 18, 19, 20] ∧ lookK kp9 14 = some [4, 12, 13, 14, 15, 16, 17, 18, 19, 20, 113] ∧ lookK kp9 15 = some [8] ∧ lookK kp9 16 = some [4, 12, 13, 17, 161] ∧ lookK kp9 17 = some [8] ∧ lookK kp9 18 = some [13, 21, 22] ∧ lookK kp9 19 = some [13, 21, 170] ∧ lookK kp9 20 = some [8] ∧ lookK kp9 21 = some [13, 21, 173] ∧ lookK kp9 22 = some [8] ∧ lookK kp9 23 = some [13, 14, 23] ∧ lookK kp9 24 = some [8] := ⟨rfl, rfl, rfl, rfl, rfl, rfl, rfl, rfl, rfl, rfl, rfl, rfl, rfl, rfl, rfl, rfl, rfl, rfl, rfl, rfl, rfl, rfl, rfl, rfl, rfl⟩

/-- A lamp with another range. -/
def nrL (l : La) (k : Nat) (r : Rg) : La := ⟨l.an, l.li.set k r, l.fa, l.we⟩
theorem nr_ok {l : La} (h : OkLa l) {k : Nat} (hk : k < l.an.length) {r : Rg} (hr : 0 ≤ r.lo ∧ r.lo ≤ r.hi ∧ r.hi ≤ 200) : OkLa (nrL l k r) := by
  have hli := h.li
  refine ⟨h.m2, h.m11, h.a0, h.up, by simp [nrL, hli], h.fa, h.we, fun i hi => ?_, h.wr⟩
  have hi : i < l.an.length := hi
  have e : gR (nrL l k r).li i = if i = k then r else gR l.li i := gR_set (by omega) i
  rw [e]
  split
  · exact hr
  · exact h.lr i hi
theorem nr_L0 {l : La} (h : OkLa l) {k : Nat} (hk : k < l.an.length) (r : Rg) (j : Nat) : L0 (nrL l k r) j = upd (L0 l) (P l k) r.lo j ∧ H0 (nrL l k r) j = upd (H0 l) (P l k) r.hi j := by
  have hli := h.li
  have gr : ∀ i, gR (nrL l k r).li i = if i = k then r else gR l.li i := gR_set (by omega)
  have e0 : angN (nrL l k r) j = angN l j := rfl
  have la : (nrL l k r).an.length = l.an.length := rfl
  unfold upd L0 L0m H0 H0m
  rw [e0, la, gr]
  by_cases e : j = P l k
  · subst e
    rw [ang_eq h hk]; simp [hk]
  · rw [if_neg e, if_neg e]
    by_cases c : angN l j < l.an.length
    · have hne : angN l j ≠ k := fun e2 => e (by have a := ang_at h c; rw [e2] at a; exact a.symm)
      rw [if_neg hne]; exact ⟨rfl, rfl⟩
    · simp only [if_neg c]; exact ⟨trivial, trivial⟩
theorem nr_more {l : La} (h : OkLa l) {k : Nat} (hk : k < l.an.length) {r : Rg} (h1 : (gR l.li k).lo ≤ r.lo) (h2 : r.hi ≤ (gR l.li k).hi) {j : Nat} (hj : j < l.we.length) : bl l j ≤ bl (nrL l k r) j ∧ bh (nrL l k r) j ≤ bh l j := by
  have a := L0_at h hk
  have b := H0_at h hk
  have hP := (lay h).lt hk
  constructor
  · show Lo l.we.length (dir l) (L0 l) j ≤ Lo l.we.length (dir l) (L0 (nrL l k r)) j
    refine lo_more (fun q _ => ?_) hj
    rw [(nr_L0 h hk r q).1]
    unfold upd
    split
    · rename_i e; subst e; rw [a]; exact h1
    · exact Int.le_refl _
  · show Hi l.we.length (dir l) (H0 (nrL l k r)) j ≤ Hi l.we.length (dir l) (H0 l) j
    refine hi_less (fun q _ => ?_) hj
    rw [(nr_L0 h hk r q).2]
    unfold upd
    split
    · rename_i e; subst e; rw [b]; exact h2
    · exact Int.le_refl _
theorem nr_doubt {l : La} (h : OkLa l) {k : Nat} (hk : k < l.an.length) {r : Rg} (h1 : (gR l.li k).lo ≤ r.lo) (h2 : r.hi ≤ (gR l.li k).hi) (hd : dbB l = true) : dbB (nrL l k r) = true := by
  obtain ⟨j, hj, hb⟩ := (dbB_iff l).1 hd
  have := nr_more h hk h1 h2 hj
  exact (dbB_iff _).2 ⟨j, hj, by omega⟩
theorem same_test {l : La} (ok : OkLa l) (h10 : l.an.length ≤ 10) (hd : dbB l = false) {K : Nat} (hK : K < l.we.length) : tsO l K ⟨bl l K, bh l K⟩ = true ∧ dbB (tsL l K ⟨bl l K, bh l K⟩) = false ∧ spLo (tsL l K ⟨bl l K, bh l K⟩) = spLo l ∧ spHi (tsL l K ⟨bl l K, bh l K⟩) = spHi l := by
  have a := bl_range ok hK
  have b := bh_range ok hK
  have c := dbB_no hd hK
  obtain ⟨t1, t2, _⟩ := ts_true ok h10 hK (r := ⟨bl l K, bh l K⟩) ⟨a.1, c, b.2⟩ (lo_true (fun k hk => dbB_no hd hk)) ⟨Int.le_refl _, c⟩
  refine ⟨t1, t2, ?_, ?_⟩
  · unfold spLo; rw [ts_we]; exact sumW_congr fun k hk => (ts_same ok h10 hd hK hk).1
  · unfold spHi; rw [ts_we]; exact sumW_congr fun k hk => (ts_same ok h10 hd hK hk).2
theorem liC_free (id : Nat) : ∀ l : List Rg, C.freeL id (liC l) = true
  | [] => rfl
  | a :: l => by rw [liC_cons, C.freeL, C.freeL, liC_free id l]; rfl
theorem liC_low (n : Nat) (l : List Rg) : C.lowL n (liC l) = true := by rw [← liC_eq, lowL_d]
theorem all_swap {pre post : List Note} {N M : Note} {P : Note → Bool} (h : P N = P M) : (pre ++ N :: post).all P = (pre ++ M :: post).all P := by
  simp only [List.all_append, List.all_cons, h]
/-- A new slice whose cells name no block. -/
theorem pairsOk_vec {m3 : Bool} {ops : Array Oper} {pre post : List Note} {j id n sz : Nat} {x : V} {w : Foot} {cs : List C} (hf : ∀ id, C.freeL id cs = true) (h : pairsOk m3 ops (pre ++ ⟨j, x, .put id (.vec n sz []), w⟩ :: post) = true) : pairsOk m3 ops (pre ++ ⟨j, x, .put id (.vec n sz cs), w⟩ :: post) = true := by
  rw [← h]
  unfold pairsOk
  have e1 : pairs1 m3 ops (pre ++ ⟨j, x, .put id (.vec n sz cs), w⟩ :: post) = pairs1 m3 ops (pre ++ ⟨j, x, .put id (.vec n sz []), w⟩ :: post) := by
    have h1 : (fun b : Note => sparse m3 ops b.at' || (pre ++ ⟨j, x, .put id (.vec n sz cs), w⟩ :: post).all fun a => a.at' == b.at' || !lookB m3 ops a.at' || apartB a.w b.w) = fun b : Note => sparse m3 ops b.at' || (pre ++ ⟨j, x, .put id (.vec n sz []), w⟩ :: post).all fun a => a.at' == b.at' || !lookB m3 ops a.at' || apartB a.w b.w :=
      funext fun b => congrArg (fun t => sparse m3 ops b.at' || t) (all_swap (P := fun a => a.at' == b.at' || !lookB m3 ops a.at' || apartB a.w b.w) rfl)
    exact (congrArg (List.all (pre ++ ⟨j, x, .put id (.vec n sz cs), w⟩ :: post)) h1).trans (all_swap rfl)
  have e2 : ∀ tab, pairs2 m3 tab ops (pre ++ ⟨j, x, .put id (.vec n sz cs), w⟩ :: post) = pairs2 m3 tab ops (pre ++ ⟨j, x, .put id (.vec n sz []), w⟩ :: post) := fun tab => by
    have h1 : (fun b : Note => sparse m3 ops b.at' || (pre ++ ⟨j, x, .put id (.vec n sz cs), w⟩ :: post).all fun a => a.at' == b.at' || !lookB m3 ops a.at' || apartB a.w b.w || ordB tab a.at' b.at') = fun b : Note => sparse m3 ops b.at' || (pre ++ ⟨j, x, .put id (.vec n sz []), w⟩ :: post).all fun a => a.at' == b.at' || !lookB m3 ops a.at' || apartB a.w b.w || ordB tab a.at' b.at' :=
      funext fun b => congrArg (fun t => sparse m3 ops b.at' || t) (all_swap (P := fun a => a.at' == b.at' || !lookB m3 ops a.at' || apartB a.w b.w || ordB tab a.at' b.at') rfl)
    exact (congrArg (List.all (pre ++ ⟨j, x, .put id (.vec n sz cs), w⟩ :: post)) h1).trans (all_swap rfl)
  have e3 : ∀ tab, freeT tab (pre ++ ⟨j, x, .put id (.vec n sz cs), w⟩ :: post) = freeT tab (pre ++ ⟨j, x, .put id (.vec n sz []), w⟩ :: post) := fun tab => by
    have hb : ∀ k : Nat, Eff.freeB k (.put id (.vec n sz cs)) = Eff.freeB k (.put id (.vec n sz [])) := fun k => (hf k).trans rfl
    have h1 : (fun b : Note => match b.e.hole with | none => true | some k => (pre ++ (⟨j, x, .put id (.vec n sz cs), w⟩ : Note) :: post).all fun a => a.at' == b.at' || (a.x.free k && a.e.freeB k) || (tab.getD a.at' 0).testBit b.at') = fun b : Note => match b.e.hole with | none => true | some k => (pre ++ (⟨j, x, .put id (.vec n sz []), w⟩ : Note) :: post).all fun a => a.at' == b.at' || (a.x.free k && a.e.freeB k) || (tab.getD a.at' 0).testBit b.at' := funext fun b => by
      cases b.e.hole with
      | none => rfl
      | some k => exact all_swap (P := fun a => a.at' == b.at' || (a.x.free k && a.e.freeB k) || (tab.getD a.at' 0).testBit b.at') (by dsimp only; first | done | rw [hb k])
    exact (congrArg (List.all (pre ++ (⟨j, x, .put id (.vec n sz cs), w⟩ : Note) :: post)) h1).trans (all_swap rfl)
  have e4 : (pre ++ ⟨j, x, .put id (.vec n sz cs), w⟩ :: post).all (fun a => a.e.loc) = (pre ++ ⟨j, x, .put id (.vec n sz []), w⟩ :: post).all (fun a => a.e.loc) := all_swap rfl
  rw [e1, e2, e3, e4]
set_option maxHeartbeats 8000000 in
theorem narrowerLaw (l : La) (which : Int) (hwh : 0 ≤ which ∧ which < 256) (p : Int × Int) (hp : (0 ≤ p.1 ∧ p.1 < 256) ∧ 0 ≤ p.2 ∧ p.2 < 256) (at' : Int) (hat : 0 ≤ at' ∧ at' < 256) : Pure Try.prog 9 [laV l, .c (.d (.int .u8 which)), .agg [.d (.int .u8 p.1), .d (.int .u8 p.2)], .c (.d (.int .u8 at'))] (B true) := by
  refine pure_wkE (bad := [3, 10008]) (kp := kp9) (X := txv) (nt := 190) (rs := [.tmp 8]) Try.func9 rfl rfl rfl rfl mo (by kernel_rfl) rfl rfl (fun hf => ?_)
  have hg := great15 l
  have hl := lamp20 l
  unfold laV laC at hg hl
  simp (config := { maxSteps := 2000000 }) only [go_sem, reduceIte, Nat.reduceEqDiff, Nat.reduceAdd, Nat.reduceLT, Nat.reduceLeDiff, Nat.reduceBEq, Nat.reduceMul, Nat.reduceSub, Nat.reduceDiv, Int.reduceNeg, Int.reduceLT, Int.reduceLE, Int.reduceEq, Int.reduceToNat, List.replicate_succ, lk9, txv_vm, txv_tt, laV, laC]
  refine aops_pure' (hg) rfl rfl (by first | exact wk_refls _ | (repeat constructor)) ?_
  cases hgb : greatB l with
  | true =>
    simp (config := { maxSteps := 2000000 }) only [go_sem, reduceIte, Nat.reduceEqDiff, Nat.reduceAdd, Nat.reduceLT, Nat.reduceLeDiff, Nat.reduceBEq, Nat.reduceMul, Nat.reduceSub, Nat.reduceDiv, Int.reduceNeg, Int.reduceLT, Int.reduceLE, Int.reduceEq, Int.reduceToNat, List.replicate_succ, lk9]
    refine aops_pure' (works16) rfl rfl (by first | exact wk_refls _ | (repeat constructor)) ?_
    simp (config := { maxSteps := 2000000 }) only [go_sem, reduceIte, Nat.reduceEqDiff, Nat.reduceAdd, Nat.reduceLT, Nat.reduceLeDiff, Nat.reduceBEq, Nat.reduceMul, Nat.reduceSub, Nat.reduceDiv, Int.reduceNeg, Int.reduceLT, Int.reduceLE, Int.reduceEq, Int.reduceToNat, List.replicate_succ, lk9]
  | false =>
  simp (config := { maxSteps := 2000000 }) only [go_sem, reduceIte, Nat.reduceEqDiff, Nat.reduceAdd, Nat.reduceLT, Nat.reduceLeDiff, Nat.reduceBEq, Nat.reduceMul, Nat.reduceSub, Nat.reduceDiv, Int.reduceNeg, Int.reduceLT, Int.reduceLE, Int.reduceEq, Int.reduceToNat, List.replicate_succ, lk9]
  refine aops_pure' (hl) rfl rfl (by first | exact wk_refls _ | (repeat constructor)) ?_
  by_cases h0 : okLa l = 0
  case neg =>
    simp (config := { maxSteps := 2000000 }) only [go_sem, reduceIte, Nat.reduceEqDiff, Nat.reduceAdd, Nat.reduceLT, Nat.reduceLeDiff, Nat.reduceBEq, Nat.reduceMul, Nat.reduceSub, Nat.reduceDiv, Int.reduceNeg, Int.reduceLT, Int.reduceLE, Int.reduceEq, Int.reduceToNat, List.replicate_succ, lk9, h0]
    refine aops_pure' (works16) rfl rfl (by first | exact wk_refls _ | (repeat constructor)) ?_
    simp (config := { maxSteps := 2000000 }) only [go_sem, reduceIte, Nat.reduceEqDiff, Nat.reduceAdd, Nat.reduceLT, Nat.reduceLeDiff, Nat.reduceBEq, Nat.reduceMul, Nat.reduceSub, Nat.reduceDiv, Int.reduceNeg, Int.reduceLT, Int.reduceLE, Int.reduceEq, Int.reduceToNat, List.replicate_succ, lk9]
  obtain ⟨ok, h10⟩ := (okLa_iff l).1 h0
  obtain ⟨n2, n91⟩ := ok.n91
  have m2 := ok.m2
  have hli := ok.li
  have hwe := ok.we
  have p0 : (0 : Int) < l.an.length := by omega
  have a0 := gI_lt (l := l.an) (i := 0) (by omega)
  have b0 := ok.a0 0 (by omega)
  obtain ⟨k, hk, ek⟩ : ∃ k : Nat, k < l.li.length ∧ which.tmod l.li.length = (k : Int) := by
    have q0 : 0 ≤ which.tmod l.li.length := Int.tmod_nonneg _ hwh.1
    have q1 : which.tmod l.li.length < l.li.length := by rw [Int.tmod_eq_emod_of_nonneg hwh.1]; exact Int.emod_lt_of_pos _ (by omega)
    exact ⟨(which.tmod l.li.length).toNat, by omega, by omega⟩
  obtain ⟨K, hK, eK⟩ : ∃ K : Nat, K < l.we.length ∧ at'.tmod l.we.length = (K : Int) := by
    have q0 : 0 ≤ at'.tmod l.we.length := Int.tmod_nonneg _ hat.1
    have q1 : at'.tmod l.we.length < l.we.length := by rw [Int.tmod_eq_emod_of_nonneg hat.1]; exact Int.emod_lt_of_pos _ (by omega)
    exact ⟨(at'.tmod l.we.length).toNat, by omega, by omega⟩
  have hne1 : ¬ (l.li.length : Int) = 0 := by omega
  have hne2 : ¬ (l.we.length : Int) = 0 := by omega
  have hk' : (k : Int) < l.li.length := by omega
  have hkm : k < l.an.length := by omega
  have hlr := ok.lr k hkm
  have q1 : (l.li.all fun x => (rgD x).length == 2) = true := by simp [rgD]
  have q2 : List.map C.d (List.map rgD l.li).flatten = liC l.li := liC_eq l.li
  have q3 : (decide ((l.li.length + l.li.length / 4 + 256) * 16 ≤ 281474976710656) && @decide (l.li.length ≤ 140737488355328) (Nat.decLe l.li.length lim)) = true := by
    rw [Bool.and_eq_true]; exact ⟨decide_eq_true (by omega), decide_eq_true (by omega)⟩
  have ll := liC_len l.li
  obtain ⟨x1, x2⟩ := liC_at hk
  obtain ⟨lo, hi, elo, ehi⟩ : ∃ lo hi, lo = min (gR l.li k).hi ((gR l.li k).lo + p.1) ∧ hi = max lo ((gR l.li k).hi - p.2) := ⟨_, _, rfl, rfl⟩
  have hr : (gR l.li k).lo ≤ lo ∧ lo ≤ hi ∧ hi ≤ (gR l.li k).hi := by omega
  have okx := nr_ok ok hkm (r := ⟨lo, hi⟩) ⟨by dsimp only; omega, by dsimp only; omega, by dsimp only; omega⟩
  have h0x : okLa (nrL l k ⟨lo, hi⟩) = 0 := (okLa_iff _).2 ⟨okx, h10⟩
  obtain ⟨ns, en⟩ : ∃ ns, ns = (nrL l k ⟨lo, hi⟩).li := ⟨_, rfl⟩
  have en1 : ns = l.li.set k ⟨lo, hi⟩ := en
  have enl : ns.length = l.li.length := by rw [en1, List.length_set]
  have x3 : ((liC l.li).set (k * 2) (.d (.int .i64 lo))).set (k * 2 + 1) (.d (.int .i64 hi)) = liC ns := by rw [liC_set _ _ hk, en1]
  have c1 : decide (k * 2 + 2 ≤ l.li.length * 2) = true := by rw [decide_eq_true_eq]; omega
  have c2 : decide (k * 2 ≤ l.li.length * 2 - 2) = true := by rw [decide_eq_true_eq]; omega
  have hrow : ((liC l.li).drop (k * 2)).take 2 = [.d (.int .i64 (gR l.li k).lo), .d (.int .i64 (gR l.li k).hi)] := take2 x1 x2
  obtain ⟨⟨u1, u2⟩, u3, u4⟩ := hp
  have w1 : wr .i64 which = which := wr_in (by omega)
  have w2 : wr .i64 at' = at' := wr_in (by clear w1; omega)
  have w3 : wr .i64 p.1 = p.1 := wr_in (by clear w1 w2; omega)
  have w4 : wr .i64 p.2 = p.2 := wr_in (by clear w1 w2 w3; omega)
  have w5 : wr .i64 ((gR l.li k).lo + p.1) = (gR l.li k).lo + p.1 := wr_in (by clear w1 w2 w3 w4; omega)
  have w6 : wr .i64 ((gR l.li k).hi - p.2) = (gR l.li k).hi - p.2 := wr_in (by clear w1 w2 w3 w4 w5; omega)
  simp (config := { maxSteps := 2000000 }) only [go_sem, reduceIte, Nat.reduceEqDiff, Nat.reduceAdd, Nat.reduceLT, Nat.reduceLeDiff, Nat.reduceBEq, Nat.reduceMul, Nat.reduceSub, Nat.reduceDiv, Int.reduceNeg, Int.reduceLT, Int.reduceLE, Int.reduceEq, Int.reduceToNat, List.replicate_succ, lk9, txv_vm, txv_tt, h0, q1, q2, q3, w1, hne1, ek]

  refine ⟨by rw [liC_free, liC_low]; rfl, pairsOk_vec (pre := [_, _, _, _, _]) (post := [_, _]) (fun id => liC_free id l.li) (pairsOk_ord (by kernel_rfl)), ?_⟩
  have e1 := elo.symm
  have e2 := ehi.symm
  simp (config := { maxSteps := 2000000 }) only [go_sem, reduceIte, Nat.reduceEqDiff, Nat.reduceAdd, Nat.reduceLT, Nat.reduceLeDiff, Nat.reduceBEq, Nat.reduceMul, Nat.reduceSub, Nat.reduceDiv, Int.reduceNeg, Int.reduceLT, Int.reduceLE, Int.reduceEq, Int.reduceToNat, List.replicate_succ, lk9, txv_vm, txv_tt, nn, hk', ll, c1, c2, hrow, decide_true, w3, w4, w5, w6, minL1, maxL1, e1, e2, x3]
  obtain ⟨ds, fe1, fe2⟩ : ∃ ds, toDs (liC ns) = some ds ∧ chunk 2 l.li.length ds = ns.map rgD := ⟨_, by rw [← liC_eq]; exact toDs_d _, by rw [← enl]; exact chunk_li ns⟩
  clear w1 w3 w4 w5 w6
  refine stop_mk { slots := [(3, .c (.d (.int .u8 at'))), (4, .c (.ptr 0 0)), (9, .c (.ptr 3 0))], heap := [.cells (laC l), .cells [.d (.int .u8 p.1), .d (.int .u8 p.2)], .gone, .cells [.d (.sl (l.an.map iD)), .d (.sl (ns.map rgD)), .d (.sl (l.fa.map bD)), .d (.sl (l.we.map iD))], .cells [.d (.int .i64 lo), .d (.int .i64 hi)]], marks := [] } (ent_fzvec 2 (n := l.li.length) (sz := 2) (cs := liC ns) (ds := ds) rfl fe1 (by decide) (by unfold lim; clear w2; omega) rfl ?_ ?_) ?_
  · rw [fe2]
    simp [fzNB, fzN, laC]
  · intro i
    simp only [St.get]
    by_cases e1 : i = 3
    · subst e1; exact .inl rfl
    by_cases e2 : i = 4
    · subst e2; exact .inl rfl
    by_cases e3 : i = 9
    · subst e3; exact .inl rfl
    exact .inr (by simp only [getS]; rw [if_neg (fun h => e1 h.symm), if_neg (fun h => e2 h.symm), if_neg (fun h => e3 h.symm)])
  have elx : laC (nrL l k ⟨lo, hi⟩) = [.d (.sl (l.an.map iD)), .d (.sl (ns.map rgD)), .d (.sl (l.fa.map bD)), .d (.sl (l.we.map iD))] := by rw [en]; rfl
  have hs := span27 l
  have ht := span27 (nrL l k ⟨lo, hi⟩)
  have ha := at29 l (gI l.an 0 + K)
  have hb := at29 (nrL l k ⟨lo, hi⟩) (gI l.an 0 + K)
  have hmore := fun j hj => nr_more ok hkm (r := ⟨lo, hi⟩) hr.1 hr.2.2 (j := j) hj
  have hdbt := nr_doubt ok hkm (r := ⟨lo, hi⟩) hr.1 hr.2.2
  have ewe : (nrL l k ⟨lo, hi⟩).we = l.we := rfl
  have ean : (nrL l k ⟨lo, hi⟩).an = l.an := rfl
  have hatx : dbB (nrL l k ⟨lo, hi⟩) = false → atE (nrL l k ⟨lo, hi⟩) (gI l.an 0 + K) = 0 ∧ atR (nrL l k ⟨lo, hi⟩) (gI l.an 0 + K) = ⟨bl (nrL l k ⟨lo, hi⟩) K, bh (nrL l k ⟨lo, hi⟩) K⟩ := fun h => at_k h0x h hK
  have hat21 : ∀ x : La, okLa x = 0 → x.an = l.an → x.we = l.we → dbB x = true → atE x (gI l.an 0 + K) = 21 ∧ atR x (gI l.an 0 + K) = ⟨0, 0⟩ := fun x a b c d => by
    have e : atE x (gI l.an 0 + K) = 21 := atE_21 a (by rw [b]; clear w2; omega) d
    exact ⟨e, atR_bad (by rw [e]; decide)⟩
  have hsx : dbB (nrL l k ⟨lo, hi⟩) = false → spLo l ≤ spLo (nrL l k ⟨lo, hi⟩) ∧ spHi (nrL l k ⟨lo, hi⟩) ≤ spHi l ∧ spLo (nrL l k ⟨lo, hi⟩) ≤ spHi (nrL l k ⟨lo, hi⟩) ∧ bl (nrL l k ⟨lo, hi⟩) K ≤ bh (nrL l k ⟨lo, hi⟩) K := fun h => by
    refine ⟨sumW_le (fun j hj => (ok.wr j hj).1) (fun j hj => (hmore j hj).1), sumW_le (fun j hj => (ok.wr j hj).1) (fun j hj => (hmore j hj).2), sumW_le (fun j hj => (ok.wr j hj).1) (fun j hj => dbB_no h hj), dbB_no h hK⟩
  have w8 : wr .i64 (gI l.an 0 + (K : Int)) = gI l.an 0 + (K : Int) := wr_in (by clear w2; omega)
  have hm2 := hmore K hK
  have hat21x := hat21 (nrL l k ⟨lo, hi⟩) h0x rfl rfl
  generalize nrL l k ⟨lo, hi⟩ = x at *
  unfold laV at ht hb
  rw [elx] at ht hb
  unfold laV laC at hs ha
  cases hd : dbB l with
  | true =>
    have hdx := hdbt hd
    have s1 := spE_21 h0 hd
    have s2 := spE_21 h0x hdx
    obtain ⟨a1, a2⟩ := hat21 l h0 rfl rfl hd
    obtain ⟨b1, b2⟩ := hat21x hdx
    rw [s1, spR_bad (by rw [s1]; decide)] at hs
    rw [s2, spR_bad (by rw [s2]; decide)] at ht
    rw [a1, a2] at ha
    rw [b1, b2] at hb
    unfold rgV rgC at hs ht ha hb
    simp (config := { maxSteps := 2000000 }) only [go_sem, reduceIte, Nat.reduceEqDiff, Nat.reduceAdd, Nat.reduceLT, Nat.reduceLeDiff, Nat.reduceBEq, Nat.reduceMul, Nat.reduceSub, Nat.reduceDiv, Int.reduceNeg, Int.reduceLT, Int.reduceLE, Int.reduceEq, Int.reduceToNat, List.replicate_succ, lk9, txv_vm, txv_tt, laC, p0, a0, nn, iD, w2, hne2, eK, w8]
    refine aops_pure' (hs) rfl rfl (by first | exact wk_refls _ | (repeat constructor)) ?_
    simp (config := { maxSteps := 2000000 }) only [go_sem, reduceIte, Nat.reduceEqDiff, Nat.reduceAdd, Nat.reduceLT, Nat.reduceLeDiff, Nat.reduceBEq, Nat.reduceMul, Nat.reduceSub, Nat.reduceDiv, Int.reduceNeg, Int.reduceLT, Int.reduceLE, Int.reduceEq, Int.reduceToNat, List.replicate_succ, lk9]
    refine aops_pure' (ht) rfl rfl (by first | exact wk_refls _ | (repeat constructor)) ?_
    simp (config := { maxSteps := 2000000 }) only [go_sem, reduceIte, Nat.reduceEqDiff, Nat.reduceAdd, Nat.reduceLT, Nat.reduceLeDiff, Nat.reduceBEq, Nat.reduceMul, Nat.reduceSub, Nat.reduceDiv, Int.reduceNeg, Int.reduceLT, Int.reduceLE, Int.reduceEq, Int.reduceToNat, List.replicate_succ, lk9]
    refine aops_pure' (ha) rfl rfl (by first | exact wk_refls _ | (repeat constructor)) ?_
    simp (config := { maxSteps := 2000000 }) only [go_sem, reduceIte, Nat.reduceEqDiff, Nat.reduceAdd, Nat.reduceLT, Nat.reduceLeDiff, Nat.reduceBEq, Nat.reduceMul, Nat.reduceSub, Nat.reduceDiv, Int.reduceNeg, Int.reduceLT, Int.reduceLE, Int.reduceEq, Int.reduceToNat, List.replicate_succ, lk9]
    refine aops_pure' (hb) rfl rfl (by first | exact wk_refls _ | (repeat constructor)) ?_
    simp (config := { maxSteps := 2000000 }) only [go_sem, reduceIte, Nat.reduceEqDiff, Nat.reduceAdd, Nat.reduceLT, Nat.reduceLeDiff, Nat.reduceBEq, Nat.reduceMul, Nat.reduceSub, Nat.reduceDiv, Int.reduceNeg, Int.reduceLT, Int.reduceLE, Int.reduceEq, Int.reduceToNat, List.replicate_succ, lk9]
    refine aops_pure' (works16) rfl rfl (by first | exact wk_refls _ | (repeat constructor)) ?_
    simp (config := { maxSteps := 2000000 }) only [go_sem, reduceIte, Nat.reduceEqDiff, Nat.reduceAdd, Nat.reduceLT, Nat.reduceLeDiff, Nat.reduceBEq, Nat.reduceMul, Nat.reduceSub, Nat.reduceDiv, Int.reduceNeg, Int.reduceLT, Int.reduceLE, Int.reduceEq, Int.reduceToNat, List.replicate_succ, lk9]
  | false =>
  have s1 := spE_0 h0 hd
  obtain ⟨a1, a2⟩ := at_k h0 hd hK
  obtain ⟨t1, t2, t3, t4⟩ := same_test ok h10 hd hK
  have h42 := ref42 l ok K hK ⟨bl l K, bh l K⟩
  have etf : tfL l K ⟨bl l K, bh l K⟩ = tsL l K ⟨bl l K, bh l K⟩ := by unfold tfL; rw [t1]; rfl
  rw [etf, t1] at h42
  rw [s1, spR_0 s1] at hs
  rw [a1, a2] at ha
  generalize tsL l K ⟨bl l K, bh l K⟩ = T at *
  have hTl := lamp20 T
  have hTs := span27 T
  have hTe : okLa T = 0 → spE T = 0 ∧ spR T = ⟨spLo l, spHi l⟩ := fun h => by
    have e := spE_0 h t2
    exact ⟨e, by rw [spR_0 e, t3, t4]⟩
  unfold laV laC at hTl hTs
  unfold laV laC at h42
  cases hdx : dbB x with
  | true =>
    have s2 := spE_21 h0x hdx
    obtain ⟨b1, b2⟩ := hat21x hdx
    rw [s2, spR_bad (by rw [s2]; decide)] at ht
    rw [b1, b2] at hb
    unfold rgV rgC at hs ht ha hb h42 hTs
    simp (config := { maxSteps := 2000000 }) only [go_sem, reduceIte, Nat.reduceEqDiff, Nat.reduceAdd, Nat.reduceLT, Nat.reduceLeDiff, Nat.reduceBEq, Nat.reduceMul, Nat.reduceSub, Nat.reduceDiv, Int.reduceNeg, Int.reduceLT, Int.reduceLE, Int.reduceEq, Int.reduceToNat, List.replicate_succ, lk9, txv_vm, txv_tt, laC, p0, a0, nn, iD, w2, hne2, eK, w8]
    refine aops_pure' (hs) rfl rfl (by first | exact wk_refls _ | (repeat constructor)) ?_
    simp (config := { maxSteps := 2000000 }) only [go_sem, reduceIte, Nat.reduceEqDiff, Nat.reduceAdd, Nat.reduceLT, Nat.reduceLeDiff, Nat.reduceBEq, Nat.reduceMul, Nat.reduceSub, Nat.reduceDiv, Int.reduceNeg, Int.reduceLT, Int.reduceLE, Int.reduceEq, Int.reduceToNat, List.replicate_succ, lk9]
    refine aops_pure' (ht) rfl rfl (by first | exact wk_refls _ | (repeat constructor)) ?_
    simp (config := { maxSteps := 2000000 }) only [go_sem, reduceIte, Nat.reduceEqDiff, Nat.reduceAdd, Nat.reduceLT, Nat.reduceLeDiff, Nat.reduceBEq, Nat.reduceMul, Nat.reduceSub, Nat.reduceDiv, Int.reduceNeg, Int.reduceLT, Int.reduceLE, Int.reduceEq, Int.reduceToNat, List.replicate_succ, lk9]
    refine aops_pure' (ha) rfl rfl (by first | exact wk_refls _ | (repeat constructor)) ?_
    simp (config := { maxSteps := 2000000 }) only [go_sem, reduceIte, Nat.reduceEqDiff, Nat.reduceAdd, Nat.reduceLT, Nat.reduceLeDiff, Nat.reduceBEq, Nat.reduceMul, Nat.reduceSub, Nat.reduceDiv, Int.reduceNeg, Int.reduceLT, Int.reduceLE, Int.reduceEq, Int.reduceToNat, List.replicate_succ, lk9]
    refine aops_pure' (hb) rfl rfl (by first | exact wk_refls _ | (repeat constructor)) ?_
    simp (config := { maxSteps := 2000000 }) only [go_sem, reduceIte, Nat.reduceEqDiff, Nat.reduceAdd, Nat.reduceLT, Nat.reduceLeDiff, Nat.reduceBEq, Nat.reduceMul, Nat.reduceSub, Nat.reduceDiv, Int.reduceNeg, Int.reduceLT, Int.reduceLE, Int.reduceEq, Int.reduceToNat, List.replicate_succ, lk9]
    refine aops_pure' (h42) rfl rfl (by first | exact wk_refls _ | (repeat constructor)) ?_
    simp (config := { maxSteps := 2000000 }) only [go_sem, reduceIte, Nat.reduceEqDiff, Nat.reduceAdd, Nat.reduceLT, Nat.reduceLeDiff, Nat.reduceBEq, Nat.reduceMul, Nat.reduceSub, Nat.reduceDiv, Int.reduceNeg, Int.reduceLT, Int.reduceLE, Int.reduceEq, Int.reduceToNat, List.replicate_succ, lk9]
    refine aops_pure' (hTl) rfl rfl (by first | exact wk_refls _ | (repeat constructor)) ?_
    by_cases hT0 : okLa T = 0
    · obtain ⟨v1, v2⟩ := hTe hT0
      rw [v1, v2] at hTs
      simp (config := { maxSteps := 2000000 }) only [go_sem, reduceIte, Nat.reduceEqDiff, Nat.reduceAdd, Nat.reduceLT, Nat.reduceLeDiff, Nat.reduceBEq, Nat.reduceMul, Nat.reduceSub, Nat.reduceDiv, Int.reduceNeg, Int.reduceLT, Int.reduceLE, Int.reduceEq, Int.reduceToNat, List.replicate_succ, lk9, hT0]
      refine aops_pure' (hTs) rfl rfl (by first | exact wk_refls _ | (repeat constructor)) ?_
      simp (config := { maxSteps := 2000000 }) only [go_sem, reduceIte, Nat.reduceEqDiff, Nat.reduceAdd, Nat.reduceLT, Nat.reduceLeDiff, Nat.reduceBEq, Nat.reduceMul, Nat.reduceSub, Nat.reduceDiv, Int.reduceNeg, Int.reduceLT, Int.reduceLE, Int.reduceEq, Int.reduceToNat, List.replicate_succ, lk9]
      refine aops_pure' (works16) rfl rfl (by first | exact wk_refls _ | (repeat constructor)) ?_
      simp (config := { maxSteps := 2000000 }) only [go_sem, reduceIte, Nat.reduceEqDiff, Nat.reduceAdd, Nat.reduceLT, Nat.reduceLeDiff, Nat.reduceBEq, Nat.reduceMul, Nat.reduceSub, Nat.reduceDiv, Int.reduceNeg, Int.reduceLT, Int.reduceLE, Int.reduceEq, Int.reduceToNat, List.replicate_succ, lk9]
    · simp (config := { maxSteps := 2000000 }) only [go_sem, reduceIte, Nat.reduceEqDiff, Nat.reduceAdd, Nat.reduceLT, Nat.reduceLeDiff, Nat.reduceBEq, Nat.reduceMul, Nat.reduceSub, Nat.reduceDiv, Int.reduceNeg, Int.reduceLT, Int.reduceLE, Int.reduceEq, Int.reduceToNat, List.replicate_succ, lk9, hT0]
      refine aops_pure' (works16) rfl rfl (by first | exact wk_refls _ | (repeat constructor)) ?_
      simp (config := { maxSteps := 2000000 }) only [go_sem, reduceIte, Nat.reduceEqDiff, Nat.reduceAdd, Nat.reduceLT, Nat.reduceLeDiff, Nat.reduceBEq, Nat.reduceMul, Nat.reduceSub, Nat.reduceDiv, Int.reduceNeg, Int.reduceLT, Int.reduceLE, Int.reduceEq, Int.reduceToNat, List.replicate_succ, lk9]
  | false =>
    have s2 := spE_0 h0x hdx
    obtain ⟨b1, b2⟩ := hatx hdx
    obtain ⟨o1, o2, o3, o4⟩ := hsx hdx
    rw [s2, spR_0 s2] at ht
    rw [b1, b2] at hb
    have i1 := inside41 ⟨spLo x, spHi x⟩ ⟨spLo l, spHi l⟩
    rw [decide_eq_true (show (⟨spLo l, spHi l⟩ : Rg).lo ≤ (⟨spLo x, spHi x⟩ : Rg).lo from o1), decide_eq_true (show (⟨spLo x, spHi x⟩ : Rg).hi ≤ (⟨spLo l, spHi l⟩ : Rg).hi from o2), decide_eq_true (show (⟨spLo x, spHi x⟩ : Rg).lo ≤ (⟨spLo x, spHi x⟩ : Rg).hi from o3)] at i1
    have i2 := inside41 ⟨bl x K, bh x K⟩ ⟨bl l K, bh l K⟩
    rw [decide_eq_true (show (⟨bl l K, bh l K⟩ : Rg).lo ≤ (⟨bl x K, bh x K⟩ : Rg).lo from hm2.1), decide_eq_true (show (⟨bl x K, bh x K⟩ : Rg).hi ≤ (⟨bl l K, bh l K⟩ : Rg).hi from hm2.2), decide_eq_true (show (⟨bl x K, bh x K⟩ : Rg).lo ≤ (⟨bl x K, bh x K⟩ : Rg).hi from o4)] at i2
    unfold rgV rgC at hs ht ha hb h42 hTs i1 i2
    simp (config := { maxSteps := 2000000 }) only [go_sem, reduceIte, Nat.reduceEqDiff, Nat.reduceAdd, Nat.reduceLT, Nat.reduceLeDiff, Nat.reduceBEq, Nat.reduceMul, Nat.reduceSub, Nat.reduceDiv, Int.reduceNeg, Int.reduceLT, Int.reduceLE, Int.reduceEq, Int.reduceToNat, List.replicate_succ, lk9, txv_vm, txv_tt, laC, p0, a0, nn, iD, w2, hne2, eK, w8]
    refine aops_pure' (hs) rfl rfl (by first | exact wk_refls _ | (repeat constructor)) ?_
    simp (config := { maxSteps := 2000000 }) only [go_sem, reduceIte, Nat.reduceEqDiff, Nat.reduceAdd, Nat.reduceLT, Nat.reduceLeDiff, Nat.reduceBEq, Nat.reduceMul, Nat.reduceSub, Nat.reduceDiv, Int.reduceNeg, Int.reduceLT, Int.reduceLE, Int.reduceEq, Int.reduceToNat, List.replicate_succ, lk9]
    refine aops_pure' (ht) rfl rfl (by first | exact wk_refls _ | (repeat constructor)) ?_
    simp (config := { maxSteps := 2000000 }) only [go_sem, reduceIte, Nat.reduceEqDiff, Nat.reduceAdd, Nat.reduceLT, Nat.reduceLeDiff, Nat.reduceBEq, Nat.reduceMul, Nat.reduceSub, Nat.reduceDiv, Int.reduceNeg, Int.reduceLT, Int.reduceLE, Int.reduceEq, Int.reduceToNat, List.replicate_succ, lk9]
    refine aops_pure' (ha) rfl rfl (by first | exact wk_refls _ | (repeat constructor)) ?_
    simp (config := { maxSteps := 2000000 }) only [go_sem, reduceIte, Nat.reduceEqDiff, Nat.reduceAdd, Nat.reduceLT, Nat.reduceLeDiff, Nat.reduceBEq, Nat.reduceMul, Nat.reduceSub, Nat.reduceDiv, Int.reduceNeg, Int.reduceLT, Int.reduceLE, Int.reduceEq, Int.reduceToNat, List.replicate_succ, lk9]
    refine aops_pure' (hb) rfl rfl (by first | exact wk_refls _ | (repeat constructor)) ?_
    simp (config := { maxSteps := 2000000 }) only [go_sem, reduceIte, Nat.reduceEqDiff, Nat.reduceAdd, Nat.reduceLT, Nat.reduceLeDiff, Nat.reduceBEq, Nat.reduceMul, Nat.reduceSub, Nat.reduceDiv, Int.reduceNeg, Int.reduceLT, Int.reduceLE, Int.reduceEq, Int.reduceToNat, List.replicate_succ, lk9]
    refine aops_pure' (i1) rfl rfl (by first | exact wk_refls _ | (repeat constructor)) ?_
    simp (config := { maxSteps := 2000000 }) only [go_sem, reduceIte, Nat.reduceEqDiff, Nat.reduceAdd, Nat.reduceLT, Nat.reduceLeDiff, Nat.reduceBEq, Nat.reduceMul, Nat.reduceSub, Nat.reduceDiv, Int.reduceNeg, Int.reduceLT, Int.reduceLE, Int.reduceEq, Int.reduceToNat, List.replicate_succ, lk9]
    refine aops_pure' (i2) rfl rfl (by first | exact wk_refls _ | (repeat constructor)) ?_
    simp (config := { maxSteps := 2000000 }) only [go_sem, reduceIte, Nat.reduceEqDiff, Nat.reduceAdd, Nat.reduceLT, Nat.reduceLeDiff, Nat.reduceBEq, Nat.reduceMul, Nat.reduceSub, Nat.reduceDiv, Int.reduceNeg, Int.reduceLT, Int.reduceLE, Int.reduceEq, Int.reduceToNat, List.replicate_succ, lk9]
    refine aops_pure' (h42) rfl rfl (by first | exact wk_refls _ | (repeat constructor)) ?_
    simp (config := { maxSteps := 2000000 }) only [go_sem, reduceIte, Nat.reduceEqDiff, Nat.reduceAdd, Nat.reduceLT, Nat.reduceLeDiff, Nat.reduceBEq, Nat.reduceMul, Nat.reduceSub, Nat.reduceDiv, Int.reduceNeg, Int.reduceLT, Int.reduceLE, Int.reduceEq, Int.reduceToNat, List.replicate_succ, lk9]
    refine aops_pure' (hTl) rfl rfl (by first | exact wk_refls _ | (repeat constructor)) ?_
    by_cases hT0 : okLa T = 0
    · obtain ⟨v1, v2⟩ := hTe hT0
      rw [v1, v2] at hTs
      simp (config := { maxSteps := 2000000 }) only [go_sem, reduceIte, Nat.reduceEqDiff, Nat.reduceAdd, Nat.reduceLT, Nat.reduceLeDiff, Nat.reduceBEq, Nat.reduceMul, Nat.reduceSub, Nat.reduceDiv, Int.reduceNeg, Int.reduceLT, Int.reduceLE, Int.reduceEq, Int.reduceToNat, List.replicate_succ, lk9, hT0]
      refine aops_pure' (hTs) rfl rfl (by first | exact wk_refls _ | (repeat constructor)) ?_
      simp (config := { maxSteps := 2000000 }) only [go_sem, reduceIte, Nat.reduceEqDiff, Nat.reduceAdd, Nat.reduceLT, Nat.reduceLeDiff, Nat.reduceBEq, Nat.reduceMul, Nat.reduceSub, Nat.reduceDiv, Int.reduceNeg, Int.reduceLT, Int.reduceLE, Int.reduceEq, Int.reduceToNat, List.replicate_succ, lk9]
      refine aops_pure' (works16) rfl rfl (by first | exact wk_refls _ | (repeat constructor)) ?_
      simp (config := { maxSteps := 2000000 }) only [go_sem, reduceIte, Nat.reduceEqDiff, Nat.reduceAdd, Nat.reduceLT, Nat.reduceLeDiff, Nat.reduceBEq, Nat.reduceMul, Nat.reduceSub, Nat.reduceDiv, Int.reduceNeg, Int.reduceLT, Int.reduceLE, Int.reduceEq, Int.reduceToNat, List.replicate_succ, lk9]
    · simp (config := { maxSteps := 2000000 }) only [go_sem, reduceIte, Nat.reduceEqDiff, Nat.reduceAdd, Nat.reduceLT, Nat.reduceLeDiff, Nat.reduceBEq, Nat.reduceMul, Nat.reduceSub, Nat.reduceDiv, Int.reduceNeg, Int.reduceLT, Int.reduceLE, Int.reduceEq, Int.reduceToNat, List.replicate_succ, lk9, hT0]
      refine aops_pure' (works16) rfl rfl (by first | exact wk_refls _ | (repeat constructor)) ?_
      simp (config := { maxSteps := 2000000 }) only [go_sem, reduceIte, Nat.reduceEqDiff, Nat.reduceAdd, Nat.reduceLT, Nat.reduceLeDiff, Nat.reduceBEq, Nat.reduceMul, Nat.reduceSub, Nat.reduceDiv, Int.reduceNeg, Int.reduceLT, Int.reduceLE, Int.reduceEq, Int.reduceToNat, List.replicate_succ, lk9]
end Go.Proofs.Ytliamojogmlgjaa
