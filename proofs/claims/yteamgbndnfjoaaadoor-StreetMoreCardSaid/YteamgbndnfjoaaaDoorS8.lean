/- The cheapest ways through a street: solve. -/
import Derived.Test.YteamgbndnfjoaaaDoorS7
set_option linter.unusedSimpArgs false
set_option linter.unusedVariables false
set_option maxRecDepth 100000
namespace Go.Proofs.YteamgbndnfjoaaaDoor
open Go Go.Abs Go.Proofs
def kp54 : List (Nat × List Nat) := [(0, [0, 2]), (1, [0, 2, 4]), (2, [0, 2, 4, 14, 15]), (3, [0, 2, 4, 14, 15, 16]), (4, [0, 2, 4, 14, 15]), (5, [0, 2, 4, 5, 14, 15]), (6, [0, 2, 4, 5, 14, 15, 29]), (7, [2, 3]), (8, [0, 2, 4, 5, 6, 14, 15]), (9, [0, 2, 4, 5, 6, 14, 15, 37]), (10, [0, 2, 4, 5, 6, 7, 8, 14, 15]), (11, [0, 2, 4, 5, 6, 7, 14, 15, 45]), (12, [0, 2, 4, 5, 6, 7, 14, 15]), (13, [0, 2, 4, 5, 6, 7, 14, 15, 49]), (14, [2, 3]), (15, [0, 2, 4, 5, 7, 14, 15]), (16, [0, 2, 4, 5, 7, 14, 15]), (17, [0, 2, 4, 5, 6, 14, 15]), (18, [0, 2, 4, 14, 15]), (19, [2, 3])]
theorem lk54 : lookK kp54 0 = some [0, 2] ∧ lookK kp54 1 = some [0, 2, 4] ∧ lookK kp54 2 = some [0, 2, 4, 14, 15] ∧ lookK kp54 3 = some [0, 2, 4, 14, 15, 16] ∧ lookK kp54 4 = some [0, 2, 4, 14, 15] ∧ lookK kp54 5 = some [0, 2, 4, 5, 14, 15] ∧ lookK kp54 6 = some [0, 2, 4, 5, 14, 15, 29] ∧ lookK kp54 7 = some [2, 3] ∧ lookK kp54 8 = some [0, 2, 4, 5, 6, 14, 15] ∧ lookK kp54 9 = some [0, 2, 4, 5, 6, 14, 15, 37] ∧ lookK kp54 10 = some [0, 2, 4, 5, 6, 7, 8, 14, 15] ∧ lookK kp54 11 = some [0, 2, 4, 5, 6, 7, 14, 15, 45] ∧ lookK kp54 12 = some [0, 2, 4, 5, 6, 7, 14, 15] ∧ lookK kp54 13 = some [0, 2, 4, 5, 6, 7, 14, 15, 49] ∧ lookK kp54 14 = some [2, 3] ∧ lookK kp54 15 = some [0, 2, 4, 5, 7, 14, 15] ∧ lookK kp54 16 = some [0, 2, 4, 5, 7, 14, 15] ∧ lookK kp54 17 = some [0, 2, 4, 5, 6, 14, 15] ∧ lookK kp54 18 = some [0, 2, 4, 14, 15] ∧ lookK kp54 19 = some [2, 3] := ⟨rfl, rfl, rfl, rfl, rfl, rfl, rfl, rfl, rfl, rfl, rfl, rfl, rfl, rfl, rfl, rfl, rfl, rfl, rfl, rfl⟩

def FPw (r : Rd) (w : W) (f5 : Nat → Int) : FP := ⟨r, w.1, w.2, zf, f5, zf, .skip, .skip⟩
def HS (r : Rd) (w : W) : List AB := [.gl 0 noneD, .cells (roadC r), .cells (roadC r), .cells (netC r w.1 w.2)]
theorem HS_low (r : Rd) (w : W) (n : Nat) : (HS r w).all (AB.low n) = true := by
  simp only [HS, List.all_cons, List.all_nil, AB.low, netC_low, roadC_low, Bool.and_self]
/-- In the midst of a way. -/
def HP (r : Rd) (w : W) (far : Nat → Int) (es : List (Int × Stp)) : List AB :=
  [.gl 0 noneD, .cells (roadC r), .cells (roadC r), .cells (netC r w.1 w.2), .cells (numsC 41 zf), .cells (numsC 41 far), .cells (numsC 41 far), .cells (numsC 41 far), .mp (byE es)]
theorem HP_low (r : Rd) (w : W) (far : Nat → Int) (es : List (Int × Stp)) (n : Nat) : (HP r w far es).all (AB.low n) = true := by
  simp only [HP, List.all_cons, List.all_nil, AB.low, netC_low, roadC_low, numsC_low, byE_low, Bool.and_self]
theorem take64' (r : Rd) (w : W) (far : Nat → Int) (es : List (Int × Stp)) (s t : Stp) (hs : OkT s) :
    ACall Tryd.prog 64 [.c (.ptr 3 0), sV s] (HP r w far es ++ [.cells (sC t)]) (one (.tup []) (HP r (takeS s w) far es ++ [.cells (sC t)])) :=
  take64 (FPw r w far) [.cells (numsC 41 zf), .cells (numsC 41 far), .cells (numsC 41 far), .cells (numsC 41 far), .mp (byE es), .cells (sC t)] s hs (fun st bk => by
    simp only [HN, List.all_append, List.all_cons, List.all_nil, AB.low, netC_low, roadC_low, numsC_low, byE_low, Bool.and_self]; rfl)
theorem find63' (r : Rd) (w : W) (f5 : Nat → Int) (qf : FS) (n : Nat) (hr : OkR r) (hst : ∀ i, 0 ≤ w.1 i ∧ w.1 i ≤ 1) (hf : findR (stepsL r w.1 w.2) n q0 = some qf) :
    ACall Tryd.prog 63 [.c (.ptr 3 0)] (HS r w ++ [.cells (numsC 41 zf), .cells (numsC 41 f5)]) (one (.tup [.agg (numsC 41 qf.far), .c (.mp 8)]) (HS r w ++ [.cells (numsC 41 zf), .cells (numsC 41 f5), .cells (numsC 41 qf.far), .cells (numsC 41 qf.far), .mp (byE qf.by')])) :=
  find63 (FPw r w f5) qf n hr hst hf
theorem OkT.ne {s : Stp} (h : OkT s) : s.po ≠ -2 := fun e => by
  have := h.post (by omega); omega

set_option maxHeartbeats 8000000 in
theorem solve54 (r : Rd) (w : W) (m : Nat) (b : Bool) (w' : W) (far : Nat → Int) (hr : OkR r) (hst : ∀ i, 0 ≤ w.1 i ∧ w.1 i ≤ 1) (hw : waysR r m (r.de.toNat + 1) w zf = some (b, w', far)) :
    ACall Tryd.prog 54 [.c (.ptr 3 0)] (HS r w) (one (.tup [.agg (numsC 41 far), B b]) (HS r w')) := by
  refine ACall.drop2 (by simp [HS]) rfl (HS_low _ _ _) ?_
  refine acall_fitE (bad := []) (kp := kp54) (X := tx) (nt := 60) (rs := [.cell 2 84, .tmp 3]) Tryd.func54 rfl rfl rfl rfl mo (by kernel_rfl) (fun hf' => ?_)
  have hz : List.replicate 41 (C.d (D.int .i64 0)) = numsC 41 zf := by rfl
  have nl := netC_len r w.1 w.2
  have n1 := nC1 r w.1 w.2
  have d0 := hr.d0
  have d2 := hr.d2
  have p1 := hr.p1
  have p40 := hr.p40
  have wd : wr .i64 (r.de + 1) = r.de + 1 := wr_id (by omega) (by omega)
  simp (config := { maxSteps := 2000000 }) only [go_sem, reduceIte, Nat.reduceEqDiff, Nat.reduceAdd, Nat.reduceLT, Nat.reduceLeDiff, Nat.reduceBEq, Nat.reduceMul, Nat.reduceSub, Nat.reduceDiv, Int.reduceNeg, Int.reduceLT, Int.reduceLE, Int.reduceEq, Int.reduceToNat, lk54, HS, hz, nl, n1, wd]
  refine goE_loop (bad := []) (kp := kp54) (fun a : Nat × W × (Nat → Int) => { slots := [(0, .c (.ptr 3 0)), (2, .c (.ptr 4 0)), (4, .c (.ptr 5 0)), (14, I (r.de + 1)), (15, I (a.1 : Int))], heap := HS r a.2.1 ++ [.cells (numsC 41 zf), .cells (numsC 41 a.2.2)], marks := [] })
    (fun a => a.1 ≤ r.de.toNat + 1 ∧ (∀ i, 0 ≤ a.2.1.1 i ∧ a.2.1.1 i ≤ 1) ∧ waysR r m (r.de.toNat + 1 - a.1) a.2.1 a.2.2 = some (b, w', far)) (fun a => r.de.toNat + 1 - a.1) (0, w, zf) mo (by kernel_rfl) ?_ ⟨Nat.zero_le _, hst, hw⟩ ?_
  · refine ent_weaken [] (by simp only [HS, List.append_nil]; rfl) rfl (show 4 ≤ 6 by decide) (by rw [List.all_append, HS_low]; simp only [List.all_cons, List.all_nil, AB.low, numsC_low, Bool.and_self]) rfl ?_
    simp (config := { maxSteps := 2000000 }) only [go_sem, reduceIte, Nat.reduceEqDiff, Nat.reduceAdd, Nat.reduceLT, Nat.reduceLeDiff, Nat.reduceBEq, Nat.reduceMul, Nat.reduceSub, Nat.reduceDiv, Int.reduceNeg, Int.reduceLT, Int.reduceLE, Int.reduceEq, Int.reduceToNat, lk54, HS]
    exact .refl _
  clear hst hw nl n1
  rintro ⟨k, w, f5⟩ ⟨hk, hst, hw⟩
  simp only at hk hst hw
  simp (config := { maxSteps := 2000000 }) only [go_sem, reduceIte, Nat.reduceEqDiff, Nat.reduceAdd, Nat.reduceLT, Nat.reduceLeDiff, Nat.reduceBEq, Nat.reduceMul, Nat.reduceSub, Nat.reduceDiv, Int.reduceNeg, Int.reduceLT, Int.reduceLE, Int.reduceEq, Int.reduceToNat, lk54, HS]
  refine goE_if (fun h => ?_) (fun h => ?_)
  · have hlt : k < r.de.toNat + 1 := by simp at h; omega
    have hsub : r.de.toNat + 1 - k = (r.de.toNat - k) + 1 := by omega
    rw [hsub, waysR] at hw
    cases hfd : findR (stepsL r w.1 w.2) m q0 with
    | none => rw [hfd] at hw; cases hw
    | some q =>
    rw [hfd] at hw
    simp only at hw
    have hl := find63' r w f5 q m hr hst hfd
    simp only [HS, List.cons_append, List.nil_append] at hl
    simp (config := { maxSteps := 2000000 }) only [go_sem, reduceIte, Nat.reduceEqDiff, Nat.reduceAdd, Nat.reduceLT, Nat.reduceLeDiff, Nat.reduceBEq, Nat.reduceMul, Nat.reduceSub, Nat.reduceDiv, Int.reduceNeg, Int.reduceLT, Int.reduceLE, Int.reduceEq, Int.reduceToNat, lk54]
    refine aops_at (hl) rfl rfl (by first | exact wk_refls _ | (repeat constructor)) ?_
    have nl := netC_len r w.1 w.2
    have n0 := nC0 r w.1 w.2
    have gl := numsC_len 41 q.far
    have g1 := numsC_get q.far (j := r.pl.toNat) (n := 41) (by omega)
    have c1 : (decide ((0 : Int) ≤ r.pl) && decide (r.pl < ((41 : Nat) : Int))) = true := by simp; omega
    have c2 : decide (r.pl.toNat + 1 ≤ 41) = true := by simp; omega
    have c2' : decide (r.pl.toNat ≤ 40) = true := by simp; omega
    have gl5 := numsC_len 41 f5
    simp (config := { maxSteps := 2000000 }) only [go_sem, reduceIte, Nat.reduceEqDiff, Nat.reduceAdd, Nat.reduceLT, Nat.reduceLeDiff, Nat.reduceBEq, Nat.reduceMul, Nat.reduceSub, Nat.reduceDiv, Int.reduceNeg, Int.reduceLT, Int.reduceLE, Int.reduceEq, Int.reduceToNat, lk54, set_all, nl, n0, gl, gl5, g1, c1, c2, c2', Nat.mul_one]
    by_cases hnev : q.far r.pl.toNat = never
    · rw [if_pos hnev] at hw
      simp only [Option.some.injEq, Prod.mk.injEq] at hw
      obtain ⟨rfl, rfl, rfl⟩ := hw
      have hnev' : q.far r.pl.toNat = 1125899906842624 := hnev
      have glz := numsC_len 41 zf
      simp (config := { maxSteps := 2000000 }) only [go_sem, reduceIte, Nat.reduceEqDiff, Nat.reduceAdd, Nat.reduceLT, Nat.reduceLeDiff, Nat.reduceBEq, Nat.reduceMul, Nat.reduceSub, Nat.reduceDiv, Int.reduceNeg, Int.reduceLT, Int.reduceLE, Int.reduceEq, Int.reduceToNat, lk54, hnev', hz, set_all, glz, take_all, fillC]
      exact ⟨_, rfl⟩
    have hnev' : ¬ q.far r.pl.toNat = 1125899906842624 := hnev
    rw [if_neg hnev] at hw
    have hby : ∀ e ∈ q.by', OkT e.2 := findR_by (P := OkT) (steps_okT hr) hfd (fun e he => by cases he)
    cases hpt : pathR m r.pl q.by' w with
    | none => rw [hpt] at hw; cases hw
    | some res =>
    rw [hpt] at hw
    simp (config := { maxSteps := 2000000 }) only [go_sem, reduceIte, Nat.reduceEqDiff, Nat.reduceAdd, Nat.reduceLT, Nat.reduceLeDiff, Nat.reduceBEq, Nat.reduceMul, Nat.reduceSub, Nat.reduceDiv, Int.reduceNeg, Int.reduceLT, Int.reduceLE, Int.reduceEq, Int.reduceToNat, lk54, hnev', nl, n0]
    refine goE_loop (bad := []) (kp := kp54) (fun a : Nat × Int × List (Int × Stp) × W => { slots := [(0, .c (.ptr 3 0)), (2, .c (.ptr 4 0)), (4, .c (.ptr 5 0)), (5, .c (.mp 8)), (6, I a.2.1), (14, I (r.de + 1)), (15, I (k : Int))], heap := HP r a.2.2.2 q.far a.2.2.1, marks := [] })
      (fun a => (∀ i, 0 ≤ a.2.2.2.1 i ∧ a.2.2.2.1 i ≤ 1) ∧ (∀ e ∈ a.2.2.1, OkT e.2) ∧ pathR a.1 a.2.1 a.2.2.1 a.2.2.2 = some res) (fun a => a.1) (m, r.pl, q.by', w) mo (by kernel_rfl) ?_ ⟨hst, hby, hpt⟩ ?_
    · refine ent_weaken [] (by simp only [HP, List.append_nil]) rfl (show 4 ≤ 9 by decide) (HP_low _ _ _ _ _) rfl ?_
      simp (config := { maxSteps := 2000000 }) only [go_sem, reduceIte, Nat.reduceEqDiff, Nat.reduceAdd, Nat.reduceLT, Nat.reduceLeDiff, Nat.reduceBEq, Nat.reduceMul, Nat.reduceSub, Nat.reduceDiv, Int.reduceNeg, Int.reduceLT, Int.reduceLE, Int.reduceEq, Int.reduceToNat, lk54, HP]
    clear hpt hby hst hfd hl h
    rintro ⟨n, at', es, w⟩ ⟨hst, hby, hpt⟩
    simp only at hst hby hpt
    cases n with
    | zero => cases hpt
    | succ n =>
    simp (config := { maxSteps := 2000000 }) only [go_sem, reduceIte, Nat.reduceEqDiff, Nat.reduceAdd, Nat.reduceLT, Nat.reduceLeDiff, Nat.reduceBEq, Nat.reduceMul, Nat.reduceSub, Nat.reduceDiv, Int.reduceNeg, Int.reduceLT, Int.reduceLE, Int.reduceEq, Int.reduceToNat, lk54, HP]
    refine goE_if (fun h => ?_) (fun h => ?_)
    · have hat : at' ≠ 0 := by simpa using h
      rw [pathR, if_neg hat] at hpt
      cases hfn : fnd at' es 0 with
      | none =>
        rw [hfn] at hpt
        cases hpt
        have hw : some (false, w, zf) = some (b, w', far) := hw
        cases hw
        have glz := numsC_len 41 zf
        simp (config := { maxSteps := 2000000 }) only [go_sem, reduceIte, Nat.reduceEqDiff, Nat.reduceAdd, Nat.reduceLT, Nat.reduceLeDiff, Nat.reduceBEq, Nat.reduceMul, Nat.reduceSub, Nat.reduceDiv, Int.reduceNeg, Int.reduceLT, Int.reduceLE, Int.reduceEq, Int.reduceToNat, lk54, findE_byI, hfn, keyOk, lookV, glOf, noneD, eqCs, eqC, hz, set_all, glz, take_all, fillC, Option.isSome_none, decide_eq_true_eq]
        exact ⟨_, rfl⟩
      | some is =>
        obtain ⟨i, s⟩ := is
        rw [hfn] at hpt
        have hpt : pathR n s.fr (delB at' es) (takeS s w) = some res := hpt
        have hdel : ∀ x, delE (byE es) (some (i, x)) = byE (delB at' es) := fun x => by
          simp only [delE, delB, hfn, byE]; exact erase_map _ _ _
        have hs : OkT s := hby (at', s) (fnd_mem hfn)
        have hne := hs.ne
        simp (config := { maxSteps := 2000000 }) only [go_sem, reduceIte, Nat.reduceEqDiff, Nat.reduceAdd, Nat.reduceLT, Nat.reduceLeDiff, Nat.reduceBEq, Nat.reduceMul, Nat.reduceSub, Nat.reduceDiv, Int.reduceNeg, Int.reduceLT, Int.reduceLE, Int.reduceEq, Int.reduceToNat, lk54, findE_byI, hfn, keyOk, lookV, glOf, noneD, eqCs, eqC, sV, sC, hne, hdel]
        have hl2 := take64' r w q.far (delB at' es) s s hs
        simp only [HP, sV, sC, List.cons_append, List.nil_append, noneD] at hl2
        refine aops_at (hl2) rfl rfl (by first | exact wk_refls _ | (repeat constructor)) ?_
        simp (config := { maxSteps := 2000000 }) only [go_sem, reduceIte, Nat.reduceEqDiff, Nat.reduceAdd, Nat.reduceLT, Nat.reduceLeDiff, Nat.reduceBEq, Nat.reduceMul, Nat.reduceSub, Nat.reduceDiv, Int.reduceNeg, Int.reduceLT, Int.reduceLE, Int.reduceEq, Int.reduceToNat, lk54]
        refine ⟨(n, s.fr, delB at' es, takeS s w), ⟨takeS_st hst, fun e he => hby e (delB_mem he), hpt⟩, Nat.lt_succ_self n, ?_⟩
        refine ent_weaken [AB.cells (sC s)] (by simp only [HP, sC]; rfl) rfl (show 4 ≤ 9 by decide) (HP_low _ _ _ _ _) rfl ?_
        simp (config := { maxSteps := 2000000 }) only [go_sem, reduceIte, Nat.reduceEqDiff, Nat.reduceAdd, Nat.reduceLT, Nat.reduceLeDiff, Nat.reduceBEq, Nat.reduceMul, Nat.reduceSub, Nat.reduceDiv, Int.reduceNeg, Int.reduceLT, Int.reduceLE, Int.reduceEq, Int.reduceToNat, lk54, HP]
    · have hat : at' = 0 := by simpa using h
      rw [pathR, if_pos hat] at hpt
      cases hpt
      have hw : waysR r m (r.de.toNat - k) w q.far = some (b, w', far) := hw
      simp (config := { maxSteps := 2000000 }) only [go_sem, reduceIte, Nat.reduceEqDiff, Nat.reduceAdd, Nat.reduceLT, Nat.reduceLeDiff, Nat.reduceBEq, Nat.reduceMul, Nat.reduceSub, Nat.reduceDiv, Int.reduceNeg, Int.reduceLT, Int.reduceLE, Int.reduceEq, Int.reduceToNat, lk54, wr_succ hlt (show r.de.toNat + 1 ≤ 140737488355328 by omega)]
      refine ⟨(k + 1, w, q.far), ⟨by omega, hst, by rw [show r.de.toNat + 1 - (k + 1) = r.de.toNat - k by omega]; exact hw⟩, by omega, ?_⟩
      refine ent_weaken [AB.cells (numsC 41 q.far), AB.cells (numsC 41 q.far), AB.mp (byE es)] (by simp only [HS]; rfl) rfl (show 4 ≤ 6 by decide) (by simp only [List.all_cons, List.all_nil, AB.low, numsC_low, netC_low, roadC_low, Bool.and_self]) rfl ?_
      simp (config := { maxSteps := 2000000 }) only [go_sem, reduceIte, Nat.reduceEqDiff, Nat.reduceAdd, Nat.reduceLT, Nat.reduceLeDiff, Nat.reduceBEq, Nat.reduceMul, Nat.reduceSub, Nat.reduceDiv, Int.reduceNeg, Int.reduceLT, Int.reduceLE, Int.reduceEq, Int.reduceToNat, lk54, HS]
  · have hk' : k = r.de.toNat + 1 := by simp at h; omega
    subst hk'
    rw [Nat.sub_self, waysR] at hw
    simp only [Option.some.injEq, Prod.mk.injEq] at hw
    obtain ⟨rfl, rfl, rfl⟩ := hw
    have gl5 := numsC_len 41 f5
    simp (config := { maxSteps := 2000000 }) only [go_sem, reduceIte, Nat.reduceEqDiff, Nat.reduceAdd, Nat.reduceLT, Nat.reduceLeDiff, Nat.reduceBEq, Nat.reduceMul, Nat.reduceSub, Nat.reduceDiv, Int.reduceNeg, Int.reduceLT, Int.reduceLE, Int.reduceEq, Int.reduceToNat, lk54, set_all, gl5, take_all, numsC_len]
    exact ⟨_, rfl⟩
end Go.Proofs.YteamgbndnfjoaaaDoor
