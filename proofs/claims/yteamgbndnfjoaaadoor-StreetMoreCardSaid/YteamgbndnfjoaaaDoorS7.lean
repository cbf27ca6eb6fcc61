/- The ways through a street: take, solve. -/
import Derived.Test.YteamgbndnfjoaaaDoorS6
set_option linter.unusedSimpArgs false
set_option linter.unusedVariables false
set_option maxRecDepth 100000
namespace Go.Proofs.YteamgbndnfjoaaaDoor
open Go Go.Abs Go.Proofs
def kp64 : List (Nat × List Nat) := [(0, [0, 3]), (1, []), (2, [0, 3, 15]), (3, []), (4, [0, 3, 33]), (5, [])]
theorem lk64 : lookK kp64 0 = some [0, 3] ∧ lookK kp64 1 = some [] ∧ lookK kp64 2 = some [0, 3, 15] ∧ lookK kp64 3 = some [] ∧ lookK kp64 4 = some [0, 3, 33] ∧ lookK kp64 5 = some [] := ⟨rfl, rfl, rfl, rfl, rfl, rfl⟩

theorem netC_st (r : Rd) (st bk : Nat → Int) {i : Nat} (h : i < 24) (v : Int) : (netC r st bk).set (4 + i) (.d (.int .i64 v)) = netC r (upd st i v) bk := by
  have h1 : (numsD 24 st ++ numsD 40 bk).set i (.int .i64 v) = numsD 24 (upd st i v) ++ numsD 40 bk := by
    rw [List.set_append_left _ _ (by rw [numsD_len]; exact h), numsD_set]
  rw [Nat.add_comm 4 i]
  show _ :: _ :: _ :: _ :: ((numsD 24 st ++ numsD 40 bk).map C.d).set i _ = _
  rw [← List.map_set, h1]; rfl
theorem netC_bk (r : Rd) (st bk : Nat → Int) {i : Nat} (h : i < 40) (v : Int) : (netC r st bk).set (28 + i) (.d (.int .i64 v)) = netC r st (upd bk i v) := by
  have h1 : (numsD 24 st ++ numsD 40 bk).set (24 + i) (.int .i64 v) = numsD 24 st ++ numsD 40 (upd bk i v) := by
    rw [List.set_append_right _ _ (by rw [numsD_len]; omega), numsD_len, Nat.add_sub_cancel_left, numsD_set]
  rw [show 28 + i = (24 + i) + 4 by omega]
  show _ :: _ :: _ :: _ :: ((numsD 24 st ++ numsD 40 bk).map C.d).set (24 + i) _ = _
  rw [← List.map_set, h1]; rfl

/-- A step is gone: which posts stand then, and how often one goes back. -/
def takeS (s : Stp) (w : (Nat → Int) × (Nat → Int)) : (Nat → Int) × (Nat → Int) :=
  if s.po ≠ -1 then (upd w.1 s.po.toNat (wr .i64 (1 - w.1 s.po.toNat)), w.2)
  else if s.to < s.fr then (w.1, upd w.2 s.to.toNat (wr .i64 (w.2 s.to.toNat + 1)))
  else (w.1, upd w.2 s.fr.toNat (wr .i64 (w.2 s.fr.toNat - 1)))
/-- What a step of a street is like. -/
structure OkT (s : Stp) : Prop where
  ok : OkS s
  post : s.po ≠ -1 → 0 ≤ s.po ∧ s.po < 24
  back : s.po = -1 → (s.to < s.fr → s.to < 40) ∧ (¬ s.to < s.fr → s.fr < 40)
def HN (p : FP) (T : List AB) : List AB := [.gl 0 noneD, .cells (roadC p.r), .cells (roadC p.r), .cells (netC p.r p.st p.bk)] ++ T
set_option maxHeartbeats 4000000 in
theorem take64 (p : FP) (T : List AB) (s : Stp) (hs : OkT s) (hT : ∀ st bk, (HN { p with st := st, bk := bk } T).all (AB.low (HN p T).length) = true) :
    ACall Tryd.prog 64 [.c (.ptr 3 0), sV s] (HN p T) (one (.tup []) (HN { p with st := (takeS s (p.st, p.bk)).1, bk := (takeS s (p.st, p.bk)).2 } T)) := by
  refine ACall.drop2 (by simp [HN]) rfl (by simpa [HN] using hT _ _) ?_
  refine acall_fitE (bad := [3, 5, 1]) (kp := kp64) (X := tx) (nt := 50) (rs := []) Tryd.func64 rfl rfl rfl rfl mo (by kernel_rfl) (fun hf' => ?_)
  have nl := netC_len p.r p.st p.bk
  have lc : ∀ x : AB, (T ++ [x])[T.length]? = some x := fun x => List.getElem?_concat_length
  simp (config := { maxSteps := 2000000 }) only [go_sem, reduceIte, Nat.reduceEqDiff, Nat.reduceAdd, Nat.reduceLT, Nat.reduceLeDiff, Nat.reduceBEq, Nat.reduceMul, Nat.reduceSub, Nat.reduceDiv, Int.reduceNeg, Int.reduceLT, Int.reduceLE, Int.reduceEq, Int.reduceToNat, fillC, zc, List.replicate_succ, List.replicate_zero, List.flatten_cons, List.flatten_nil, toDs, toD, chunk, placeS, srcRows, List.all_cons, List.all_nil, List.all_map, Function.comp_def, List.take_nil, List.drop_nil, List.toList_toArray, C.eqbL, eqCs, eqC, List.drop_one, List.tail_cons, lim, lk64, HN, sV, sC, lc]
  by_cases h1 : s.po = -1
  · obtain ⟨hb1, hb2⟩ := hs.back h1
    have a0 := hs.ok.f0
    have a2 := hs.ok.t0
    by_cases h2 : s.to < s.fr
    · have hlt := hb1 h2
      have nb := nCbk p.r p.st p.bk (i := s.to.toNat) (by omega)
      have nset := netC_bk p.r p.st p.bk (i := s.to.toNat) (by omega)
      have c1 : decide (28 + s.to.toNat + 1 ≤ 68) = true := by simp; omega
      have c1' : decide (28 + s.to.toNat ≤ 67) = true := by simp; omega
      have c2 : (decide ((0 : Int) ≤ s.to) && decide (s.to < ((40 : Nat) : Int))) = true := by simp; omega
      simp (config := { maxSteps := 2000000 }) only [go_sem, reduceIte, Nat.reduceEqDiff, Nat.reduceAdd, Nat.reduceLT, Nat.reduceLeDiff, Nat.reduceBEq, Nat.reduceMul, Nat.reduceSub, Nat.reduceDiv, Int.reduceNeg, Int.reduceLT, Int.reduceLE, Int.reduceEq, Int.reduceToNat, fillC, zc, List.replicate_succ, List.replicate_zero, List.flatten_cons, List.flatten_nil, toDs, toD, chunk, placeS, srcRows, List.all_cons, List.all_nil, List.all_map, Function.comp_def, List.take_nil, List.drop_nil, List.toList_toArray, C.eqbL, eqCs, eqC, List.drop_one, List.tail_cons, lim, lk64, h1, h2, nb, nl, nset, c1, c1', c2, Nat.mul_one, lc]
      have e : takeS s (p.st, p.bk) = (p.st, upd p.bk s.to.toNat (wr .i64 (p.bk s.to.toNat + 1))) := by simp [takeS, h1, h2]
      rw [e]
      exact ⟨pairsOk_ord (by kernel_rfl), [AB.cells (sC s)], by simp [HN, sC, h1]⟩
    · have hlt := hb2 h2
      have nb := nCbk p.r p.st p.bk (i := s.fr.toNat) (by omega)
      have nset := netC_bk p.r p.st p.bk (i := s.fr.toNat) (by omega)
      have c1 : decide (28 + s.fr.toNat + 1 ≤ 68) = true := by simp; omega
      have c1' : decide (28 + s.fr.toNat ≤ 67) = true := by simp; omega
      have c2 : (decide ((0 : Int) ≤ s.fr) && decide (s.fr < ((40 : Nat) : Int))) = true := by simp; omega
      simp (config := { maxSteps := 2000000 }) only [go_sem, reduceIte, Nat.reduceEqDiff, Nat.reduceAdd, Nat.reduceLT, Nat.reduceLeDiff, Nat.reduceBEq, Nat.reduceMul, Nat.reduceSub, Nat.reduceDiv, Int.reduceNeg, Int.reduceLT, Int.reduceLE, Int.reduceEq, Int.reduceToNat, fillC, zc, List.replicate_succ, List.replicate_zero, List.flatten_cons, List.flatten_nil, toDs, toD, chunk, placeS, srcRows, List.all_cons, List.all_nil, List.all_map, Function.comp_def, List.take_nil, List.drop_nil, List.toList_toArray, C.eqbL, eqCs, eqC, List.drop_one, List.tail_cons, lim, lk64, h1, h2, nb, nl, nset, c1, c1', c2, Nat.mul_one, lc]
      have e : takeS s (p.st, p.bk) = (p.st, upd p.bk s.fr.toNat (wr .i64 (p.bk s.fr.toNat - 1))) := by simp [takeS, h1, h2]
      rw [e]
      exact ⟨pairsOk_ord (by kernel_rfl), [AB.cells (sC s)], by simp [HN, sC, h1]⟩
  · obtain ⟨hp0, hp1⟩ := hs.post h1
    have nb := nCst p.r p.st p.bk (i := s.po.toNat) (by omega)
    have nset := netC_st p.r p.st p.bk (i := s.po.toNat) (by omega)
    have c1 : decide (4 + s.po.toNat + 1 ≤ 68) = true := by simp; omega
    have c1' : decide (4 + s.po.toNat ≤ 67) = true := by simp; omega
    have c2 : (decide ((0 : Int) ≤ s.po) && decide (s.po < ((24 : Nat) : Int))) = true := by simp; omega
    simp (config := { maxSteps := 2000000 }) only [go_sem, reduceIte, Nat.reduceEqDiff, Nat.reduceAdd, Nat.reduceLT, Nat.reduceLeDiff, Nat.reduceBEq, Nat.reduceMul, Nat.reduceSub, Nat.reduceDiv, Int.reduceNeg, Int.reduceLT, Int.reduceLE, Int.reduceEq, Int.reduceToNat, fillC, zc, List.replicate_succ, List.replicate_zero, List.flatten_cons, List.flatten_nil, toDs, toD, chunk, placeS, srcRows, List.all_cons, List.all_nil, List.all_map, Function.comp_def, List.take_nil, List.drop_nil, List.toList_toArray, C.eqbL, eqCs, eqC, List.drop_one, List.tail_cons, lim, lk64, h1, nb, nl, nset, c1, c1', c2, Nat.mul_one, lc]
    have e : takeS s (p.st, p.bk) = (upd p.st s.po.toNat (wr .i64 (1 - p.st s.po.toNat)), p.bk) := by simp [takeS, h1]
    rw [e]
    exact ⟨pairsOk_ord (by kernel_rfl), [AB.cells (sC s)], by simp [HN, sC]⟩

theorem steps_okT {r : Rd} {st bk : Nat → Int} (hr : OkR r) : ∀ s ∈ stepsL r st bk, OkT s := fun s hs => by
  have ho := steps_ok hr s hs
  have := hr.p1
  have := hr.p40
  have := hr.len
  simp only [stepsL, List.mem_append, List.mem_flatMap, List.mem_range] at hs
  rcases hs with ⟨k, hk, h⟩ | ⟨i, hi, h⟩
  · simp only [backL, List.mem_cons] at h
    rcases h with rfl | h
    · exact ⟨ho, fun h => absurd rfl h, fun _ => ⟨fun _ => by simp; omega, fun h => absurd (show (k : Int) < (k : Int) + 1 by omega) h⟩⟩
    · split at h
      · simp only [List.mem_cons, List.not_mem_nil, or_false] at h
        subst h
        exact ⟨ho, fun h => absurd rfl h, fun _ => ⟨fun h => absurd h (by simp; omega), fun _ => by simp; omega⟩⟩
      · simp at h
  · have hpo : s.po = (i : Int) := by
      simp only [postL] at h
      split at h
      · simp only [List.mem_cons, List.not_mem_nil, or_false] at h
        subst h
        simp only [postS]
        split <;> rfl
      · simp at h
    exact ⟨ho, fun _ => by omega, fun h => by omega⟩
theorem fnd_mem {k : Int} : ∀ {es : List (Int × Stp)} {n i : Nat} {s : Stp}, fnd k es n = some (i, s) → (k, s) ∈ es
  | [], n, i, s, h => by cases h
  | e :: es, n, i, s, h => by
    simp only [fnd] at h
    split at h
    · rename_i hk
      simp only [Option.some.injEq, Prod.mk.injEq] at h
      obtain ⟨_, rfl⟩ := h
      subst hk; simp
    · exact List.mem_cons_of_mem _ (fnd_mem h)
theorem updB_mem {k : Int} {s : Stp} {es : List (Int × Stp)} {e : Int × Stp} (h : e ∈ updB k s es) : e = (k, s) ∨ e ∈ es := by
  unfold updB at h
  split at h
  · rcases List.mem_or_eq_of_mem_set h with h | h
    · exact .inr h
    · exact .inl h
  · rw [List.mem_append] at h
    rcases h with h | h
    · exact .inr h
    · exact .inl (by simpa using h)
theorem delB_mem {k : Int} {es : List (Int × Stp)} {e : Int × Stp} (h : e ∈ delB k es) : e ∈ es := by
  unfold delB at h
  split at h
  · exact List.mem_of_mem_eraseIdx h
  · exact h
theorem relax_by {P : Stp → Prop} {q : FS} {s : Stp} (hs : P s) (h : ∀ e ∈ q.by', P e.2) : ∀ e ∈ (relax q s).by', P e.2 := by
  unfold relax
  split
  · exact h
  · intro e he
    simp only at he
    split at he
    · rcases updB_mem he with rfl | he
      · exact hs
      · exact h e he
    · exact h e he
theorem roundF_by {P : Stp → Prop} : ∀ {l : List Stp} {q : FS}, (∀ s ∈ l, P s) → (∀ e ∈ q.by', P e.2) → ∀ e ∈ (roundF l q).by', P e.2
  | [], q, _, h => h
  | s :: l, q, hl, h => roundF_by (l := l) (q := relax q s) (fun x hx => hl x (by simp [hx])) (relax_by (hl s (by simp)) h)
theorem findR_by {P : Stp → Prop} {l : List Stp} (hl : ∀ s ∈ l, P s) : ∀ {n : Nat} {q q' : FS}, findR l n q = some q' → (∀ e ∈ q.by', P e.2) → ∀ e ∈ q'.by', P e.2
  | 0, q, q', h, _ => by cases h
  | n + 1, q, q', h, hq => by
    rw [findR] at h
    split at h
    · cases h; exact roundF_by hl hq
    · exact findR_by hl h (roundF_by hl hq)

abbrev W := (Nat → Int) × (Nat → Int)
def pathR : Nat → Int → List (Int × Stp) → W → Option (Bool × W)
  | 0, _, _, _ => none
  | n + 1, a, es, w => if a = 0 then some (true, w) else match fnd a es 0 with
    | none => some (false, w)
    | some (_, s) => pathR n s.fr (delB a es) (takeS s w)
def waysR (r : Rd) (m : Nat) : Nat → W → (Nat → Int) → Option (Bool × W × (Nat → Int))
  | 0, w, far => some (true, w, far)
  | k + 1, w, far => match findR (stepsL r w.1 w.2) m q0 with
    | none => none
    | some q => if q.far r.pl.toNat = never then some (false, w, zf) else match pathR m r.pl q.by' w with
      | none => none
      | some (false, w') => some (false, w', zf)
      | some (true, w') => waysR r m k w' q.far
theorem takeS_st {s : Stp} {w : W} (h : ∀ i, 0 ≤ w.1 i ∧ w.1 i ≤ 1) : ∀ i, 0 ≤ (takeS s w).1 i ∧ (takeS s w).1 i ≤ 1 := fun i => by
  unfold takeS
  split
  · simp only [upd]
    split
    · have := h s.po.toNat
      rw [wr_id (by omega) (by omega)]; omega
    · exact h i
  · split <;> exact h i
end Go.Proofs.YteamgbndnfjoaaaDoor
