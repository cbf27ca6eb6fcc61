/- seen, turned, See, CheckClash. -/
import Derived.Test.YtklmpopomokglaaY5
set_option linter.unusedSimpArgs false
set_option linter.unusedVariables false
namespace Go.Proofs.Ytklmpopomokglaa
open Go Go.Abs Go.Proofs

/-- A code: four numbers. -/
def codeC (a b c d : Int) : List C := [.d (.int .i64 a), .d (.int .i64 b), .d (.int .i64 c), .d (.int .i64 d)]
def ngB (k i : Nat) (a : Int) : Int := if k < i then -a else a

set_option maxHeartbeats 1000000 in
theorem turned55 (a b c d : Int) (ha : -1 ≤ a ∧ a ≤ 1) (hb : -1 ≤ b ∧ b ≤ 1) (hc : -1 ≤ c ∧ c ≤ 1) (hd : -1 ≤ d ∧ d ≤ 1) : Pure Try.prog 55 [.agg (codeC a b c d)] (.agg (codeC (-a) (-b) (-c) (-d))) := by
  refine pure_wk (X := tx) (nt := 15) (rs := [.cell 2 63]) Try.func55 rfl rfl rfl rfl mo (by kernel_rfl) rfl rfl (fun hf => ?_)
  simp only [go_sem, reduceIte, Nat.reduceEqDiff, Nat.reduceAdd, Nat.reduceLT, Nat.reduceLeDiff, Nat.reduceBEq, Nat.reduceMul, Nat.reduceSub, Nat.reduceDiv, Int.reduceNeg, Int.reduceLT, Int.reduceLE, Int.reduceEq, Int.reduceToNat, tt3, tt4, tt5, tt22, tt24, tt29, tt26, tt30, tt36, tt59, tt62, tt63, tt87, tt88, tt89, ti3, ti22, ti29, ti26, eq26, eq62, eq63, codeC]
  refine go_loop (fun i : Nat => { slots := [(1, .c (.ptr 0 0)), (2, .c (.ptr 1 0)), (4, I i)], heap := [.cells (codeC (ngB 0 i a) (ngB 1 i b) (ngB 2 i c) (ngB 3 i d)), .cells (codeC 0 0 0 0)], marks := [] }) (fun i => i ≤ 4) (fun i => 4 - i) 0 mo (by kernel_rfl) ?_ (by omega) ?_
  · refine ent_weaken [] (by simp [codeC, ngB]) rfl (Nat.zero_le _) rfl rfl ?_
    simp only [go_sem, reduceIte, Nat.reduceEqDiff, Nat.reduceAdd, Nat.reduceLT, Nat.reduceLeDiff, Nat.reduceBEq, Nat.reduceMul, Nat.reduceSub, Nat.reduceDiv, Int.reduceNeg, Int.reduceLT, Int.reduceLE, Int.reduceEq, Int.reduceToNat, tt3, tt4, tt5, tt22, tt24, tt29, tt26, tt30, tt36, tt59, tt62, tt63, tt87, tt88, tt89, ti3, ti22, ti29, ti26, eq26, eq62, eq63, codeC]
    exact .refl _
  rintro i hi
  have hcase : i = 0 ∨ i = 1 ∨ i = 2 ∨ i = 3 ∨ i = 4 := by omega
  have wn : ∀ x : Int, -1 ≤ x ∧ x ≤ 1 → wr .i64 (-x) = -x := fun x hx => by rw [wr_i64] <;> omega
  have e0 : ((0 : Nat) : Int) = 0 := rfl
  have e1 : ((1 : Nat) : Int) = 1 := rfl
  have e2 : ((2 : Nat) : Int) = 2 := rfl
  have e3 : ((3 : Nat) : Int) = 3 := rfl
  have e4 : ((4 : Nat) : Int) = 4 := rfl
  have w1 : wr .i64 1 = 1 := rfl
  have w2 : wr .i64 2 = 2 := rfl
  have w3 : wr .i64 3 = 3 := rfl
  have w4 : wr .i64 4 = 4 := rfl
  rcases hcase with rfl | rfl | rfl | rfl | rfl
  · simp only [go_sem, reduceIte, Nat.reduceEqDiff, Nat.reduceAdd, Nat.reduceLT, Nat.reduceLeDiff, Nat.reduceBEq, Nat.reduceMul, Nat.reduceSub, Nat.reduceDiv, Int.reduceNeg, Int.reduceLT, Int.reduceLE, Int.reduceEq, Int.reduceToNat, tt3, tt4, tt5, tt22, tt24, tt29, tt26, tt30, tt36, tt59, tt62, tt63, tt87, tt88, tt89, ti3, ti22, ti29, ti26, eq26, eq62, eq63, codeC, ngB, wn a ha, e0, Int.reduceAdd, w1]
    refine ⟨by decide, by decide, 1, by omega, by omega, ?_⟩
    refine ent_weaken [] (by simp) rfl (Nat.zero_le _) rfl rfl ?_
    simp only [go_sem, reduceIte, Nat.reduceEqDiff, Nat.reduceAdd, Nat.reduceLT, Nat.reduceLeDiff, Nat.reduceBEq, Nat.reduceMul, Nat.reduceSub, Nat.reduceDiv, Int.reduceNeg, Int.reduceLT, Int.reduceLE, Int.reduceEq, Int.reduceToNat, tt3, tt4, tt5, tt22, tt24, tt29, tt26, tt30, tt36, tt59, tt62, tt63, tt87, tt88, tt89, ti3, ti22, ti29, ti26, eq26, eq62, eq63]
    exact .refl _
  · simp only [go_sem, reduceIte, Nat.reduceEqDiff, Nat.reduceAdd, Nat.reduceLT, Nat.reduceLeDiff, Nat.reduceBEq, Nat.reduceMul, Nat.reduceSub, Nat.reduceDiv, Int.reduceNeg, Int.reduceLT, Int.reduceLE, Int.reduceEq, Int.reduceToNat, tt3, tt4, tt5, tt22, tt24, tt29, tt26, tt30, tt36, tt59, tt62, tt63, tt87, tt88, tt89, ti3, ti22, ti29, ti26, eq26, eq62, eq63, codeC, ngB, wn b hb, e1, Int.reduceAdd, w2]
    refine ⟨by decide, by decide, 2, by omega, by omega, ?_⟩
    refine ent_weaken [] (by simp) rfl (Nat.zero_le _) rfl rfl ?_
    simp only [go_sem, reduceIte, Nat.reduceEqDiff, Nat.reduceAdd, Nat.reduceLT, Nat.reduceLeDiff, Nat.reduceBEq, Nat.reduceMul, Nat.reduceSub, Nat.reduceDiv, Int.reduceNeg, Int.reduceLT, Int.reduceLE, Int.reduceEq, Int.reduceToNat, tt3, tt4, tt5, tt22, tt24, tt29, tt26, tt30, tt36, tt59, tt62, tt63, tt87, tt88, tt89, ti3, ti22, ti29, ti26, eq26, eq62, eq63]
    exact .refl _
  · simp only [go_sem, reduceIte, Nat.reduceEqDiff, Nat.reduceAdd, Nat.reduceLT, Nat.reduceLeDiff, Nat.reduceBEq, Nat.reduceMul, Nat.reduceSub, Nat.reduceDiv, Int.reduceNeg, Int.reduceLT, Int.reduceLE, Int.reduceEq, Int.reduceToNat, tt3, tt4, tt5, tt22, tt24, tt29, tt26, tt30, tt36, tt59, tt62, tt63, tt87, tt88, tt89, ti3, ti22, ti29, ti26, eq26, eq62, eq63, codeC, ngB, wn c hc, e2, Int.reduceAdd, w3]
    refine ⟨by decide, by decide, 3, by omega, by omega, ?_⟩
    refine ent_weaken [] (by simp) rfl (Nat.zero_le _) rfl rfl ?_
    simp only [go_sem, reduceIte, Nat.reduceEqDiff, Nat.reduceAdd, Nat.reduceLT, Nat.reduceLeDiff, Nat.reduceBEq, Nat.reduceMul, Nat.reduceSub, Nat.reduceDiv, Int.reduceNeg, Int.reduceLT, Int.reduceLE, Int.reduceEq, Int.reduceToNat, tt3, tt4, tt5, tt22, tt24, tt29, tt26, tt30, tt36, tt59, tt62, tt63, tt87, tt88, tt89, ti3, ti22, ti29, ti26, eq26, eq62, eq63]
    exact .refl _
  · simp only [go_sem, reduceIte, Nat.reduceEqDiff, Nat.reduceAdd, Nat.reduceLT, Nat.reduceLeDiff, Nat.reduceBEq, Nat.reduceMul, Nat.reduceSub, Nat.reduceDiv, Int.reduceNeg, Int.reduceLT, Int.reduceLE, Int.reduceEq, Int.reduceToNat, tt3, tt4, tt5, tt22, tt24, tt29, tt26, tt30, tt36, tt59, tt62, tt63, tt87, tt88, tt89, ti3, ti22, ti29, ti26, eq26, eq62, eq63, codeC, ngB, wn d hd, e3, Int.reduceAdd, w4]
    refine ⟨by decide, by decide, 4, by omega, by omega, ?_⟩
    refine ent_weaken [] (by simp) rfl (Nat.zero_le _) rfl rfl ?_
    simp only [go_sem, reduceIte, Nat.reduceEqDiff, Nat.reduceAdd, Nat.reduceLT, Nat.reduceLeDiff, Nat.reduceBEq, Nat.reduceMul, Nat.reduceSub, Nat.reduceDiv, Int.reduceNeg, Int.reduceLT, Int.reduceLE, Int.reduceEq, Int.reduceToNat, tt3, tt4, tt5, tt22, tt24, tt29, tt26, tt30, tt36, tt59, tt62, tt63, tt87, tt88, tt89, ti3, ti22, ti29, ti26, eq26, eq62, eq63]
    exact .refl _
  · simp only [go_sem, reduceIte, Nat.reduceEqDiff, Nat.reduceAdd, Nat.reduceLT, Nat.reduceLeDiff, Nat.reduceBEq, Nat.reduceMul, Nat.reduceSub, Nat.reduceDiv, Int.reduceNeg, Int.reduceLT, Int.reduceLE, Int.reduceEq, Int.reduceToNat, tt3, tt4, tt5, tt22, tt24, tt29, tt26, tt30, tt36, tt59, tt62, tt63, tt87, tt88, tt89, ti3, ti22, ti29, ti26, eq26, eq62, eq63, codeC, ngB, e4]

/-- What a case's code is. -/
def cd (rows : List (List Int)) (c : Int × Int) (i : Nat) : Int := c.2 * at' ((rows[i]?).getD []) c.1
def codeV (rows : List (List Int)) (c : Int × Int) : V := .agg (codeC (cd rows c 0) (cd rows c 1) (cd rows c 2) (cd rows c 3))

theorem codes_at (f : Nat → Int) {m : Nat} (h : m < 39) : ((codesD f).drop (m * 4)).take 4 = [.int .i64 (f (m * 4)), .int .i64 (f (m * 4 + 1)), .int .i64 (f (m * 4 + 2)), .int .i64 (f (m * 4 + 3))] := by
  refine List.ext_getElem? fun j => ?_
  rw [List.getElem?_take]
  split
  · rename_i hj
    rw [List.getElem?_drop, codesD_get _ (by omega)]
    have : j = 0 ∨ j = 1 ∨ j = 2 ∨ j = 3 := by omega
    rcases this with rfl | rfl | rfl | rfl <;> rfl
  · rename_i hj
    rw [List.getElem?_eq_none (by simp; omega)]
theorem pf_at {rows : List (List Int)} (m : Int) (i : Nat) (h0 : 0 ≤ m) (hi : i < 4) : pf rows (m.toNat * 4 + i) = at' ((rows[i]?).getD []) m := by
  have h1 : (m.toNat * 4 + i) % 4 = i := by omega
  have h2 : (m.toNat * 4 + i) / 4 = m.toNat := by omega
  unfold pf
  rw [h1, h2]
  congr 1
  omega
theorem at_bound' {n : Int} {rows : List (List Int)} (h : OkP n rows) (i : Nat) (c : Int) : -1 ≤ at' ((rows[i]?).getD []) c ∧ at' ((rows[i]?).getD []) c ≤ 1 := by
  cases hr : rows[i]? with
  | none => simp [at']
  | some r => simpa using at_bound h (List.mem_of_getElem? hr) c

set_option maxHeartbeats 1000000 in
theorem seen40 (n : Int) (rows : List (List Int)) (c : Int × Int) (hp : OkP n rows) (hc : OkC n c) : Pure Try.prog 40 [pageV n rows, caseV c] (codeV rows c) := by
  refine pure_wk (X := tx) (nt := 27) (rs := [.cell 4 63]) Try.func40 rfl rfl rfl rfl mo (by kernel_rfl) rfl rfl (fun hf => ?_)
  have h0 := hc.lo
  have h39 : c.1 < 39 := by have := hc.hi; have := hp.n39; omega
  have hm : c.1.toNat < 39 := by omega
  have hk := codes_at (pf rows) hm
  have p0 : pf rows (c.1.toNat * 4) = at' ((rows[0]?).getD []) c.1 := pf_at c.1 0 h0 (by omega)
  have p1 := pf_at (rows := rows) c.1 1 h0 (by omega)
  have p2 := pf_at (rows := rows) c.1 2 h0 (by omega)
  have p3 := pf_at (rows := rows) c.1 3 h0 (by omega)
  rw [p0, p1, p2, p3] at hk
  have b0 := at_bound' hp 0 c.1
  have b1 := at_bound' hp 1 c.1
  have b2 := at_bound' hp 2 c.1
  have b3 := at_bound' hp 3 c.1
  have hl := codesD_len (pf rows)
  simp only [go_sem, reduceIte, Nat.reduceEqDiff, Nat.reduceAdd, Nat.reduceLT, Nat.reduceLeDiff, Nat.reduceBEq, Nat.reduceMul, Nat.reduceSub, Nat.reduceDiv, Int.reduceNeg, Int.reduceLT, Int.reduceLE, Int.reduceEq, Int.reduceToNat, tt3, tt4, tt5, tt22, tt24, tt29, tt26, tt30, tt36, tt59, tt62, tt63, tt87, tt88, tt89, ti3, ti22, ti29, ti26, eq26, eq62, eq63, pageV, caseV, cC]
  by_cases h1 : c.2 = 1
  · simp only [go_sem, reduceIte, Nat.reduceEqDiff, Nat.reduceAdd, Nat.reduceLT, Nat.reduceLeDiff, Nat.reduceBEq, Nat.reduceMul, Nat.reduceSub, Nat.reduceDiv, Int.reduceNeg, Int.reduceLT, Int.reduceLE, Int.reduceEq, Int.reduceToNat, tt3, tt4, tt5, tt22, tt24, tt29, tt26, tt30, tt36, tt59, tt62, tt63, tt87, tt88, tt89, ti3, ti22, ti29, ti26, eq26, eq62, eq63, h1, pageDf, h0, hk, hl, List.length_drop, ← List.map_take, codeV, cd, codeC, Int.one_mul]
    exact ⟨by simp; omega, by simp; omega⟩
  by_cases h2 : c.2 = -1
  · simp only [go_sem, reduceIte, Nat.reduceEqDiff, Nat.reduceAdd, Nat.reduceLT, Nat.reduceLeDiff, Nat.reduceBEq, Nat.reduceMul, Nat.reduceSub, Nat.reduceDiv, Int.reduceNeg, Int.reduceLT, Int.reduceLE, Int.reduceEq, Int.reduceToNat, tt3, tt4, tt5, tt22, tt24, tt29, tt26, tt30, tt36, tt59, tt62, tt63, tt87, tt88, tt89, ti3, ti22, ti29, ti26, eq26, eq62, eq63, h1, h2, pageDf, h0, hk, hl, List.length_drop, ← List.map_take]
    refine ⟨by simp; omega, by simp; omega, ?_⟩
    refine dops_pure' (turned55 _ _ _ _ b0 b1 b2 b3) rfl rfl (by first | exact wk_refls _ | (repeat constructor)) (by kernel_rfl) ?_
    have hneg : ∀ x : Int, -1 * x = -x := fun x => by omega
    simp only [go_sem, reduceIte, Nat.reduceEqDiff, Nat.reduceAdd, Nat.reduceLT, Nat.reduceLeDiff, Nat.reduceBEq, Nat.reduceMul, Nat.reduceSub, Nat.reduceDiv, Int.reduceNeg, Int.reduceLT, Int.reduceLE, Int.reduceEq, Int.reduceToNat, tt3, tt4, tt5, tt22, tt24, tt29, tt26, tt30, tt36, tt59, tt62, tt63, tt87, tt88, tt89, ti3, ti22, ti29, ti26, eq26, eq62, eq63, codeC, codeV, cd, h2, hneg]
  have h3 : c.2 = 0 := by have := hc.slo; have := hc.shi; omega
  simp only [go_sem, reduceIte, Nat.reduceEqDiff, Nat.reduceAdd, Nat.reduceLT, Nat.reduceLeDiff, Nat.reduceBEq, Nat.reduceMul, Nat.reduceSub, Nat.reduceDiv, Int.reduceNeg, Int.reduceLT, Int.reduceLE, Int.reduceEq, Int.reduceToNat, tt3, tt4, tt5, tt22, tt24, tt29, tt26, tt30, tt36, tt59, tt62, tt63, tt87, tt88, tt89, ti3, ti22, ti29, ti26, eq26, eq62, eq63, h1, h2, h3, codeV, cd, codeC, Int.zero_mul, fillC]

theorem isCase_sh {n : Int} {c : Int × Int} (h : isCase n c = true) : -1 ≤ c.2 ∧ c.2 ≤ 1 := by
  unfold isCase at h
  split at h
  · omega
  · simp at h; omega

set_option maxHeartbeats 1000000 in
theorem see16_bad (n : Int) (rows : List (List Int)) (c : Int × Int) (hp : okPlan n rows ≠ 0) : Pure Try.prog 16 [planV n rows, caseV c] (.tup [ints [], I (okPlan n rows)]) := by
  refine pure_wk (X := tx) (nt := 31) (rs := [.tmp 4, .tmp 5]) Try.func16 rfl rfl rfl rfl mo (by kernel_rfl) rfl rfl (fun hf => ?_)
  simp only [go_sem, reduceIte, Nat.reduceEqDiff, Nat.reduceAdd, Nat.reduceLT, Nat.reduceLeDiff, Nat.reduceBEq, Nat.reduceMul, Nat.reduceSub, Nat.reduceDiv, Int.reduceNeg, Int.reduceLT, Int.reduceLE, Int.reduceEq, Int.reduceToNat, tt3, tt4, tt5, tt22, tt24, tt29, tt26, tt30, tt36, tt59, tt62, tt63, tt87, tt88, tt89, ti3, ti22, ti29, ti26, eq26, eq62, eq63, planV, planC, caseV, cC, fillC, zc, List.replicate_succ, List.replicate_zero, List.flatten_cons, List.flatten_nil, toDs, toD, chunk, lim]
  refine aops_pure' (page39_bad n rows [c] hp) rfl rfl (by first | exact wk_refls _ | (repeat constructor)) ?_
  simp only [go_sem, reduceIte, Nat.reduceEqDiff, Nat.reduceAdd, Nat.reduceLT, Nat.reduceLeDiff, Nat.reduceBEq, Nat.reduceMul, Nat.reduceSub, Nat.reduceDiv, Int.reduceNeg, Int.reduceLT, Int.reduceLE, Int.reduceEq, Int.reduceToNat, tt3, tt4, tt5, tt22, tt24, tt29, tt26, tt30, tt36, tt59, tt62, tt63, tt87, tt88, tt89, ti3, ti22, ti29, ti26, eq26, eq62, eq63, hp, ints]

set_option maxHeartbeats 4000000 in
theorem see16_ok (n : Int) (rows : List (List Int)) (c : Int × Int) (hp : OkP n rows) (hc : isCase n c = true) : Pure Try.prog 16 [planV n rows, caseV c] (.tup [ints (seenL rows c), I 0]) := by
  refine pure_wk (X := tx) (nt := 31) (rs := [.tmp 4, .tmp 5]) Try.func16 rfl rfl rfl rfl mo (by kernel_rfl) rfl rfl (fun hf => ?_)
  have h4 := hp.len
  simp only [go_sem, reduceIte, Nat.reduceEqDiff, Nat.reduceAdd, Nat.reduceLT, Nat.reduceLeDiff, Nat.reduceBEq, Nat.reduceMul, Nat.reduceSub, Nat.reduceDiv, Int.reduceNeg, Int.reduceLT, Int.reduceLE, Int.reduceEq, Int.reduceToNat, tt3, tt4, tt5, tt22, tt24, tt29, tt26, tt30, tt36, tt59, tt62, tt63, tt87, tt88, tt89, ti3, ti22, ti29, ti26, eq26, eq62, eq63, planV, planC, caseV, cC, fillC, zc, List.replicate_succ, List.replicate_zero, List.flatten_cons, List.flatten_nil, toDs, toD, chunk, lim]
  refine aops_pure' (page39 n rows [c] hp (fun x hx => by simp at hx; subst hx; exact isCase_sh hc) (by simp [hc])) rfl rfl (by first | exact wk_refls _ | (repeat constructor)) ?_
  simp only [go_sem, reduceIte, Nat.reduceEqDiff, Nat.reduceAdd, Nat.reduceLT, Nat.reduceLeDiff, Nat.reduceBEq, Nat.reduceMul, Nat.reduceSub, Nat.reduceDiv, Int.reduceNeg, Int.reduceLT, Int.reduceLE, Int.reduceEq, Int.reduceToNat, tt3, tt4, tt5, tt22, tt24, tt29, tt26, tt30, tt36, tt59, tt62, tt63, tt87, tt88, tt89, ti3, ti22, ti29, ti26, eq26, eq62, eq63]
  refine aops_pure' (seen40 n rows c hp (isCase_ok hp.n1 hc)) rfl rfl (by first | exact wk_refls _ | (repeat constructor)) ?_
  have e0 : ((0 : Nat) : Int) = 0 := rfl
  have e1 : ((1 : Nat) : Int) = 1 := rfl
  have e2 : ((2 : Nat) : Int) = 2 := rfl
  have e3 : ((3 : Nat) : Int) = 3 := rfl
  have e4 : ((4 : Nat) : Int) = 4 := rfl
  clear hf hp hc
  rcases rows with _ | ⟨r0, _ | ⟨r1, _ | ⟨r2, _ | ⟨r3, rest⟩⟩⟩⟩
  · simp only [go_sem, reduceIte, Nat.reduceEqDiff, Nat.reduceAdd, Nat.reduceLT, Nat.reduceLeDiff, Nat.reduceBEq, Nat.reduceMul, Nat.reduceSub, Nat.reduceDiv, Int.reduceNeg, Int.reduceLT, Int.reduceLE, Int.reduceEq, Int.reduceToNat, tt3, tt4, tt5, tt22, tt24, tt29, tt26, tt30, tt36, tt59, tt62, tt63, tt87, tt88, tt89, ti3, ti22, ti29, ti26, eq26, eq62, eq63, codeV, codeC, fillC, zc, List.replicate_zero, List.flatten_nil, toDs, chunk, lim, cutMs, srcRows, e0, e1, e2, e3, e4, toD, seenL, ints, Int.toNat_zero, List.take_nil, List.drop_nil, List.all_nil, List.all_cons, cd, iD, Bool.or_true]
  · simp only [go_sem, reduceIte, Nat.reduceEqDiff, Nat.reduceAdd, Nat.reduceLT, Nat.reduceLeDiff, Nat.reduceBEq, Nat.reduceMul, Nat.reduceSub, Nat.reduceDiv, Int.reduceNeg, Int.reduceLT, Int.reduceLE, Int.reduceEq, Int.reduceToNat, tt3, tt4, tt5, tt22, tt24, tt29, tt26, tt30, tt36, tt59, tt62, tt63, tt87, tt88, tt89, ti3, ti22, ti29, ti26, eq26, eq62, eq63, codeV, codeC, fillC, zc, List.replicate_zero, List.flatten_nil, toDs, chunk, lim, cutMs, srcRows, e0, e1, e2, e3, e4, toD, seenL, ints, Int.toNat_zero, List.take_nil, List.drop_nil, List.all_nil, List.all_cons, cd, iD, Bool.or_true]
  · simp only [go_sem, reduceIte, Nat.reduceEqDiff, Nat.reduceAdd, Nat.reduceLT, Nat.reduceLeDiff, Nat.reduceBEq, Nat.reduceMul, Nat.reduceSub, Nat.reduceDiv, Int.reduceNeg, Int.reduceLT, Int.reduceLE, Int.reduceEq, Int.reduceToNat, tt3, tt4, tt5, tt22, tt24, tt29, tt26, tt30, tt36, tt59, tt62, tt63, tt87, tt88, tt89, ti3, ti22, ti29, ti26, eq26, eq62, eq63, codeV, codeC, fillC, zc, List.replicate_zero, List.flatten_nil, toDs, chunk, lim, cutMs, srcRows, e0, e1, e2, e3, e4, toD, seenL, ints, Int.toNat_zero, List.take_nil, List.drop_nil, List.all_nil, List.all_cons, cd, iD, Bool.or_true]
  · simp only [go_sem, reduceIte, Nat.reduceEqDiff, Nat.reduceAdd, Nat.reduceLT, Nat.reduceLeDiff, Nat.reduceBEq, Nat.reduceMul, Nat.reduceSub, Nat.reduceDiv, Int.reduceNeg, Int.reduceLT, Int.reduceLE, Int.reduceEq, Int.reduceToNat, tt3, tt4, tt5, tt22, tt24, tt29, tt26, tt30, tt36, tt59, tt62, tt63, tt87, tt88, tt89, ti3, ti22, ti29, ti26, eq26, eq62, eq63, codeV, codeC, fillC, zc, List.replicate_zero, List.flatten_nil, toDs, chunk, lim, cutMs, srcRows, e0, e1, e2, e3, e4, toD, seenL, ints, Int.toNat_zero, List.take_nil, List.drop_nil, List.all_nil, List.all_cons, cd, iD, Bool.or_true]
  · have hr : rest = [] := by simp at h4; exact h4
    subst hr
    simp only [go_sem, reduceIte, Nat.reduceEqDiff, Nat.reduceAdd, Nat.reduceLT, Nat.reduceLeDiff, Nat.reduceBEq, Nat.reduceMul, Nat.reduceSub, Nat.reduceDiv, Int.reduceNeg, Int.reduceLT, Int.reduceLE, Int.reduceEq, Int.reduceToNat, tt3, tt4, tt5, tt22, tt24, tt29, tt26, tt30, tt36, tt59, tt62, tt63, tt87, tt88, tt89, ti3, ti22, ti29, ti26, eq26, eq62, eq63, codeV, codeC, fillC, zc, List.replicate_zero, List.flatten_nil, toDs, chunk, lim, cutMs, srcRows, e0, e1, e2, e3, e4, toD, seenL, ints, Int.toNat_zero, List.take_nil, List.drop_nil, List.all_nil, List.all_cons, cd, iD, Bool.or_true]

set_option maxHeartbeats 1000000 in
theorem clash24_bad (n : Int) (rows : List (List Int)) (a b : Int × Int) (hp : okPlan n rows ≠ 0) : Pure Try.prog 24 [planV n rows, caseV a, caseV b] (I (okPlan n rows)) := by
  refine pure_wk (X := tx) (nt := 34) (rs := [.tmp 6]) Try.func24 rfl rfl rfl rfl mo (by kernel_rfl) rfl rfl (fun hf => ?_)
  simp only [go_sem, reduceIte, Nat.reduceEqDiff, Nat.reduceAdd, Nat.reduceLT, Nat.reduceLeDiff, Nat.reduceBEq, Nat.reduceMul, Nat.reduceSub, Nat.reduceDiv, Int.reduceNeg, Int.reduceLT, Int.reduceLE, Int.reduceEq, Int.reduceToNat, tt3, tt4, tt5, tt22, tt24, tt29, tt26, tt30, tt36, tt59, tt62, tt63, tt87, tt88, tt89, ti3, ti22, ti29, ti26, eq26, eq62, eq63, planV, planC, caseV, cC, fillC, zc, List.replicate_succ, List.replicate_zero, List.flatten_cons, List.flatten_nil, toDs, toD, chunk, lim]
  refine aops_pure' (page39_bad n rows [a, b] hp) rfl rfl (by first | exact wk_refls _ | (repeat constructor)) ?_
  simp only [go_sem, reduceIte, Nat.reduceEqDiff, Nat.reduceAdd, Nat.reduceLT, Nat.reduceLeDiff, Nat.reduceBEq, Nat.reduceMul, Nat.reduceSub, Nat.reduceDiv, Int.reduceNeg, Int.reduceLT, Int.reduceLE, Int.reduceEq, Int.reduceToNat, tt3, tt4, tt5, tt22, tt24, tt29, tt26, tt30, tt36, tt59, tt62, tt63, tt87, tt88, tt89, ti3, ti22, ti29, ti26, eq26, eq62, eq63, hp]

theorem code_eq (rows : List (List Int)) (a b : Int × Int) (h4 : rows.length ≤ 4) : (decide (cd rows a 0 = cd rows b 0) && (decide (cd rows a 1 = cd rows b 1) && (decide (cd rows a 2 = cd rows b 2) && decide (cd rows a 3 = cd rows b 3)))) = decide (seenL rows a = seenL rows b) := by
  have z : ∀ (c : Int × Int), c.2 * at' [] c.1 = 0 := fun c => by simp [at']
  rw [Bool.eq_iff_iff]
  simp only [Bool.and_eq_true, decide_eq_true_eq]
  rcases rows with _ | ⟨r0, _ | ⟨r1, _ | ⟨r2, _ | ⟨r3, rest⟩⟩⟩⟩
  · simp [cd, seenL, at']
  · simp [cd, seenL, z]
  · simp [cd, seenL, z]
  · simp [cd, seenL, z]
  · have hr : rest = [] := by simp at h4; exact h4
    subst hr
    simp [cd, seenL]

set_option maxHeartbeats 1000000 in
theorem clash24_ok (n : Int) (rows : List (List Int)) (a b : Int × Int) (hp : OkP n rows) (ha : isCase n a = true) (hb : isCase n b = true) : Pure Try.prog 24 [planV n rows, caseV a, caseV b] (I (if a = b ∨ seenL rows a ≠ seenL rows b then 14 else 0)) := by
  refine pure_wk (X := tx) (nt := 34) (rs := [.tmp 6]) Try.func24 rfl rfl rfl rfl mo (by kernel_rfl) rfl rfl (fun hf => ?_)
  simp only [go_sem, reduceIte, Nat.reduceEqDiff, Nat.reduceAdd, Nat.reduceLT, Nat.reduceLeDiff, Nat.reduceBEq, Nat.reduceMul, Nat.reduceSub, Nat.reduceDiv, Int.reduceNeg, Int.reduceLT, Int.reduceLE, Int.reduceEq, Int.reduceToNat, tt3, tt4, tt5, tt22, tt24, tt29, tt26, tt30, tt36, tt59, tt62, tt63, tt87, tt88, tt89, ti3, ti22, ti29, ti26, eq26, eq62, eq63, planV, planC, caseV, cC, fillC, zc, List.replicate_succ, List.replicate_zero, List.flatten_cons, List.flatten_nil, toDs, toD, chunk, lim]
  refine aops_pure' (page39 n rows [a, b] hp (fun x hx => by simp at hx; rcases hx with rfl | rfl; exact isCase_sh ha; exact isCase_sh hb) (by simp [ha, hb])) rfl rfl (by first | exact wk_refls _ | (repeat constructor)) ?_
  simp only [go_sem, reduceIte, Nat.reduceEqDiff, Nat.reduceAdd, Nat.reduceLT, Nat.reduceLeDiff, Nat.reduceBEq, Nat.reduceMul, Nat.reduceSub, Nat.reduceDiv, Int.reduceNeg, Int.reduceLT, Int.reduceLE, Int.reduceEq, Int.reduceToNat, tt3, tt4, tt5, tt22, tt24, tt29, tt26, tt30, tt36, tt59, tt62, tt63, tt87, tt88, tt89, ti3, ti22, ti29, ti26, eq26, eq62, eq63, eqCs, eqC, pair_eq]
  by_cases hab : a = b
  · simp only [go_sem, reduceIte, Nat.reduceEqDiff, Nat.reduceAdd, Nat.reduceLT, Nat.reduceLeDiff, Nat.reduceBEq, Nat.reduceMul, Nat.reduceSub, Nat.reduceDiv, Int.reduceNeg, Int.reduceLT, Int.reduceLE, Int.reduceEq, Int.reduceToNat, tt3, tt4, tt5, tt22, tt24, tt29, tt26, tt30, tt36, tt59, tt62, tt63, tt87, tt88, tt89, ti3, ti22, ti29, ti26, eq26, eq62, eq63, hab]
  · simp only [go_sem, reduceIte, Nat.reduceEqDiff, Nat.reduceAdd, Nat.reduceLT, Nat.reduceLeDiff, Nat.reduceBEq, Nat.reduceMul, Nat.reduceSub, Nat.reduceDiv, Int.reduceNeg, Int.reduceLT, Int.reduceLE, Int.reduceEq, Int.reduceToNat, tt3, tt4, tt5, tt22, tt24, tt29, tt26, tt30, tt36, tt59, tt62, tt63, tt87, tt88, tt89, ti3, ti22, ti29, ti26, eq26, eq62, eq63, hab]
    refine dops_pure' (seen40 n rows a hp (isCase_ok hp.n1 ha)) rfl rfl (by first | exact wk_refls _ | (repeat constructor)) (by kernel_rfl) ?_
    simp only [go_sem, reduceIte, Nat.reduceEqDiff, Nat.reduceAdd, Nat.reduceLT, Nat.reduceLeDiff, Nat.reduceBEq, Nat.reduceMul, Nat.reduceSub, Nat.reduceDiv, Int.reduceNeg, Int.reduceLT, Int.reduceLE, Int.reduceEq, Int.reduceToNat, tt3, tt4, tt5, tt22, tt24, tt29, tt26, tt30, tt36, tt59, tt62, tt63, tt87, tt88, tt89, ti3, ti22, ti29, ti26, eq26, eq62, eq63]
    refine dops_pure' (seen40 n rows b hp (isCase_ok hp.n1 hb)) rfl rfl (by first | exact wk_refls _ | (repeat constructor)) (by kernel_rfl) ?_
    simp only [go_sem, reduceIte, Nat.reduceEqDiff, Nat.reduceAdd, Nat.reduceLT, Nat.reduceLeDiff, Nat.reduceBEq, Nat.reduceMul, Nat.reduceSub, Nat.reduceDiv, Int.reduceNeg, Int.reduceLT, Int.reduceLE, Int.reduceEq, Int.reduceToNat, tt3, tt4, tt5, tt22, tt24, tt29, tt26, tt30, tt36, tt59, tt62, tt63, tt87, tt88, tt89, ti3, ti22, ti29, ti26, eq26, eq62, eq63, codeV, codeC, eqCs, eqC]
    rw [code_eq rows a b hp.len]
    by_cases hs : seenL rows a = seenL rows b
    · simp only [go_sem, reduceIte, Nat.reduceEqDiff, Nat.reduceAdd, Nat.reduceLT, Nat.reduceLeDiff, Nat.reduceBEq, Nat.reduceMul, Nat.reduceSub, Nat.reduceDiv, Int.reduceNeg, Int.reduceLT, Int.reduceLE, Int.reduceEq, Int.reduceToNat, tt3, tt4, tt5, tt22, tt24, tt29, tt26, tt30, tt36, tt59, tt62, tt63, tt87, tt88, tt89, ti3, ti22, ti29, ti26, eq26, eq62, eq63, hs, ne_eq, not_true]
    · simp only [go_sem, reduceIte, Nat.reduceEqDiff, Nat.reduceAdd, Nat.reduceLT, Nat.reduceLeDiff, Nat.reduceBEq, Nat.reduceMul, Nat.reduceSub, Nat.reduceDiv, Int.reduceNeg, Int.reduceLT, Int.reduceLE, Int.reduceEq, Int.reduceToNat, tt3, tt4, tt5, tt22, tt24, tt29, tt26, tt30, tt36, tt59, tt62, tt63, tt87, tt88, tt89, ti3, ti22, ti29, ti26, eq26, eq62, eq63, hs, ne_eq, not_false_iff]
end Go.Proofs.Ytklmpopomokglaa
