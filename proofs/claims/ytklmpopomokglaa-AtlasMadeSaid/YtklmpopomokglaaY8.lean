/- atlas.Cases. -/
import Derived.Test.YtklmpopomokglaaY6
import Derived.Test.YtklmpopomokglaaY7
set_option linter.unusedSimpArgs false
set_option linter.unusedVariables false
namespace Go.Proofs.Ytklmpopomokglaa
open Go Go.Abs Go.Proofs

set_option maxHeartbeats 1000000 in
theorem cases21_bad (n : Int) (rows : List (List Int)) (l : List Int) (hp : okPlan n rows ≠ 0) : Pure Try.prog 21 [planV n rows, ints l] (.tup [casesV [], I (okPlan n rows)]) := by
  refine pure_wk (X := tx) (nt := 46) (rs := [.tmp 4, .tmp 5]) Try.func21 rfl rfl rfl rfl mo (by kernel_rfl) rfl rfl (fun hf => ?_)
  simp only [go_sem, reduceIte, Nat.reduceEqDiff, Nat.reduceAdd, Nat.reduceLT, Nat.reduceLeDiff, Nat.reduceBEq, Nat.reduceMul, Nat.reduceSub, Nat.reduceDiv, Int.reduceNeg, Int.reduceLT, Int.reduceLE, Int.reduceEq, Int.reduceToNat, tt3, tt4, tt5, tt22, tt24, tt29, tt26, tt30, tt36, tt59, tt62, tt63, tt87, tt88, tt89, ti3, ti22, ti29, ti26, eq26, eq62, eq63, planV, planC, ints]
  refine aops_pure' (page39_bad n rows [] hp) rfl rfl (by first | exact wk_refls _ | (repeat constructor)) ?_
  simp only [go_sem, reduceIte, Nat.reduceEqDiff, Nat.reduceAdd, Nat.reduceLT, Nat.reduceLeDiff, Nat.reduceBEq, Nat.reduceMul, Nat.reduceSub, Nat.reduceDiv, Int.reduceNeg, Int.reduceLT, Int.reduceLE, Int.reduceEq, Int.reduceToNat, tt3, tt4, tt5, tt22, tt24, tt29, tt26, tt30, tt36, tt59, tt62, tt63, tt87, tt88, tt89, ti3, ti22, ti29, ti26, eq26, eq62, eq63, hp, casesV]
set_option maxHeartbeats 1000000 in
theorem cases21_len (n : Int) (rows : List (List Int)) (l : List Int) (hp : OkP n rows) (hl : l.length ≠ rows.length) : Pure Try.prog 21 [planV n rows, ints l] (.tup [casesV [], I 15]) := by
  refine pure_wk (X := tx) (nt := 46) (rs := [.tmp 4, .tmp 5]) Try.func21 rfl rfl rfl rfl mo (by kernel_rfl) rfl rfl (fun hf => ?_)
  simp only [go_sem, reduceIte, Nat.reduceEqDiff, Nat.reduceAdd, Nat.reduceLT, Nat.reduceLeDiff, Nat.reduceBEq, Nat.reduceMul, Nat.reduceSub, Nat.reduceDiv, Int.reduceNeg, Int.reduceLT, Int.reduceLE, Int.reduceEq, Int.reduceToNat, tt3, tt4, tt5, tt22, tt24, tt29, tt26, tt30, tt36, tt59, tt62, tt63, tt87, tt88, tt89, ti3, ti22, ti29, ti26, eq26, eq62, eq63, planV, planC, ints]
  refine aops_pure' (page39 n rows [] hp (by simp) rfl) rfl rfl (by first | exact wk_refls _ | (repeat constructor)) ?_
  have hl' : (l.length : Int) ≠ rows.length := by omega
  simp only [go_sem, reduceIte, Nat.reduceEqDiff, Nat.reduceAdd, Nat.reduceLT, Nat.reduceLeDiff, Nat.reduceBEq, Nat.reduceMul, Nat.reduceSub, Nat.reduceDiv, Int.reduceNeg, Int.reduceLT, Int.reduceLE, Int.reduceEq, Int.reduceToNat, tt3, tt4, tt5, tt22, tt24, tt29, tt26, tt30, tt36, tt59, tt62, tt63, tt87, tt88, tt89, ti3, ti22, ti29, ti26, eq26, eq62, eq63, hl', casesV, pageV]

def wantC (l : List Int) : List C := codeC ((l[0]?).getD 0) ((l[1]?).getD 0) ((l[2]?).getD 0) ((l[3]?).getD 0)

set_option maxHeartbeats 1000000 in
theorem chk50 (x : Int) : Pure Try.prog 50 [I x] (B (decide (x < -1 ∨ 1 < x))) := by
  refine pure_wk (X := tx) (nt := 9) (rs := [.tmp 2]) Try.func50 rfl rfl rfl rfl mo (by kernel_rfl) rfl rfl (fun hf => ?_)
  by_cases h : x < -1
  · simp only [go_sem, reduceIte, Nat.reduceEqDiff, Nat.reduceAdd, Nat.reduceLT, Nat.reduceLeDiff, Nat.reduceBEq, Nat.reduceMul, Nat.reduceSub, Nat.reduceDiv, Int.reduceNeg, Int.reduceLT, Int.reduceLE, Int.reduceEq, Int.reduceToNat, tt3, tt4, tt5, tt22, tt24, tt29, tt26, tt30, tt36, tt59, tt62, tt63, tt87, tt88, tt89, ti3, ti22, ti29, ti26, eq26, eq62, eq63, h]
  · simp only [go_sem, reduceIte, Nat.reduceEqDiff, Nat.reduceAdd, Nat.reduceLT, Nat.reduceLeDiff, Nat.reduceBEq, Nat.reduceMul, Nat.reduceSub, Nat.reduceDiv, Int.reduceNeg, Int.reduceLT, Int.reduceLE, Int.reduceEq, Int.reduceToNat, tt3, tt4, tt5, tt22, tt24, tt29, tt26, tt30, tt36, tt59, tt62, tt63, tt87, tt88, tt89, ti3, ti22, ti29, ti26, eq26, eq62, eq63, h]

theorem src_ints (H : List AB) (l : List Int) : srcCells H 1 l.length (.d (.sl (l.map iD))) = some (l.map (fun x => C.d (.int .i64 x))) := by
  have h2 : (l.map iD).all (fun r => r.length == 1) = true := by simp [iD]
  have h3 : ((l.map iD).take l.length).flatten.map C.d = l.map (fun x => C.d (.int .i64 x)) := by
    rw [List.take_of_length_le (by simp)]
    induction l with
    | nil => rfl
    | cons a l ih => simp [iD] at ih ⊢; exact ih
  simp only [srcCells, rowsOf, List.length_map, Nat.le_refl, h2, h3, and_self, if_true]
theorem want_set (l : List Int) (h : l.length ≤ 4) : setMany [C.d (.int .i64 0), C.d (.int .i64 0), C.d (.int .i64 0), C.d (.int .i64 0)] 0 (l.map (fun x => C.d (.int .i64 x))) = wantC l := by
  rcases l with _ | ⟨r0, _ | ⟨r1, _ | ⟨r2, _ | ⟨r3, rest⟩⟩⟩⟩
  · rfl
  · rfl
  · rfl
  · rfl
  · have hr : rest = [] := by simp at h; exact h
    subst hr; rfl

def outL (n : Int) (rows : List (List Int)) (l : List Int) (j : Nat) : List (Int × Int) := ((allL n.toNat).take j).filter (fun c => decide (seenL rows c = l))
def slC : List (Nat × V) := [(6, .c (.ptr 1 0)), (8, .c (.ptr 2 0)), (9, .c (.ptr 3 0)), (34, .c (.fn (.func 64) [.ptr 4 0]))]
def mkH (n : Int) (rows : List (List Int)) (l : List Int) (A B : Code) (j : Nat) : List AB :=
  [.cells (planC n rows), .cells [.dp (pageDf n rows (pf rows))], .cells (wantC l), .cells [.own 5 ((outL n rows l j).map cD)], .cells [.dp (pageDf n rows (pf rows))], .grow (outL n rows l j).length 2, .df,
   .lp { state := .ready, pend := none, slots := slC, nt := 46, ps := #[35], assign := A, body := B, D := 6 }]
theorem mkH_len (n : Int) (rows : List (List Int)) (l : List Int) (A B : Code) (j : Nat) : (mkH n rows l A B j).length = 8 := rfl
theorem mkH_low (n : Int) (rows : List (List Int)) (l : List Int) (A B : Code) (j : Nat) : (mkH n rows l A B j).all (AB.low (mkH n rows l A B j).length) = true := by
  simp [mkH, AB.low, planC, C.lowL, C.low, wantC, codeC, slC, V.low]
def mkB (n : Int) (rows : List (List Int)) (l : List Int) (A B : Code) (j : Nat) : List AB :=
  [.cells (planC n rows), .cells [.dp (pageDf n rows (pf rows))], .cells (wantC l), .cells [.own 5 ((outL n rows l j).map cD)], .cells [.dp (pageDf n rows (pf rows))], .grow (outL n rows l j).length 2, .df,
   .lp { state := .busy, pend := none, slots := slC, nt := 46, ps := #[35], assign := A, body := B, D := 6 }]
theorem mkB_low (n : Int) (rows : List (List Int)) (l : List Int) (A B : Code) (j : Nat) : (mkB n rows l A B j).all (AB.low (mkB n rows l A B j).length) = true := by
  simp [mkB, AB.low, planC, C.lowL, C.low, wantC, codeC, slC, V.low]
theorem code_want (rows : List (List Int)) (l : List Int) (c : Int × Int) (h4 : rows.length ≤ 4) (hl : l.length = rows.length) :
    (decide (cd rows c 0 = (l[0]?).getD 0) && (decide (cd rows c 1 = (l[1]?).getD 0) && (decide (cd rows c 2 = (l[2]?).getD 0) && decide (cd rows c 3 = (l[3]?).getD 0)))) = decide (seenL rows c = l) := by
  have z : c.2 * at' [] c.1 = 0 := by simp [at']
  rw [Bool.eq_iff_iff]
  simp only [Bool.and_eq_true, decide_eq_true_eq]
  rcases rows with _ | ⟨r0, _ | ⟨r1, _ | ⟨r2, _ | ⟨r3, rest⟩⟩⟩⟩
  · have : l = [] := by simpa using hl
    subst this; simp [cd, seenL, at']
  · rcases l with _ | ⟨a, _ | ⟨b, l⟩⟩ <;> simp at hl
    simp [cd, seenL, z]
  · rcases l with _ | ⟨a, _ | ⟨b, _ | ⟨d, l⟩⟩⟩ <;> simp at hl
    simp [cd, seenL, z]
  · rcases l with _ | ⟨a, _ | ⟨b, _ | ⟨d, _ | ⟨e, l⟩⟩⟩⟩ <;> simp at hl
    simp [cd, seenL, z]
  · have hr : rest = [] := by simp at h4; exact h4
    subst hr
    rcases l with _ | ⟨a, _ | ⟨b, _ | ⟨d, _ | ⟨e, _ | ⟨f, l⟩⟩⟩⟩⟩ <;> simp at hl
    simp [cd, seenL]

set_option maxHeartbeats 8000000 in
theorem cases21_ok (n : Int) (rows : List (List Int)) (l : List Int) (hp : OkP n rows) (hl : l.length = rows.length) : Pure Try.prog 21 [planV n rows, ints l] (.tup [casesV (if rngB l then [] else casesL n rows l), I (if rngB l then 3 else 0)]) := by
  refine pure_wk (X := tx) (nt := 46) (rs := [.tmp 4, .tmp 5]) Try.func21 rfl rfl rfl rfl mo (by kernel_rfl) rfl rfl (fun hf => ?_)
  have h4 := hp.len
  simp only [go_sem, reduceIte, Nat.reduceEqDiff, Nat.reduceAdd, Nat.reduceLT, Nat.reduceLeDiff, Nat.reduceBEq, Nat.reduceMul, Nat.reduceSub, Nat.reduceDiv, Int.reduceNeg, Int.reduceLT, Int.reduceLE, Int.reduceEq, Int.reduceToNat, tt3, tt4, tt5, tt22, tt24, tt29, tt26, tt30, tt36, tt59, tt62, tt63, tt87, tt88, tt89, ti3, ti22, ti29, ti26, eq26, eq62, eq63, planV, planC, ints]
  refine aops_pure' (page39 n rows [] hp (by simp) rfl) rfl rfl (by first | exact wk_refls _ | (repeat constructor)) ?_
  simp only [go_sem, reduceIte, Nat.reduceEqDiff, Nat.reduceAdd, Nat.reduceLT, Nat.reduceLeDiff, Nat.reduceBEq, Nat.reduceMul, Nat.reduceSub, Nat.reduceDiv, Int.reduceNeg, Int.reduceLT, Int.reduceLE, Int.reduceEq, Int.reduceToNat, tt3, tt4, tt5, tt22, tt24, tt29, tt26, tt30, tt36, tt59, tt62, tt63, tt87, tt88, tt89, ti3, ti22, ti29, ti26, eq26, eq62, eq63, hl, ne_eq, not_true, pageV]
  have c49 := has49 l 50 [] (fun x => decide (x < -1 ∨ 1 < x)) [.cells [.d (.int .i64 n), .d (.sl (rows.map rD))], .cells [.dp (pageDf n rows (pf rows))]] rfl rfl (fun x _ => (chk50 x).at _)
  refine aops_at (c49) rfl rfl (by first | exact wk_refls _ | (repeat constructor)) ?_
  have hrng : l.any (fun x => decide (x < -1 ∨ 1 < x)) = rngB l := rfl
  rw [hrng]
  cases hr : rngB l with
  | true => simp only [go_sem, reduceIte, Nat.reduceEqDiff, Nat.reduceAdd, Nat.reduceLT, Nat.reduceLeDiff, Nat.reduceBEq, Nat.reduceMul, Nat.reduceSub, Nat.reduceDiv, Int.reduceNeg, Int.reduceLT, Int.reduceLE, Int.reduceEq, Int.reduceToNat, tt3, tt4, tt5, tt22, tt24, tt29, tt26, tt30, tt36, tt59, tt62, tt63, tt87, tt88, tt89, ti3, ti22, ti29, ti26, eq26, eq62, eq63, casesV]
  | false =>
  have h4l : l.length ≤ 4 := by omega
  have hmin : l.length.min 4 = l.length := Nat.min_eq_left h4l
  have hsrc := fun H => src_ints H l
  have hset := want_set l h4l
  simp only [go_sem, reduceIte, Nat.reduceEqDiff, Nat.reduceAdd, Nat.reduceLT, Nat.reduceLeDiff, Nat.reduceBEq, Nat.reduceMul, Nat.reduceSub, Nat.reduceDiv, Int.reduceNeg, Int.reduceLT, Int.reduceLE, Int.reduceEq, Int.reduceToNat, tt3, tt4, tt5, tt22, tt24, tt29, tt26, tt30, tt36, tt59, tt62, tt63, tt87, tt88, tt89, ti3, ti22, ti29, ti26, eq26, eq62, eq63, bound, cutMs, hmin, hsrc, hset, Nat.mul_one]
  refine ⟨by simp; omega, ?_⟩
  refine aops_at (cases51 (pageDf n rows (pf rows)) _) rfl rfl (by first | exact wk_refls _ | (repeat constructor)) ?_
  simp only [go_sem, reduceIte, Nat.reduceEqDiff, Nat.reduceAdd, Nat.reduceLT, Nat.reduceLeDiff, Nat.reduceBEq, Nat.reduceMul, Nat.reduceSub, Nat.reduceDiv, Int.reduceNeg, Int.reduceLT, Int.reduceLE, Int.reduceEq, Int.reduceToNat, tt3, tt4, tt5, tt22, tt24, tt29, tt26, tt30, tt36, tt59, tt62, tt63, tt87, tt88, tt89, ti3, ti22, ti29, ti26, eq26, eq62, eq63]
  have hn1 := hp.n1
  have hn39 := hp.n39
  have hall := allL_ok n.toNat n hp.n1 (by omega)
  have hlen := allL_len n.toNat
  refine AWP.ent (s' := { slots := slC, heap := [.cells (planC n rows), .cells [.dp (pageDf n rows (pf rows))], .cells (wantC l), .cells [.own 5 []], .cells [.dp (pageDf n rows (pf rows))], .grow 0 2], marks := [] }) (Ent.trans (ent_own_cell 3 0 2 rfl rfl) ?_) ?_
  · refine ent_weaken [] (by simp [planC]) rfl (Nat.zero_le _) (by simp [AB.low, planC, C.lowL, C.low, wantC, codeC]) rfl ?_
    simp only [go_sem, reduceIte, Nat.reduceEqDiff, Nat.reduceAdd, Nat.reduceLT, Nat.reduceLeDiff, Nat.reduceBEq, Nat.reduceMul, Nat.reduceSub, Nat.reduceDiv, Int.reduceNeg, Int.reduceLT, Int.reduceLE, Int.reduceEq, Int.reduceToNat, tt3, tt4, tt5, tt22, tt24, tt29, tt26, tt30, tt36, tt59, tt62, tt63, tt87, tt88, tt89, ti3, ti22, ti29, ti26, eq26, eq62, eq63, slC]
    all_goals first | decide | exact ⟨by decide, by decide⟩ | skip
  refine awp_rangeFunc rfl rfl ?_
  refine ACall.mono (cases64 n rows 7 4 (mkH n rows l _ _) (fun _ => false) hn1 hn39 (fun j hj => rfl) (fun j hj => ⟨mkH_low n rows l _ _ j, Nat.le_refl _, by rw [mkH_len]; decide, by rw [mkH_len]; decide⟩) (fun j x hx _ => ?_)) ?_
  · have hxm := List.mem_of_getElem? hx
    have hjl := allL_get n.toNat j x hx
    have hfl : (outL n rows l j).length ≤ j := Nat.le_trans (List.length_filter_le _ _) (by simp; omega)
    refine yc_of (X := tx) mo rfl rfl rfl (by kernel_rfl) (by kernel_rfl) (fun lp => ?_)
    rw [mkH_len]
    simp only [go_sem, reduceIte, Nat.reduceEqDiff, Nat.reduceAdd, Nat.reduceLT, Nat.reduceLeDiff, Nat.reduceBEq, Nat.reduceMul, Nat.reduceSub, Nat.reduceDiv, Int.reduceNeg, Int.reduceLT, Int.reduceLE, Int.reduceEq, Int.reduceToNat, tt3, tt4, tt5, tt22, tt24, tt29, tt26, tt30, tt36, tt59, tt62, tt63, tt87, tt88, tt89, ti3, ti22, ti29, ti26, eq26, eq62, eq63, putPs, mkH, busyH, caseV, cC, slC]
    refine ⟨_, rfl, ?_⟩
    simp only [go_sem, reduceIte, Nat.reduceEqDiff, Nat.reduceAdd, Nat.reduceLT, Nat.reduceLeDiff, Nat.reduceBEq, Nat.reduceMul, Nat.reduceSub, Nat.reduceDiv, Int.reduceNeg, Int.reduceLT, Int.reduceLE, Int.reduceEq, Int.reduceToNat, tt3, tt4, tt5, tt22, tt24, tt29, tt26, tt30, tt36, tt59, tt62, tt63, tt87, tt88, tt89, ti3, ti22, ti29, ti26, eq26, eq62, eq63]
    refine dops_pure' (seen40 n rows x hp (hall x hxm)) rfl rfl (by first | exact wk_refls _ | (repeat constructor)) (by kernel_rfl) ?_
    simp only [go_sem, reduceIte, Nat.reduceEqDiff, Nat.reduceAdd, Nat.reduceLT, Nat.reduceLeDiff, Nat.reduceBEq, Nat.reduceMul, Nat.reduceSub, Nat.reduceDiv, Int.reduceNeg, Int.reduceLT, Int.reduceLE, Int.reduceEq, Int.reduceToNat, tt3, tt4, tt5, tt22, tt24, tt29, tt26, tt30, tt36, tt59, tt62, tt63, tt87, tt88, tt89, ti3, ti22, ti29, ti26, eq26, eq62, eq63, codeV, codeC, wantC, eqCs, eqC]
    rw [code_want rows l x hp.len hl]
    refine go_if (fun hb => ?_) (fun hb => ?_)
    · have hs : outL n rows l (j + 1) = outL n rows l j ++ [x] := by
        simp only [outL]
        rw [take_succ_eq hx, List.filter_append]
        simp only [List.filter_cons, hb, if_true, List.filter_nil]
      simp only [go_sem, reduceIte, Nat.reduceEqDiff, Nat.reduceAdd, Nat.reduceLT, Nat.reduceLeDiff, Nat.reduceBEq, Nat.reduceMul, Nat.reduceSub, Nat.reduceDiv, Int.reduceNeg, Int.reduceLT, Int.reduceLE, Int.reduceEq, Int.reduceToNat, tt3, tt4, tt5, tt22, tt24, tt29, tt26, tt30, tt36, tt59, tt62, tt63, tt87, tt88, tt89, ti3, ti22, ti29, ti26, eq26, eq62, eq63, fillC, zc, List.replicate_succ, List.replicate_zero, List.flatten_cons, List.flatten_nil, toDs, toD, chunk, lim, srcRows, List.all_cons, List.all_nil, List.all_map, Function.comp_def, cD]
      refine ⟨by simp; omega, ?_⟩
      refine ⟨{ slots := [], heap := mkB n rows l _ _ (j + 1), marks := [] }, ent_weaken [.cells (cC x)] ?_ rfl (Nat.le_refl _) (mkB_low n rows l _ _ (j + 1)) rfl trivial, _, rfl, rfl, rfl⟩
      simp only [mkB, hs, List.map_append, List.length_append, wantC, codeC, cC, cD, slC, List.map_cons, List.map_nil, List.length_cons, List.length_nil]
      rfl
    · have hs : outL n rows l (j + 1) = outL n rows l j := by
        simp only [outL]
        rw [take_succ_eq hx, List.filter_append]
        simp only [List.filter_cons, hb, Bool.false_eq_true, if_false, List.filter_nil, List.append_nil]
      simp only [go_sem, reduceIte, Nat.reduceEqDiff, Nat.reduceAdd, Nat.reduceLT, Nat.reduceLeDiff, Nat.reduceBEq, Nat.reduceMul, Nat.reduceSub, Nat.reduceDiv, Int.reduceNeg, Int.reduceLT, Int.reduceLE, Int.reduceEq, Int.reduceToNat, tt3, tt4, tt5, tt22, tt24, tt29, tt26, tt30, tt36, tt59, tt62, tt63, tt87, tt88, tt89, ti3, ti22, ti29, ti26, eq26, eq62, eq63]
      refine ⟨{ slots := [], heap := mkB n rows l _ _ (j + 1), marks := [] }, ent_weaken [.cells (cC x)] ?_ rfl (Nat.le_refl _) (mkB_low n rows l _ _ (j + 1)) rfl trivial, _, rfl, rfl, rfl⟩
      simp only [mkB, hs, wantC, codeC, cC, slC]
      rfl
  · rintro _ H2 ⟨j, hj, rfl, h1, h2⟩
    have hj' : j = 2 * n.toNat + 1 := by
      rcases h2 with h2 | ⟨_, h2⟩
      · exact h2
      · cases h2
    subst hj'
    have ho : outL n rows l (2 * n.toNat + 1) = casesL n rows l := by
      simp only [outL, casesL]
      rw [List.take_of_length_le (by omega)]
    refine ⟨by simp, ?_⟩
    simp only [go_sem, reduceIte, Nat.reduceEqDiff, Nat.reduceAdd, Nat.reduceLT, Nat.reduceLeDiff, Nat.reduceBEq, Nat.reduceMul, Nat.reduceSub, Nat.reduceDiv, Int.reduceNeg, Int.reduceLT, Int.reduceLE, Int.reduceEq, Int.reduceToNat, tt3, tt4, tt5, tt22, tt24, tt29, tt26, tt30, tt36, tt59, tt62, tt63, tt87, tt88, tt89, ti3, ti22, ti29, ti26, eq26, eq62, eq63, mkH, slC, casesV, ho]
    try trace_state
end Go.Proofs.Ytklmpopomokglaa
