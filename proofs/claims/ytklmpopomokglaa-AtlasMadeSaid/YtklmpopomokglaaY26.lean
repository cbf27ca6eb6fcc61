/- atlas.Clash. -/
import Derived.Test.YtklmpopomokglaaY25
import Derived.Test.YtklmpopomokglaaAbsZ
set_option linter.unusedSimpArgs false
set_option linter.unusedVariables false
namespace Go.Proofs.Ytklmpopomokglaa
open Go Go.Abs Go.Proofs

set_option maxHeartbeats 1000000 in
theorem clash26_bad (n : Int) (rows : List (List Int)) (hp : okPlan n rows ≠ 0) : Pure Try.prog 26 [planV n rows] (.tup [caseV (0, 0), caseV (0, 0), I (okPlan n rows)]) := by
  refine pure_wkZ (bad := [11, 15]) (X := tx) (nt := 50) (rs := [.cell 2 26, .cell 3 26, .tmp 4]) Try.func26 rfl rfl rfl rfl mo (by kernel_rfl) rfl rfl (fun hf => ?_)
  simp only [go_sem, reduceIte, Nat.reduceEqDiff, Nat.reduceAdd, Nat.reduceLT, Nat.reduceLeDiff, Nat.reduceBEq, Nat.reduceMul, Nat.reduceSub, Nat.reduceDiv, Int.reduceNeg, Int.reduceLT, Int.reduceLE, Int.reduceEq, Int.reduceToNat, fillC, zc, List.replicate_succ, List.replicate_zero, List.flatten_cons, List.flatten_nil, toDs, toD, chunk, placeS, srcRows, List.all_cons, List.all_nil, List.all_map, Function.comp_def, List.take_nil, List.drop_nil, List.toList_toArray, C.eqbL, eqCs, eqC, List.drop_one, List.tail_cons, lim, tt3, tt4, tt5, tt22, tt24, tt29, tt26, tt30, tt36, tt76, tt59, tt62, tt63, tt87, tt88, tt89, ti3, ti22, ti29, ti26, eq26, eq62, eq63, planV, planC, goZ, contZ_at, goZ_t, goZ_f]
  refine aops_pure' (page39_bad n rows [] hp) rfl rfl (by first | exact wk_refls _ | (repeat constructor)) ?_
  simp only [go_sem, reduceIte, Nat.reduceEqDiff, Nat.reduceAdd, Nat.reduceLT, Nat.reduceLeDiff, Nat.reduceBEq, Nat.reduceMul, Nat.reduceSub, Nat.reduceDiv, Int.reduceNeg, Int.reduceLT, Int.reduceLE, Int.reduceEq, Int.reduceToNat, fillC, zc, List.replicate_succ, List.replicate_zero, List.flatten_cons, List.flatten_nil, toDs, toD, chunk, placeS, srcRows, List.all_cons, List.all_nil, List.all_map, Function.comp_def, List.take_nil, List.drop_nil, List.toList_toArray, C.eqbL, eqCs, eqC, List.drop_one, List.tail_cons, lim, tt3, tt4, tt5, tt22, tt24, tt29, tt26, tt30, tt36, tt76, tt59, tt62, tt63, tt87, tt88, tt89, ti3, ti22, ti29, ti26, eq26, eq62, eq63, hp, goZ, contZ_at, goZ_t, goZ_f]
  exact ⟨.refl _, .refl _⟩

theorem sameC_iff (rows : List (List Int)) (x c : Int × Int) (h4 : rows.length ≤ 4) : sameC rows x c = decide (seenL rows x = seenL rows c) := by
  rw [← code_eq rows x c h4]
  simp [sameC, Bool.and_assoc, Bool.beq_eq_decide_eq]
/-- The earlier case with the code of case j. -/
def fnd (n : Int) (rows : List (List Int)) (j : Nat) : Option ((Int × Int) × Nat) := match (allL n.toNat)[j]? with
  | some x => (((allL n.toNat).take j).zipIdx 0).find? (fun p => sameC rows x p.1)
  | none => none
def stopB (n : Int) (rows : List (List Int)) (j : Nat) : Bool := (fnd n rows j).isSome
def xAt (n : Int) (j : Nat) : Int × Int := ((allL n.toNat)[j]?).getD (0, 0)
theorem fnd_some {n : Int} {rows : List (List Int)} {j : Nat} {p : (Int × Int) × Nat} (h : fnd n rows j = some p) : (allL n.toNat)[j]? = some (xAt n j) ∧ sameC rows (xAt n j) p.1 = true ∧ p.1 ∈ (allL n.toNat).take j := by
  unfold fnd at h
  split at h
  · rename_i x hx
    have e : xAt n j = x := by simp [xAt, hx]
    rw [e]
    exact ⟨hx, List.find?_some (p := fun p : (Int × Int) × Nat => sameC rows x p.1) h, List.fst_mem_of_mem_zipIdx (List.mem_of_find?_eq_some h)⟩
  · cases h
theorem fnd_none {n : Int} {rows : List (List Int)} {j : Nat} {x c : Int × Int} (h : stopB n rows j = false) (hx : (allL n.toNat)[j]? = some x) (hc : c ∈ (allL n.toNat).take j) : sameC rows x c = false := by
  have h : fnd n rows j = none := by simpa [stopB] using h
  unfold fnd at h
  rw [hx] at h
  simp only [List.find?_eq_none] at h
  obtain ⟨i, hi, he⟩ := List.getElem_of_mem hc
  have := h (c, i) (by
    rw [List.mem_iff_getElem]
    exact ⟨i, by simpa using hi, by simp [he]⟩)
  simpa using this

def slK : List (Nat × V) := [(2, .c (.ptr 1 0)), (3, .c (.ptr 2 0)), (5, .c (.ptr 3 0)), (7, .c (.ptr 5 0)), (8, .c (.ptr 6 0)), (9, .c (.ptr 7 0)), (26, .c (.fn (.func 64) [.ptr 8 0]))]
def esL (n : Int) (rows : List (List Int)) (j : Nat) : List (V × V) := ((allL n.toNat).take j).map (fun c => (codeV rows c, caseV c))
def mkG (n : Int) (rows : List (List Int)) (st : LoopState) (pe : Option Code) (a b : Int × Int) (j : Nat) (A B : Code) : List AB :=
  [.cells (planC n rows), .cells (cC (0, 0)), .cells (cC (0, 0)), .cells [.dp (pageDf n rows (pf rows))], .mp (esL n rows j), .cells [.mp 4], .cells (cC a), .cells (cC b), .cells [.dp (pageDf n rows (pf rows))], .df,
   .lp { state := st, pend := pe, slots := slK, nt := 50, ps := #[27], assign := A, body := B, D := 9 }]
theorem esL_low (n : Int) (rows : List (List Int)) (j N : Nat) : (esL n rows j).all (fun e => e.1.low N && e.2.low N) = true := by
  refine List.all_eq_true.2 fun e he => ?_
  obtain ⟨c, _, rfl⟩ := List.mem_map.1 he
  simp [codeV, codeC, caseV, cC, V.low, C.lowL, C.low]
theorem mkG_low (n : Int) (rows : List (List Int)) (st : LoopState) (pe : Option Code) (a b : Int × Int) (j : Nat) (A B : Code) : (mkG n rows st pe a b j A B).all (AB.low (mkG n rows st pe a b j A B).length) = true := by
  have := esL_low n rows j 11
  simp [mkG, AB.low, planC, C.lowL, C.low, cC, slK, V.low] at this ⊢
  exact this
def Hs26 (n : Int) (rows : List (List Int)) (A B : Code) : Nat → List AB
  | 0 => mkG n rows .ready none (0, 0) (0, 0) 0 A B
  | j + 1 => match fnd n rows j with
    | none => mkG n rows .ready none (0, 0) (0, 0) (j + 1) A B
    | some p => mkG n rows .done (some (.exit 0)) p.1 (xAt n j) j A B
theorem Hs26_ready {n : Int} {rows : List (List Int)} {A B : Code} {j : Nat} (h : ∀ i, i < j → stopB n rows i = false) : Hs26 n rows A B j = mkG n rows .ready none (0, 0) (0, 0) j A B := by
  cases j with
  | zero => rfl
  | succ j =>
    have : fnd n rows j = none := by simpa [stopB] using h j (by omega)
    simp [Hs26, this]
theorem Hs26_form (n : Int) (rows : List (List Int)) (A B : Code) (j : Nat) : ∃ st pe a b i, Hs26 n rows A B j = mkG n rows st pe a b i A B := by
  cases j with
  | zero => exact ⟨_, _, _, _, _, rfl⟩
  | succ j =>
    simp only [Hs26]
    split <;> exact ⟨_, _, _, _, _, rfl⟩
theorem Hs26_8 (n : Int) (rows : List (List Int)) (A B : Code) (j : Nat) : (Hs26 n rows A B j)[8]? = some (.cells [.dp (pageDf n rows (pf rows))]) := by
  obtain ⟨st, pe, a, b, i, h⟩ := Hs26_form n rows A B j
  rw [h]; rfl
theorem Hs26_len (n : Int) (rows : List (List Int)) (A B : Code) (j : Nat) : (Hs26 n rows A B j).length = 11 := by
  obtain ⟨st, pe, a, b, i, h⟩ := Hs26_form n rows A B j
  rw [h]; rfl
theorem Hs26_low (n : Int) (rows : List (List Int)) (A B : Code) (j : Nat) : (Hs26 n rows A B j).all (AB.low (Hs26 n rows A B j).length) = true := by
  obtain ⟨st, pe, a, b, i, h⟩ := Hs26_form n rows A B j
  rw [h]; exact mkG_low ..

/-- What the program answers. -/
def ansV (n : Int) (rows : List (List Int)) : Nat → V
  | 0 => .tup [caseV (0, 0), caseV (0, 0), I 5]
  | j + 1 => match fnd n rows j with
    | none => .tup [caseV (0, 0), caseV (0, 0), I 5]
    | some p => .tup [caseV p.1, caseV (xAt n j), I 0]

set_option maxHeartbeats 8000000 in
theorem clash26_ok (n : Int) (rows : List (List Int)) (r : V) (hp : OkP n rows) (hr : r.low 0 = true)
    (hans : ∀ j, j ≤ 2 * n.toNat + 1 → (∀ i, i + 1 < j → stopB n rows i = false) → (j = 2 * n.toNat + 1 ∨ (0 < j ∧ stopB n rows (j - 1) = true)) → ansV n rows j = r)
    (hne : ∀ j p, fnd n rows j = some p → p.1 ≠ xAt n j) : Pure Try.prog 26 [planV n rows] r := by
  refine pure_wkZ (bad := [11, 15]) (X := tx) (nt := 50) (rs := [.cell 2 26, .cell 3 26, .tmp 4]) Try.func26 rfl rfl rfl rfl mo (by kernel_rfl) rfl hr (fun hf => ?_)
  simp only [go_sem, reduceIte, Nat.reduceEqDiff, Nat.reduceAdd, Nat.reduceLT, Nat.reduceLeDiff, Nat.reduceBEq, Nat.reduceMul, Nat.reduceSub, Nat.reduceDiv, Int.reduceNeg, Int.reduceLT, Int.reduceLE, Int.reduceEq, Int.reduceToNat, fillC, zc, List.replicate_succ, List.replicate_zero, List.flatten_cons, List.flatten_nil, toDs, toD, chunk, placeS, srcRows, List.all_cons, List.all_nil, List.all_map, Function.comp_def, List.take_nil, List.drop_nil, List.toList_toArray, C.eqbL, eqCs, eqC, List.drop_one, List.tail_cons, lim, tt3, tt4, tt5, tt22, tt24, tt29, tt26, tt30, tt36, tt76, tt59, tt62, tt63, tt87, tt88, tt89, ti3, ti22, ti29, ti26, eq26, eq62, eq63, planV, planC, goZ, contZ_at, goZ_t, goZ_f]
  refine aops_pure' (page39 n rows [] hp (by simp) rfl) rfl rfl (by first | exact wk_refls _ | (repeat constructor)) ?_
  simp only [go_sem, reduceIte, Nat.reduceEqDiff, Nat.reduceAdd, Nat.reduceLT, Nat.reduceLeDiff, Nat.reduceBEq, Nat.reduceMul, Nat.reduceSub, Nat.reduceDiv, Int.reduceNeg, Int.reduceLT, Int.reduceLE, Int.reduceEq, Int.reduceToNat, fillC, zc, List.replicate_succ, List.replicate_zero, List.flatten_cons, List.flatten_nil, toDs, toD, chunk, placeS, srcRows, List.all_cons, List.all_nil, List.all_map, Function.comp_def, List.take_nil, List.drop_nil, List.toList_toArray, C.eqbL, eqCs, eqC, List.drop_one, List.tail_cons, lim, tt3, tt4, tt5, tt22, tt24, tt29, tt26, tt30, tt36, tt76, tt59, tt62, tt63, tt87, tt88, tt89, ti3, ti22, ti29, ti26, eq26, eq62, eq63, goZ, contZ_at, goZ_t, goZ_f, pageV]
  refine aops_at (cases51 (pageDf n rows (pf rows)) _) rfl rfl (by first | exact wk_refls _ | (repeat constructor)) ?_
  simp only [go_sem, reduceIte, Nat.reduceEqDiff, Nat.reduceAdd, Nat.reduceLT, Nat.reduceLeDiff, Nat.reduceBEq, Nat.reduceMul, Nat.reduceSub, Nat.reduceDiv, Int.reduceNeg, Int.reduceLT, Int.reduceLE, Int.reduceEq, Int.reduceToNat, fillC, zc, List.replicate_succ, List.replicate_zero, List.flatten_cons, List.flatten_nil, toDs, toD, chunk, placeS, srcRows, List.all_cons, List.all_nil, List.all_map, Function.comp_def, List.take_nil, List.drop_nil, List.toList_toArray, C.eqbL, eqCs, eqC, List.drop_one, List.tail_cons, lim, tt3, tt4, tt5, tt22, tt24, tt29, tt26, tt30, tt36, tt76, tt59, tt62, tt63, tt87, tt88, tt89, ti3, ti22, ti29, ti26, eq26, eq62, eq63, goZ, contZ_at, goZ_t, goZ_f]
  have hn1 := hp.n1
  have hn39 := hp.n39
  have hall := allL_ok n.toNat n hp.n1 (by omega)
  have hlen := allL_len n.toNat
  refine AWP.ent (s' := { slots := slK, heap := [.cells (planC n rows), .cells (cC (0, 0)), .cells (cC (0, 0)), .cells [.dp (pageDf n rows (pf rows))], .mp [], .cells [.mp 4], .cells (cC (0, 0)), .cells (cC (0, 0)), .cells [.dp (pageDf n rows (pf rows))]], marks := [] }) ?_ ?_
  · refine ent_weaken [] (by simp [planC, cC]) rfl (Nat.zero_le _) (by simp [AB.low, planC, C.lowL, C.low, cC]) rfl ?_
    simp only [go_sem, reduceIte, Nat.reduceEqDiff, Nat.reduceAdd, Nat.reduceLT, Nat.reduceLeDiff, Nat.reduceBEq, Nat.reduceMul, Nat.reduceSub, Nat.reduceDiv, Int.reduceNeg, Int.reduceLT, Int.reduceLE, Int.reduceEq, Int.reduceToNat, fillC, zc, List.replicate_succ, List.replicate_zero, List.flatten_cons, List.flatten_nil, toDs, toD, chunk, placeS, srcRows, List.all_cons, List.all_nil, List.all_map, Function.comp_def, List.take_nil, List.drop_nil, List.toList_toArray, C.eqbL, eqCs, eqC, List.drop_one, List.tail_cons, lim, tt3, tt4, tt5, tt22, tt24, tt29, tt26, tt30, tt36, tt76, tt59, tt62, tt63, tt87, tt88, tt89, ti3, ti22, ti29, ti26, eq26, eq62, eq63, slK]
    all_goals first | decide | exact ⟨by decide, by decide⟩ | skip
  refine awp_rangeFunc rfl rfl ?_
  refine ACall.mono (cases64 n rows 10 8 (Hs26 n rows _ _) (stopB n rows) hn1 hn39 (fun j hj => Hs26_8 n rows _ _ j) (fun j hj => ⟨Hs26_low n rows _ _ j, by rw [Hs26_len, Hs26_len]; exact Nat.le_refl _, by rw [Hs26_len]; decide, by rw [Hs26_len]; decide⟩) (fun j x hx hst => ?_)) ?_
  · have hxm := List.mem_of_getElem? hx
    have hjl := allL_get n.toNat j x hx
    rw [Hs26_ready hst]
    refine yc_ofZ (bad := [11]) (X := tx) mo rfl rfl rfl (by kernel_rfl) (by kernel_rfl) (fun lp => ?_)
    rw [show (mkG n rows .ready none (0, 0) (0, 0) j _ _).length = 11 from rfl]
    simp only [go_sem, reduceIte, Nat.reduceEqDiff, Nat.reduceAdd, Nat.reduceLT, Nat.reduceLeDiff, Nat.reduceBEq, Nat.reduceMul, Nat.reduceSub, Nat.reduceDiv, Int.reduceNeg, Int.reduceLT, Int.reduceLE, Int.reduceEq, Int.reduceToNat, fillC, zc, List.replicate_succ, List.replicate_zero, List.flatten_cons, List.flatten_nil, toDs, toD, chunk, placeS, srcRows, List.all_cons, List.all_nil, List.all_map, Function.comp_def, List.take_nil, List.drop_nil, List.toList_toArray, C.eqbL, eqCs, eqC, List.drop_one, List.tail_cons, lim, tt3, tt4, tt5, tt22, tt24, tt29, tt26, tt30, tt36, tt76, tt59, tt62, tt63, tt87, tt88, tt89, ti3, ti22, ti29, ti26, eq26, eq62, eq63, putPs, mkG, busyH, caseV, cC, slK, goZ, contZ_at, goZ_t, goZ_f]
    refine ⟨_, rfl, ?_⟩
    simp only [go_sem, reduceIte, Nat.reduceEqDiff, Nat.reduceAdd, Nat.reduceLT, Nat.reduceLeDiff, Nat.reduceBEq, Nat.reduceMul, Nat.reduceSub, Nat.reduceDiv, Int.reduceNeg, Int.reduceLT, Int.reduceLE, Int.reduceEq, Int.reduceToNat, fillC, zc, List.replicate_succ, List.replicate_zero, List.flatten_cons, List.flatten_nil, toDs, toD, chunk, placeS, srcRows, List.all_cons, List.all_nil, List.all_map, Function.comp_def, List.take_nil, List.drop_nil, List.toList_toArray, C.eqbL, eqCs, eqC, List.drop_one, List.tail_cons, lim, tt3, tt4, tt5, tt22, tt24, tt29, tt26, tt30, tt36, tt76, tt59, tt62, tt63, tt87, tt88, tt89, ti3, ti22, ti29, ti26, eq26, eq62, eq63, goZ, contZ_at, goZ_t, goZ_f]
    refine aops_pure' (seen40 n rows x hp (hall x hxm)) rfl rfl (by first | exact wk_refls _ | (repeat constructor)) ?_
    have hfe : findE (V.agg [C.d (.int .i64 (cd rows x 0)), C.d (.int .i64 (cd rows x 1)), C.d (.int .i64 (cd rows x 2)), C.d (.int .i64 (cd rows x 3))]) (esL n rows j) 0 = (some ((fnd n rows j).map fun p => (p.2, caseV p.1))) := by
      have := findE_code rows x ((allL n.toNat).take j) 0
      unfold fnd
      rw [hx]
      exact this
    cases hf1 : fnd n rows j with
    | none =>
      have hs1 : stopB n rows j = false := by simp [stopB, hf1]
      have hH : ∀ A B, Hs26 n rows A B (j + 1) = mkG n rows .ready none (0, 0) (0, 0) (j + 1) A B := by intro A B; simp [Hs26, hf1]
      rw [hf1] at hfe
      rw [hs1, hH]
      simp only [go_sem, reduceIte, Nat.reduceEqDiff, Nat.reduceAdd, Nat.reduceLT, Nat.reduceLeDiff, Nat.reduceBEq, Nat.reduceMul, Nat.reduceSub, Nat.reduceDiv, Int.reduceNeg, Int.reduceLT, Int.reduceLE, Int.reduceEq, Int.reduceToNat, fillC, zc, List.replicate_succ, List.replicate_zero, List.flatten_cons, List.flatten_nil, toDs, toD, chunk, placeS, srcRows, List.all_cons, List.all_nil, List.all_map, Function.comp_def, List.take_nil, List.drop_nil, List.toList_toArray, C.eqbL, eqCs, eqC, List.drop_one, List.tail_cons, lim, tt3, tt4, tt5, tt22, tt24, tt29, tt26, tt30, tt36, tt76, tt59, tt62, tt63, tt87, tt88, tt89, ti3, ti22, ti29, ti26, eq26, eq62, eq63, codeV, codeC, goZ, contZ_at, goZ_t, goZ_f, hfe, Option.map_none]
      refine ⟨rfl, ?_⟩
      simp only [go_sem, reduceIte, Nat.reduceEqDiff, Nat.reduceAdd, Nat.reduceLT, Nat.reduceLeDiff, Nat.reduceBEq, Nat.reduceMul, Nat.reduceSub, Nat.reduceDiv, Int.reduceNeg, Int.reduceLT, Int.reduceLE, Int.reduceEq, Int.reduceToNat, fillC, zc, List.replicate_succ, List.replicate_zero, List.flatten_cons, List.flatten_nil, toDs, toD, chunk, placeS, srcRows, List.all_cons, List.all_nil, List.all_map, Function.comp_def, List.take_nil, List.drop_nil, List.toList_toArray, C.eqbL, eqCs, eqC, List.drop_one, List.tail_cons, lim, tt3, tt4, tt5, tt22, tt24, tt29, tt26, tt30, tt36, tt76, tt59, tt62, tt63, tt87, tt88, tt89, ti3, ti22, ti29, ti26, eq26, eq62, eq63, lookV, Option.isSome_none, goZ, contZ_at, goZ_t, goZ_f, hfe, Option.map_none, updE]
      refine ⟨rfl, ?_⟩
      have hs : esL n rows (j + 1) = esL n rows j ++ [(codeV rows x, caseV x)] := by
        simp only [esL]
        rw [take_succ_eq hx, List.map_append]
        rfl
      refine ⟨{ slots := [], heap := mkG n rows .busy none (0, 0) (0, 0) (j + 1) _ _, marks := [] }, ent_weaken [.cells (cC x), .cells (codeC (cd rows x 0) (cd rows x 1) (cd rows x 2) (cd rows x 3)), .cells (cC (0, 0))] ?_ rfl (Nat.le_refl _) (mkG_low n rows _ _ _ _ (j + 1) _ _) rfl trivial, _, rfl, rfl, rfl⟩
      simp only [mkG, hs]
      rfl
    | some p =>
      have hs1 : stopB n rows j = true := by simp [stopB, hf1]
      have hH : ∀ A B, Hs26 n rows A B (j + 1) = mkG n rows .done (some (.exit 0)) p.1 (xAt n j) j A B := by intro A B; simp [Hs26, hf1]
      rw [hf1] at hfe
      rw [hs1, hH]
      simp only [go_sem, reduceIte, Nat.reduceEqDiff, Nat.reduceAdd, Nat.reduceLT, Nat.reduceLeDiff, Nat.reduceBEq, Nat.reduceMul, Nat.reduceSub, Nat.reduceDiv, Int.reduceNeg, Int.reduceLT, Int.reduceLE, Int.reduceEq, Int.reduceToNat, fillC, zc, List.replicate_succ, List.replicate_zero, List.flatten_cons, List.flatten_nil, toDs, toD, chunk, placeS, srcRows, List.all_cons, List.all_nil, List.all_map, Function.comp_def, List.take_nil, List.drop_nil, List.toList_toArray, C.eqbL, eqCs, eqC, List.drop_one, List.tail_cons, lim, tt3, tt4, tt5, tt22, tt24, tt29, tt26, tt30, tt36, tt76, tt59, tt62, tt63, tt87, tt88, tt89, ti3, ti22, ti29, ti26, eq26, eq62, eq63, codeV, codeC, goZ, contZ_at, goZ_t, goZ_f, hfe, Option.map_some, caseV, cC]
      refine ⟨rfl, ?_⟩
      simp only [go_sem, reduceIte, Nat.reduceEqDiff, Nat.reduceAdd, Nat.reduceLT, Nat.reduceLeDiff, Nat.reduceBEq, Nat.reduceMul, Nat.reduceSub, Nat.reduceDiv, Int.reduceNeg, Int.reduceLT, Int.reduceLE, Int.reduceEq, Int.reduceToNat, fillC, zc, List.replicate_succ, List.replicate_zero, List.flatten_cons, List.flatten_nil, toDs, toD, chunk, placeS, srcRows, List.all_cons, List.all_nil, List.all_map, Function.comp_def, List.take_nil, List.drop_nil, List.toList_toArray, C.eqbL, eqCs, eqC, List.drop_one, List.tail_cons, lim, tt3, tt4, tt5, tt22, tt24, tt29, tt26, tt30, tt36, tt76, tt59, tt62, tt63, tt87, tt88, tt89, ti3, ti22, ti29, ti26, eq26, eq62, eq63, lookV, Option.isSome_some, goZ, contZ_at, goZ_t, goZ_f, hfe, Option.map_some, caseV, cC]
      refine awp_regS (nb := 11) (nt := 50) (r := some lp) 20 38 (caseV p.1) 39 (caseV x) 6 (cC p.1) 7 (cC x) mo (by kernel_rfl) (by kernel_rfl) ?_
      have hxa : xAt n j = x := by simp [xAt, hx]
      rw [hxa]
      simp only [go_sem, reduceIte, Nat.reduceEqDiff, Nat.reduceAdd, Nat.reduceLT, Nat.reduceLeDiff, Nat.reduceBEq, Nat.reduceMul, Nat.reduceSub, Nat.reduceDiv, Int.reduceNeg, Int.reduceLT, Int.reduceLE, Int.reduceEq, Int.reduceToNat, fillC, zc, List.replicate_succ, List.replicate_zero, List.flatten_cons, List.flatten_nil, toDs, toD, chunk, placeS, srcRows, List.all_cons, List.all_nil, List.all_map, Function.comp_def, List.take_nil, List.drop_nil, List.toList_toArray, C.eqbL, eqCs, eqC, List.drop_one, List.tail_cons, lim, tt3, tt4, tt5, tt22, tt24, tt29, tt26, tt30, tt36, tt76, tt59, tt62, tt63, tt87, tt88, tt89, ti3, ti22, ti29, ti26, eq26, eq62, eq63, goZ, contZ_at, goZ_t, goZ_f, cC, caseV]
      refine ⟨{ slots := [], heap := mkG n rows .busy none p.1 x j _ _, marks := [] }, ent_weaken [.cells (cC x), .cells (codeC (cd rows x 0) (cd rows x 1) (cd rows x 2) (cd rows x 3)), .cells (cC p.1)] ?_ rfl (Nat.le_refl _) (mkG_low n rows _ _ _ _ j _ _) rfl trivial, _, rfl, rfl, rfl⟩
      simp only [mkG]
      rfl
  · rintro _ H2 ⟨j, hj, rfl, h1, h2⟩
    have ha := hans j hj h1 h2
    cases j with
    | zero => omega
    | succ j =>
    cases hf1 : fnd n rows j with
    | none =>
      have hH : ∀ A B, Hs26 n rows A B (j + 1) = mkG n rows .ready none (0, 0) (0, 0) (j + 1) A B := by intro A B; simp [Hs26, hf1]
      simp only [ansV, hf1] at ha
      subst ha
      rw [hH]
      refine ⟨by simp, ?_⟩
      simp only [go_sem, reduceIte, Nat.reduceEqDiff, Nat.reduceAdd, Nat.reduceLT, Nat.reduceLeDiff, Nat.reduceBEq, Nat.reduceMul, Nat.reduceSub, Nat.reduceDiv, Int.reduceNeg, Int.reduceLT, Int.reduceLE, Int.reduceEq, Int.reduceToNat, fillC, zc, List.replicate_succ, List.replicate_zero, List.flatten_cons, List.flatten_nil, toDs, toD, chunk, placeS, srcRows, List.all_cons, List.all_nil, List.all_map, Function.comp_def, List.take_nil, List.drop_nil, List.toList_toArray, C.eqbL, eqCs, eqC, List.drop_one, List.tail_cons, lim, tt3, tt4, tt5, tt22, tt24, tt29, tt26, tt30, tt36, tt76, tt59, tt62, tt63, tt87, tt88, tt89, ti3, ti22, ti29, ti26, eq26, eq62, eq63, mkG, slK, goZ, contZ_at, goZ_t, goZ_f, cC]
      exact ⟨.refl _, .refl _⟩
    | some p =>
      have hH : ∀ A B, Hs26 n rows A B (j + 1) = mkG n rows .done (some (.exit 0)) p.1 (xAt n j) j A B := by intro A B; simp [Hs26, hf1]
      simp only [ansV, hf1] at ha
      subst ha
      rw [hH]
      refine ⟨by simp, ?_⟩
      refine awp_exit ?_
      simp only [go_sem, reduceIte, Nat.reduceEqDiff, Nat.reduceAdd, Nat.reduceLT, Nat.reduceLeDiff, Nat.reduceBEq, Nat.reduceMul, Nat.reduceSub, Nat.reduceDiv, Int.reduceNeg, Int.reduceLT, Int.reduceLE, Int.reduceEq, Int.reduceToNat, fillC, zc, List.replicate_succ, List.replicate_zero, List.flatten_cons, List.flatten_nil, toDs, toD, chunk, placeS, srcRows, List.all_cons, List.all_nil, List.all_map, Function.comp_def, List.take_nil, List.drop_nil, List.toList_toArray, C.eqbL, eqCs, eqC, List.drop_one, List.tail_cons, lim, tt3, tt4, tt5, tt22, tt24, tt29, tt26, tt30, tt36, tt76, tt59, tt62, tt63, tt87, tt88, tt89, ti3, ti22, ti29, ti26, eq26, eq62, eq63, mkG, slK, goZ, contZ_at, goZ_t, goZ_f, cC]
      have hne' : (decide (p.1.1 = (xAt n j).1) && decide (p.1.2 = (xAt n j).2)) = false := by rw [pair_eq]; simp [hne j p hf1]
      rw [hne']
      simp only [go_sem, reduceIte, Nat.reduceEqDiff, Nat.reduceAdd, Nat.reduceLT, Nat.reduceLeDiff, Nat.reduceBEq, Nat.reduceMul, Nat.reduceSub, Nat.reduceDiv, Int.reduceNeg, Int.reduceLT, Int.reduceLE, Int.reduceEq, Int.reduceToNat, fillC, zc, List.replicate_succ, List.replicate_zero, List.flatten_cons, List.flatten_nil, toDs, toD, chunk, placeS, srcRows, List.all_cons, List.all_nil, List.all_map, Function.comp_def, List.take_nil, List.drop_nil, List.toList_toArray, C.eqbL, eqCs, eqC, List.drop_one, List.tail_cons, lim, tt3, tt4, tt5, tt22, tt24, tt29, tt26, tt30, tt36, tt76, tt59, tt62, tt63, tt87, tt88, tt89, ti3, ti22, ti29, ti26, eq26, eq62, eq63, goZ, contZ_at, goZ_t, goZ_f, cC]
      refine awp_regS3 (nb := 0) (nt := 50) (r := none) 20 48 (caseV p.1) 49 (caseV (xAt n j)) 4 (I 0) 1 (cC p.1) 2 (cC (xAt n j)) mo (by kernel_rfl) (by kernel_rfl) ?_
      simp only [go_sem, reduceIte, Nat.reduceEqDiff, Nat.reduceAdd, Nat.reduceLT, Nat.reduceLeDiff, Nat.reduceBEq, Nat.reduceMul, Nat.reduceSub, Nat.reduceDiv, Int.reduceNeg, Int.reduceLT, Int.reduceLE, Int.reduceEq, Int.reduceToNat, fillC, zc, List.replicate_succ, List.replicate_zero, List.flatten_cons, List.flatten_nil, toDs, toD, chunk, placeS, srcRows, List.all_cons, List.all_nil, List.all_map, Function.comp_def, List.take_nil, List.drop_nil, List.toList_toArray, C.eqbL, eqCs, eqC, List.drop_one, List.tail_cons, lim, tt3, tt4, tt5, tt22, tt24, tt29, tt26, tt30, tt36, tt76, tt59, tt62, tt63, tt87, tt88, tt89, ti3, ti22, ti29, ti26, eq26, eq62, eq63, goZ, contZ_at, goZ_t, goZ_f, cC, caseV]

theorem allL_nodup : ∀ k, (allL k).Nodup
  | 0 => by simp [allL]
  | k + 1 => by
    rw [allL, List.nodup_append]
    refine ⟨allL_nodup k, by simp, fun a ha b hb => ?_⟩
    have hk : ∀ c ∈ allL k, c.1 < (k : Int) ∨ c = (0, 0) := by
      intro c hc
      cases k with
      | zero => simp [allL] at hc; exact .inr hc
      | succ m => exact .inl (allL_ok (m + 1) ((m + 1 : Nat) : Int) (by omega) (by omega) c hc).hi
    rintro rfl
    simp at hb
    rcases hk a ha with h | h
    · rcases hb with rfl | rfl <;> simp at h
    · subst h; simp at hb
theorem fnd_mem {n : Int} {rows : List (List Int)} {j : Nat} {p : (Int × Int) × Nat} (h4 : rows.length ≤ 4) (h : fnd n rows j = some p) : p.1 ∈ allL n.toNat ∧ xAt n j ∈ allL n.toNat ∧ p.1 ≠ xAt n j ∧ seenL rows p.1 = seenL rows (xAt n j) ∧ ∃ i, i < j ∧ (allL n.toNat)[i]? = some p.1 := by
  obtain ⟨h1, h2, h3⟩ := fnd_some h
  rw [sameC_iff rows _ _ h4] at h2
  obtain ⟨i, hi, he⟩ := List.getElem_of_mem h3
  have hij : i < j := by simp at hi; omega
  have hg : (allL n.toNat)[i]? = some p.1 := by
    rw [← he, List.getElem_take]
    exact List.getElem?_eq_getElem _
  refine ⟨List.mem_of_getElem? hg, List.mem_of_getElem? h1, fun e => ?_, (of_decide_eq_true h2).symm, i, hij, hg⟩
  rw [← e] at h1
  have hnd := allL_nodup n.toNat
  obtain ⟨hi2, e1⟩ := List.getElem?_eq_some_iff.1 hg
  obtain ⟨hj2, e2⟩ := List.getElem?_eq_some_iff.1 h1
  exact List.pairwise_iff_getElem.1 hnd i j hi2 hj2 hij (by rw [e1, e2])
theorem stop_none {n : Int} {rows : List (List Int)} (h4 : rows.length ≤ 4) (h : tellsB rows n.toNat = true) (j : Nat) : fnd n rows j = none := by
  cases hf : fnd n rows j with
  | none => rfl
  | some p =>
    obtain ⟨_, _, _, hs, i, hij, hg⟩ := fnd_mem h4 hf
    obtain ⟨h1, _, _⟩ := fnd_some hf
    exfalso
    have hnd : ((allL n.toNat).map (seenL rows)).Nodup := of_decide_eq_true h
    refine not_nodup_of (x := seenL rows p.1) hij ?_ ?_ hnd
    · rw [List.getElem?_map, h1, hs]; rfl
    · rw [List.getElem?_map, hg]; rfl
theorem exists_least {P : Nat → Bool} : ∀ (N : Nat), (∃ j, j < N ∧ P j = true) → ∃ j, j < N ∧ P j = true ∧ ∀ i, i < j → P i = false
  | 0, h => by obtain ⟨j, hj, _⟩ := h; omega
  | N + 1, h => by
    by_cases h2 : ∃ j, j < N ∧ P j = true
    · obtain ⟨j, hj, h3, h4⟩ := exists_least N h2
      exact ⟨j, by omega, h3, h4⟩
    · obtain ⟨j, hj, hp⟩ := h
      have hjN : j = N := by
        by_cases h : j < N
        · exact absurd ⟨j, h, hp⟩ h2
        · omega
      subst hjN
      refine ⟨j, hj, hp, fun i hi => ?_⟩
      cases hpi : P i with
      | false => rfl
      | true => exact absurd ⟨i, hi, hpi⟩ h2
/-- The plan tells all: there is no clash. -/
theorem clash26_tells (n : Int) (rows : List (List Int)) (hp : OkP n rows) (ht : tellsB rows n.toNat = true) : Pure Try.prog 26 [planV n rows] (.tup [caseV (0, 0), caseV (0, 0), I 5]) := by
  refine clash26_ok n rows _ hp rfl (fun j hj h1 h2 => ?_) (fun j p h => (fnd_mem hp.len h).2.2.1)
  cases j with
  | zero => rfl
  | succ j => simp only [ansV, stop_none hp.len ht]
/-- It does not: two cases are returned that look alike. -/
theorem clash26_not (n : Int) (rows : List (List Int)) (hp : OkP n rows) (ht : tellsB rows n.toNat = false) : ∃ a b : Int × Int, a ∈ allL n.toNat ∧ b ∈ allL n.toNat ∧ a ≠ b ∧ seenL rows a = seenL rows b ∧ Pure Try.prog 26 [planV n rows] (.tup [caseV a, caseV b, I 0]) := by
  have hlen := allL_len n.toNat
  have hex : ∃ j, j < 2 * n.toNat + 1 ∧ stopB n rows j = true := by
    refine Classical.byContradiction fun hno => ?_
    have hall : ∀ j, j < 2 * n.toNat + 1 → stopB n rows j = false := fun j hj => by
      cases h : stopB n rows j with
      | false => rfl
      | true => exact absurd ⟨j, hj, h⟩ hno
    have : tellsB rows n.toNat = true := by
      refine decide_eq_true (nodup_of fun i k x y hki hi hk => ?_)
      rw [List.getElem?_map] at hi hk
      cases hxi : (allL n.toNat)[i]? with
      | none => rw [hxi] at hi; cases hi
      | some a =>
        cases hyk : (allL n.toNat)[k]? with
        | none => rw [hyk] at hk; cases hk
        | some b =>
          rw [hxi] at hi; rw [hyk] at hk
          simp only [Option.map_some, Option.some.injEq] at hi hk
          subst hi; subst hk
          have hlt := (List.getElem?_eq_some_iff.1 hxi).1
          have hm : b ∈ (allL n.toNat).take i := by
            refine List.mem_of_getElem? (i := k) ?_
            rw [List.getElem?_take_of_lt hki]; exact hyk
          have := fnd_none (hall i (by omega)) hxi hm
          rw [sameC_iff rows _ _ hp.len] at this
          exact of_decide_eq_false this
    rw [this] at ht; cases ht
  obtain ⟨j, hj, hs, hmin⟩ := exists_least _ hex
  cases hf : fnd n rows j with
  | none => simp [stopB, hf] at hs
  | some p =>
    obtain ⟨h1, h2, h3, h4, _⟩ := fnd_mem hp.len hf
    refine ⟨p.1, xAt n j, h1, h2, h3, h4, clash26_ok n rows _ hp rfl (fun i hi g1 g2 => ?_) (fun j p h => (fnd_mem hp.len h).2.2.1)⟩
    have hij : i = j + 1 := by
      have a1 : ¬ j + 1 < i := fun h => by have := g1 j h; rw [hs] at this; cases this
      rcases g2 with g2 | ⟨g2, g3⟩
      · omega
      · have a2 : ¬ i - 1 < j := fun h => by have := hmin _ h; rw [g3] at this; cases this
        omega
    subst hij
    simp only [ansV, hf]
end Go.Proofs.Ytklmpopomokglaa
