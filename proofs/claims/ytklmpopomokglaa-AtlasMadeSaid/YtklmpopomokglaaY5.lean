/- The page: has, seen, turned; newPage. -/
import Derived.Test.YtklmpopomokglaaY4
import Derived.Test.YtklmpopomokglaaAbsY
set_option linter.unusedSimpArgs false
set_option linter.unusedVariables false
namespace Go.Proofs.Ytklmpopomokglaa
open Go Go.Abs Go.Proofs

def codesD (f : Nat → Int) : List D := (List.range 156).map (fun j => .int .i64 (f j))
theorem codesD_len (f : Nat → Int) : (codesD f).length = 156 := by simp [codesD]
theorem codesD_get (f : Nat → Int) {j : Nat} (h : j < 156) : (codesD f)[j]? = some (.int .i64 (f j)) := by simp [codesD, h]
theorem codesD_set (f : Nat → Int) (m : Nat) (v : Int) : (codesD f).set m (.int .i64 v) = codesD (upd f m v) := by
  refine List.ext_getElem? fun j => ?_
  by_cases e : m = j
  · subst e
    by_cases hm : m < 156
    · rw [codesD_get _ hm, upd_same]; simp [codesD_len, hm]
    · rw [List.getElem?_eq_none (by simp [codesD_len]; omega), List.getElem?_eq_none (by simp [codesD_len]; omega)]
  · rw [List.getElem?_set_ne e]
    simp only [codesD, List.getElem?_map]
    cases hj : (List.range 156)[j]? with
    | none => rfl
    | some x =>
      have : x = j := by
        rw [List.getElem?_eq_some_iff] at hj
        obtain ⟨h, e⟩ := hj
        simpa using e.symm
      subst this
      simp [upd_ne _ _ (Ne.symm e)]
def pageDf (n : Int) (rows : List (List Int)) (f : Nat → Int) : List D := .int .i64 n :: .sl (rows.map rD) :: codesD f
def pageC (n : Int) (rows : List (List Int)) (f : Nat → Int) : List C := .d (.int .i64 n) :: .d (.sl (rows.map rD)) :: (codesD f).map .d
theorem lowL_d (n : Nat) (l : List D) : C.lowL n (l.map .d) = true := by induction l with | nil => rfl | cons a l ih => simp [C.lowL, C.low, ih]
def pf (rows : List (List Int)) (j : Nat) : Int := at' ((rows[j % 4]?).getD []) ((j / 4 : Nat) : Int)
def pageV (n : Int) (rows : List (List Int)) : V := .c (.dp (pageDf n rows (pf rows)))

def Hpg (n : Int) (rows : List (List Int)) (f : Nat → Int) : List AB := [.cells (planC n rows), .cells (pageC n rows f), .cells [.ptr 1 0]]
theorem Hpg_low (n : Int) (rows : List (List Int)) (f : Nat → Int) : (Hpg n rows f).all (AB.low (Hpg n rows f).length) = true := by
  simp [Hpg, AB.low, planC, pageC, C.lowL, C.low, lowL_d]

set_option maxHeartbeats 1000000 in
theorem has61 (n : Int) (rows : List (List Int)) (f : Nat → Int) (c : Int × Int) (h1 : -1 ≤ c.2) (h2 : c.2 ≤ 1) : ACall Try.prog 61 [.c (.ptr 1 0), caseV c] (Hpg n rows f) (one (B (isCase n c)) (Hpg n rows f)) := by
  refine acall_at (X := tx) (nt := 32) (rs := [.tmp 4]) Try.func61 rfl rfl rfl rfl mo (by kernel_rfl) rfl (Hpg_low n rows f) (fun hf => ?_)
  have hl := codesD_len f
  simp only [go_sem, reduceIte, Nat.reduceEqDiff, Nat.reduceAdd, Nat.reduceLT, Nat.reduceLeDiff, Nat.reduceBEq, Nat.reduceMul, Nat.reduceSub, Nat.reduceDiv, Int.reduceNeg, Int.reduceLT, Int.reduceLE, Int.reduceEq, Int.reduceToNat, tt3, tt4, tt5, tt22, tt24, tt29, tt26, tt30, tt36, tt59, tt62, tt63, tt87, tt88, tt89, ti3, ti22, ti29, ti26, eq26, eq63, Hpg, caseV, cC, pageC, hl]
  by_cases h0 : c.2 = 0
  · simp only [go_sem, reduceIte, Nat.reduceEqDiff, Nat.reduceAdd, Nat.reduceLT, Nat.reduceLeDiff, Nat.reduceBEq, Nat.reduceMul, Nat.reduceSub, Nat.reduceDiv, Int.reduceNeg, Int.reduceLT, Int.reduceLE, Int.reduceEq, Int.reduceToNat, tt3, tt4, tt5, tt22, tt24, tt29, tt26, tt30, tt36, tt59, tt62, tt63, tt87, tt88, tt89, ti3, ti22, ti29, ti26, eq26, eq63, h0, zc, eqCs, eqC, isCase, fillC]
    all_goals first | exact ⟨.refl _, _, rfl⟩ | exact ⟨_, rfl⟩
  have hw : wr .i64 (c.2 * c.2) = 1 := by
    have : c.2 = 1 ∨ c.2 = -1 := by omega
    rcases this with e | e <;> rw [e] <;> rfl
  have hs : c.2 = 1 ∨ c.2 = -1 := by omega
  simp only [go_sem, reduceIte, Nat.reduceEqDiff, Nat.reduceAdd, Nat.reduceLT, Nat.reduceLeDiff, Nat.reduceBEq, Nat.reduceMul, Nat.reduceSub, Nat.reduceDiv, Int.reduceNeg, Int.reduceLT, Int.reduceLE, Int.reduceEq, Int.reduceToNat, tt3, tt4, tt5, tt22, tt24, tt29, tt26, tt30, tt36, tt59, tt62, tt63, tt87, tt88, tt89, ti3, ti22, ti29, ti26, eq26, eq63, h0, hw]
  by_cases h3 : 0 ≤ c.1
  · simp only [go_sem, reduceIte, Nat.reduceEqDiff, Nat.reduceAdd, Nat.reduceLT, Nat.reduceLeDiff, Nat.reduceBEq, Nat.reduceMul, Nat.reduceSub, Nat.reduceDiv, Int.reduceNeg, Int.reduceLT, Int.reduceLE, Int.reduceEq, Int.reduceToNat, tt3, tt4, tt5, tt22, tt24, tt29, tt26, tt30, tt36, tt59, tt62, tt63, tt87, tt88, tt89, ti3, ti22, ti29, ti26, eq26, eq63, h3, isCase, h0, hs, hl]
    all_goals first | exact ⟨.refl _, _, rfl⟩ | exact ⟨_, rfl⟩
  · simp only [go_sem, reduceIte, Nat.reduceEqDiff, Nat.reduceAdd, Nat.reduceLT, Nat.reduceLeDiff, Nat.reduceBEq, Nat.reduceMul, Nat.reduceSub, Nat.reduceDiv, Int.reduceNeg, Int.reduceLT, Int.reduceLE, Int.reduceEq, Int.reduceToNat, tt3, tt4, tt5, tt22, tt24, tt29, tt26, tt30, tt36, tt59, tt62, tt63, tt87, tt88, tt89, ti3, ti22, ti29, ti26, eq26, eq63, h3, isCase, h0, hs]
    all_goals first | exact ⟨.refl _, _, rfl⟩ | exact ⟨_, rfl⟩

set_option maxHeartbeats 1000000 in
theorem chk60 (n : Int) (rows : List (List Int)) (f : Nat → Int) (c : Int × Int) (h1 : -1 ≤ c.2) (h2 : c.2 ≤ 1) : ACall Try.prog 60 [caseV c, .c (.ptr 2 0)] (Hpg n rows f) (one (B (!isCase n c)) (Hpg n rows f)) := by
  refine acall_at (X := tx) (nt := 8) (rs := [.tmp 3]) Try.func60 rfl rfl rfl rfl mo (by kernel_rfl) rfl (Hpg_low n rows f) (fun hf => ?_)
  simp only [go_sem, reduceIte, Nat.reduceEqDiff, Nat.reduceAdd, Nat.reduceLT, Nat.reduceLeDiff, Nat.reduceBEq, Nat.reduceMul, Nat.reduceSub, Nat.reduceDiv, Int.reduceNeg, Int.reduceLT, Int.reduceLE, Int.reduceEq, Int.reduceToNat, tt3, tt4, tt5, tt22, tt24, tt29, tt26, tt30, tt36, tt59, tt62, tt63, tt87, tt88, tt89, ti3, ti22, ti29, ti26, eq26, eq63, Hpg, caseV, cC]
  have hx : ACall Try.prog 61 [.c (.ptr 1 0), .agg [.d (.int .i64 c.1), .d (.int .i64 c.2)]] [.cells (planC n rows), .cells (pageC n rows f), .cells [.ptr 1 0], .cells [.d (.int .i64 c.1), .d (.int .i64 c.2)]]
      (one (B (isCase n c)) [.cells (planC n rows), .cells (pageC n rows f), .cells [.ptr 1 0], .cells [.d (.int .i64 c.1), .d (.int .i64 c.2)]]) :=
    (has61 n rows f c h1 h2).frame (Hpg_low n rows f) rfl rfl [.cells (cC c)]
  refine aops_at (hx) rfl rfl (by first | exact wk_refls _ | (repeat constructor)) ?_
  simp only [go_sem, reduceIte, Nat.reduceEqDiff, Nat.reduceAdd, Nat.reduceLT, Nat.reduceLeDiff, Nat.reduceBEq, Nat.reduceMul, Nat.reduceSub, Nat.reduceDiv, Int.reduceNeg, Int.reduceLT, Int.reduceLE, Int.reduceEq, Int.reduceToNat, tt3, tt4, tt5, tt22, tt24, tt29, tt26, tt30, tt36, tt59, tt62, tt63, tt87, tt88, tt89, ti3, ti22, ti29, ti26, eq26, eq63]
  all_goals first | exact ⟨.refl _, _, rfl⟩ | exact ⟨_, rfl⟩

theorem any_not (n : Int) (l : List (Int × Int)) : l.any (fun c => !isCase n c) = !(l.all (isCase n)) := by
  induction l with
  | nil => rfl
  | cons a l ih => simp [ih]

def cf (rows : List (List Int)) (i k j : Nat) : Int := if j % 4 < i ∨ (j % 4 = i ∧ j / 4 < k) then pf rows j else 0

theorem page_set (n : Int) (R : List (List D)) (f : Nat → Int) (k i : Nat) (x : Int) : (C.d (.int .i64 n) :: C.d (.sl R) :: (codesD f).map C.d).set (2 + k * 4 + i * 1) (C.d (.int .i64 x)) = C.d (.int .i64 n) :: C.d (.sl R) :: (codesD (upd f (k * 4 + i) x)).map C.d := by
  have e : 2 + k * 4 + i * 1 = (k * 4 + i) + 1 + 1 := by omega
  rw [e, List.set_cons_succ, List.set_cons_succ, ← codesD_set, List.map_set]
theorem cf_step {rows : List (List Int)} {i k : Nat} {r : List Int} {x : Int} (hi : i < 4) (hr : rows[i]? = some r) (hx : r[k]? = some x) : upd (cf rows i k) (k * 4 + i) x = cf rows i (k + 1) := by
  funext j
  by_cases e : j = k * 4 + i
  · subst e
    have h1 : (k * 4 + i) % 4 = i := by omega
    have h2 : (k * 4 + i) / 4 = k := by omega
    simp [upd_same, cf, pf, h1, h2, hr, at', hx]
  · rw [upd_ne _ _ e]
    unfold cf
    have : (j % 4 < i ∨ (j % 4 = i ∧ j / 4 < k)) ↔ (j % 4 < i ∨ (j % 4 = i ∧ j / 4 < k + 1)) := by omega
    simp only [this]
theorem cf_row {rows : List (List Int)} {i : Nat} {r : List Int} (hr : rows[i]? = some r) : cf rows i r.length = cf rows (i + 1) 0 := by
  funext j
  unfold cf
  by_cases h1 : j % 4 < i
  · rw [if_pos (.inl h1), if_pos (.inl (by omega))]
  · by_cases h2 : j % 4 = i
    · rw [if_pos (show j % 4 < i + 1 ∨ _ from .inl (by omega))]
      split
      · rfl
      · rename_i h3
        have h4 : r.length ≤ j / 4 := by omega
        have h5 : ((j / 4 : Nat) : Int).toNat = j / 4 := by omega
        simp only [pf, h2, hr, at', Option.getD_some, h5, List.getElem?_eq_none h4, Option.getD_none]
    · rw [if_neg (by omega), if_neg (by omega)]
theorem cf_end (rows : List (List Int)) : cf rows rows.length 0 = pf rows := by
  funext j
  unfold cf
  split
  · rfl
  · rename_i h
    have h4 : rows.length ≤ j % 4 := by omega
    simp [pf, List.getElem?_eq_none h4, at']
theorem toDs_d (l : List D) : toDs (l.map C.d) = some l := by
  induction l with
  | nil => rfl
  | cons a l ih => simp [toDs, toD, ih]

set_option maxHeartbeats 4000000 in
theorem page39 (n : Int) (rows : List (List Int)) (l : List (Int × Int)) (hp : OkP n rows) (hc : ∀ c ∈ l, -1 ≤ c.2 ∧ c.2 ≤ 1) (hok : l.all (isCase n) = true) : Pure Try.prog 39 [planV n rows, casesV l] (.tup [pageV n rows, I 0]) := by
  refine pure_fz (X := tx) (nt := 49) (rs := [.tmp 4, .tmp 5]) Try.func39 rfl rfl rfl rfl mo (by kernel_rfl) rfl rfl (fun hf => ?_)
  have h4 := hp.len
  simp only [go_sem, reduceIte, Nat.reduceEqDiff, Nat.reduceAdd, Nat.reduceLT, Nat.reduceLeDiff, Nat.reduceBEq, Nat.reduceMul, Nat.reduceSub, Nat.reduceDiv, Int.reduceNeg, Int.reduceLT, Int.reduceLE, Int.reduceEq, Int.reduceToNat, tt3, tt4, tt5, tt22, tt24, tt29, tt26, tt30, tt36, tt59, tt62, tt63, tt87, tt88, tt89, ti3, ti22, ti29, ti26, eq26, eq63, planV, planC]
  refine aops_pure' (checkPlan_pure n rows) rfl rfl (by first | exact wk_refls _ | (repeat constructor)) ?_
  have hz : List.replicate 156 (C.d (D.int .i64 0)) = (codesD (fun _ => 0)).map C.d := by rfl
  simp only [go_sem, reduceIte, Nat.reduceEqDiff, Nat.reduceAdd, Nat.reduceLT, Nat.reduceLeDiff, Nat.reduceBEq, Nat.reduceMul, Nat.reduceSub, Nat.reduceDiv, Int.reduceNeg, Int.reduceLT, Int.reduceLE, Int.reduceEq, Int.reduceToNat, tt3, tt4, tt5, tt22, tt24, tt29, tt26, tt30, tt36, tt59, tt62, tt63, tt87, tt88, tt89, ti3, ti22, ti29, ti26, eq26, eq63, hp.zero, hz, fillC, placeS, codesD_len, List.all_cons, List.all_nil]
  refine go_loop (fun i : Nat => { slots := [(1, casesV l), (2, .c (.ptr 0 0)), (7, .c (.ptr 2 0)), (21, .c (.d (.sl (rows.map rD)))), (22, I rows.length), (23, I i)], heap := Hpg n rows (cf rows i 0), marks := [] }) (fun i => i ≤ rows.length) (fun i => rows.length - i) 0 mo (by kernel_rfl) ?_ (Nat.zero_le _) ?_
  · have e0 : cf rows 0 0 = fun _ => 0 := by funext j; simp [cf]
    refine ent_weaken [] (by simp only [Hpg, e0, pageC, planC, List.append_nil]) rfl (Nat.zero_le _) (Hpg_low n rows _) rfl ?_
    simp only [go_sem, reduceIte, Nat.reduceEqDiff, Nat.reduceAdd, Nat.reduceLT, Nat.reduceLeDiff, Nat.reduceBEq, Nat.reduceMul, Nat.reduceSub, Nat.reduceDiv, Int.reduceNeg, Int.reduceLT, Int.reduceLE, Int.reduceEq, Int.reduceToNat, tt3, tt4, tt5, tt22, tt24, tt29, tt26, tt30, tt36, tt59, tt62, tt63, tt87, tt88, tt89, ti3, ti22, ti29, ti26, eq26, eq63, casesV, Hpg]
    first | exact .refl _ | exact ⟨by decide, by decide, .refl _⟩
  rintro i hi
  simp only [go_sem, reduceIte, Nat.reduceEqDiff, Nat.reduceAdd, Nat.reduceLT, Nat.reduceLeDiff, Nat.reduceBEq, Nat.reduceMul, Nat.reduceSub, Nat.reduceDiv, Int.reduceNeg, Int.reduceLT, Int.reduceLE, Int.reduceEq, Int.reduceToNat, tt3, tt4, tt5, tt22, tt24, tt29, tt26, tt30, tt36, tt59, tt62, tt63, tt87, tt88, tt89, ti3, ti22, ti29, ti26, eq26, eq63, Hpg]
  refine go_if (fun h => ?_) (fun h => ?_)
  · have hlt : i < rows.length := by simpa using h
    obtain ⟨r, hr⟩ := get_of_lt hlt
    have hrm := List.mem_of_getElem? hr
    simp only [go_sem, reduceIte, Nat.reduceEqDiff, Nat.reduceAdd, Nat.reduceLT, Nat.reduceLeDiff, Nat.reduceBEq, Nat.reduceMul, Nat.reduceSub, Nat.reduceDiv, Int.reduceNeg, Int.reduceLT, Int.reduceLE, Int.reduceEq, Int.reduceToNat, tt3, tt4, tt5, tt22, tt24, tt29, tt26, tt30, tt36, tt59, tt62, tt63, tt87, tt88, tt89, ti3, ti22, ti29, ti26, eq26, eq63, hr, rD]
    refine ⟨by simp [hlt], ?_⟩
    have hrn : (r.length : Int) = n := hp.eql r hrm
    have hn39 := hp.n39
    refine go_loop (fun k : Nat => { slots := [(1, casesV l), (2, .c (.ptr 0 0)), (7, .c (.ptr 2 0)), (8, I i), (9, ints r), (21, .c (.d (.sl (rows.map rD)))), (22, I rows.length), (23, I i), (28, ints r), (29, I r.length), (30, I k)], heap := Hpg n rows (cf rows i k), marks := [] }) (fun k => k ≤ r.length) (fun k => r.length - k) 0 mo (by kernel_rfl) ?_ (Nat.zero_le _) ?_
    · refine ent_weaken [] (by simp only [Hpg, List.append_nil]) rfl (Nat.zero_le _) (Hpg_low n rows _) rfl ?_
      simp only [go_sem, reduceIte, Nat.reduceEqDiff, Nat.reduceAdd, Nat.reduceLT, Nat.reduceLeDiff, Nat.reduceBEq, Nat.reduceMul, Nat.reduceSub, Nat.reduceDiv, Int.reduceNeg, Int.reduceLT, Int.reduceLE, Int.reduceEq, Int.reduceToNat, tt3, tt4, tt5, tt22, tt24, tt29, tt26, tt30, tt36, tt59, tt62, tt63, tt87, tt88, tt89, ti3, ti22, ti29, ti26, eq26, eq63, casesV, ints, Hpg]
      first | exact .refl _ | exact ⟨by decide, by decide, .refl _⟩
    rintro k hk
    simp only [go_sem, reduceIte, Nat.reduceEqDiff, Nat.reduceAdd, Nat.reduceLT, Nat.reduceLeDiff, Nat.reduceBEq, Nat.reduceMul, Nat.reduceSub, Nat.reduceDiv, Int.reduceNeg, Int.reduceLT, Int.reduceLE, Int.reduceEq, Int.reduceToNat, tt3, tt4, tt5, tt22, tt24, tt29, tt26, tt30, tt36, tt59, tt62, tt63, tt87, tt88, tt89, ti3, ti22, ti29, ti26, eq26, eq63, Hpg, ints]
    refine go_if (fun h => ?_) (fun h => ?_)
    · have hkl : k < r.length := by simpa using h
      obtain ⟨x, hx⟩ := get_of_lt hkl
      simp only [go_sem, reduceIte, Nat.reduceEqDiff, Nat.reduceAdd, Nat.reduceLT, Nat.reduceLeDiff, Nat.reduceBEq, Nat.reduceMul, Nat.reduceSub, Nat.reduceDiv, Int.reduceNeg, Int.reduceLT, Int.reduceLE, Int.reduceEq, Int.reduceToNat, tt3, tt4, tt5, tt22, tt24, tt29, tt26, tt30, tt36, tt59, tt62, tt63, tt87, tt88, tt89, ti3, ti22, ti29, ti26, eq26, eq63, hx, iD, pageC, codesD_len]
      refine ⟨by simp [hkl], ?_⟩
      refine ⟨by simp; omega, by simp; omega, by simp; omega, k + 1, hkl, by omega, ?_⟩
      refine ent_weaken [] (by simp only [page_set, cf_step (show i < 4 by omega) hr hx, List.append_nil]) rfl (Nat.zero_le _) (Hpg_low n rows _) rfl ?_
      simp only [go_sem, reduceIte, Nat.reduceEqDiff, Nat.reduceAdd, Nat.reduceLT, Nat.reduceLeDiff, Nat.reduceBEq, Nat.reduceMul, Nat.reduceSub, Nat.reduceDiv, Int.reduceNeg, Int.reduceLT, Int.reduceLE, Int.reduceEq, Int.reduceToNat, tt3, tt4, tt5, tt22, tt24, tt29, tt26, tt30, tt36, tt59, tt62, tt63, tt87, tt88, tt89, ti3, ti22, ti29, ti26, eq26, eq63, wr_succ hkl (show r.length ≤ 140737488355328 by omega), casesV]
      try decide
    · have hk' : k = r.length := by simp at h; omega
      subst hk'
      simp only [go_sem, reduceIte, Nat.reduceEqDiff, Nat.reduceAdd, Nat.reduceLT, Nat.reduceLeDiff, Nat.reduceBEq, Nat.reduceMul, Nat.reduceSub, Nat.reduceDiv, Int.reduceNeg, Int.reduceLT, Int.reduceLE, Int.reduceEq, Int.reduceToNat, tt3, tt4, tt5, tt22, tt24, tt29, tt26, tt30, tt36, tt59, tt62, tt63, tt87, tt88, tt89, ti3, ti22, ti29, ti26, eq26, eq63, wr_succ hlt (show rows.length ≤ 140737488355328 by omega)]
      refine ⟨i + 1, hlt, by omega, ?_⟩
      refine ent_weaken [] (by simp only [cf_row hr, Hpg, List.append_nil]) rfl (Nat.zero_le _) (Hpg_low n rows _) rfl ?_
      simp only [go_sem, reduceIte, Nat.reduceEqDiff, Nat.reduceAdd, Nat.reduceLT, Nat.reduceLeDiff, Nat.reduceBEq, Nat.reduceMul, Nat.reduceSub, Nat.reduceDiv, Int.reduceNeg, Int.reduceLT, Int.reduceLE, Int.reduceEq, Int.reduceToNat, tt3, tt4, tt5, tt22, tt24, tt29, tt26, tt30, tt36, tt59, tt62, tt63, tt87, tt88, tt89, ti3, ti22, ti29, ti26, eq26, eq63, Hpg, casesV]
      try decide
  · have hi' : i = rows.length := by simp at h; omega
    subst hi'
    have hlow := Hpg_low n rows (pf rows)
    have c59 := has59 l 60 [.ptr 2 0] (fun c => !isCase n c) (Hpg n rows (pf rows)) hlow rfl (fun c hcl => chk60 n rows (pf rows) c (hc c hcl).1 (hc c hcl).2)
    have hany : l.any (fun c => !isCase n c) = false := by rw [any_not, hok]; rfl
    rw [hany] at c59
    unfold Hpg at c59
    simp only [go_sem, reduceIte, Nat.reduceEqDiff, Nat.reduceAdd, Nat.reduceLT, Nat.reduceLeDiff, Nat.reduceBEq, Nat.reduceMul, Nat.reduceSub, Nat.reduceDiv, Int.reduceNeg, Int.reduceLT, Int.reduceLE, Int.reduceEq, Int.reduceToNat, tt3, tt4, tt5, tt22, tt24, tt29, tt26, tt30, tt36, tt59, tt62, tt63, tt87, tt88, tt89, ti3, ti22, ti29, ti26, eq26, eq63, cf_end, casesV]
    refine aops_at (c59) rfl rfl (by first | exact wk_refls _ | (repeat constructor)) ?_
    simp only [go_sem, reduceIte, Nat.reduceEqDiff, Nat.reduceAdd, Nat.reduceLT, Nat.reduceLeDiff, Nat.reduceBEq, Nat.reduceMul, Nat.reduceSub, Nat.reduceDiv, Int.reduceNeg, Int.reduceLT, Int.reduceLE, Int.reduceEq, Int.reduceToNat, tt3, tt4, tt5, tt22, tt24, tt29, tt26, tt30, tt36, tt59, tt62, tt63, tt87, tt88, tt89, ti3, ti22, ti29, ti26, eq26, eq63]
    refine ⟨1, pageC n rows (pf rows), pageDf n rows (pf rows), _, rfl, by simp [pageC, pageDf, toDs, toD, toDs_d], .tup (ys := [pageV n rows, I 0]) rfl ?_, .refl _⟩
    intro j x y hx hy
    match j, hx, hy with
    | 0, hx, hy =>
      simp at hx hy
      subst hx; subst hy
      exact .c (.ptr 0 (Nat.zero_le _))
    | 1, hx, hy =>
      simp at hx hy
      subst hx; subst hy
      exact .same _

set_option maxHeartbeats 1000000 in
theorem page39_bad (n : Int) (rows : List (List Int)) (l : List (Int × Int)) (hp : okPlan n rows ≠ 0) : Pure Try.prog 39 [planV n rows, casesV l] (.tup [.c .nilp, I (okPlan n rows)]) := by
  refine pure_wk (X := tx) (nt := 49) (rs := [.tmp 4, .tmp 5]) Try.func39 rfl rfl rfl rfl mo (by kernel_rfl) rfl rfl (fun hf => ?_)
  simp only [go_sem, reduceIte, Nat.reduceEqDiff, Nat.reduceAdd, Nat.reduceLT, Nat.reduceLeDiff, Nat.reduceBEq, Nat.reduceMul, Nat.reduceSub, Nat.reduceDiv, Int.reduceNeg, Int.reduceLT, Int.reduceLE, Int.reduceEq, Int.reduceToNat, tt3, tt4, tt5, tt22, tt24, tt29, tt26, tt30, tt36, tt59, tt62, tt63, tt87, tt88, tt89, ti3, ti22, ti29, ti26, eq26, eq63, planV, planC]
  refine aops_pure' (checkPlan_pure n rows) rfl rfl (by first | exact wk_refls _ | (repeat constructor)) ?_
  simp only [go_sem, reduceIte, Nat.reduceEqDiff, Nat.reduceAdd, Nat.reduceLT, Nat.reduceLeDiff, Nat.reduceBEq, Nat.reduceMul, Nat.reduceSub, Nat.reduceDiv, Int.reduceNeg, Int.reduceLT, Int.reduceLE, Int.reduceEq, Int.reduceToNat, tt3, tt4, tt5, tt22, tt24, tt29, tt26, tt30, tt36, tt59, tt62, tt63, tt87, tt88, tt89, ti3, ti22, ti29, ti26, eq26, eq63, hp]
end Go.Proofs.Ytklmpopomokglaa
