/- Streets: the data, and the small functions of chapter 7. -/
import Derived.Test.YtfgdbeijjbijnaaGreatDoorG16
import Derived.Test.YtfgdbeijjbijnaaGreatDoorG12
set_option linter.unusedSimpArgs false
set_option linter.unusedVariables false
set_option linter.unusedSimpArgs false
set_option linter.unusedVariables false
set_option maxRecDepth 100000
namespace Go.Proofs.YtfgdbeijjbijnaaGreatDoor
open Go Go.Abs Go.Proofs

theorem mo : tx.P.follows .mixedOrders = true := by kernel_rfl
def iD (n : Int) : List D := [.int .i64 n]
def ints (l : List Int) : V := .c (.d (.sl (l.map iD)))
theorem fit_ints {l : List Int} (h : FitV (ints l)) : l.length ≤ 140737488355328 := by have h : Fit _ := h; have := h.len; simpa [lim] using this
theorem wr_succ {i n : Nat} (h : i < n) (hn : n ≤ 140737488355328) : wr .i64 ((i : Int) + 1) = ((i + 1 : Nat) : Int) := by rw [wr_i64] <;> omega
theorem get_of_lt {α : Type} {l : List α} {i : Nat} (h : i < l.length) : ∃ x, l[i]? = some x := ⟨l[i], by simp [h]⟩
theorem take_succ_eq {α : Type} {l : List α} {i : Nat} {x : α} (h : l[i]? = some x) : l.take (i + 1) = l.take i ++ [x] := by
  rw [List.take_add_one, h]; rfl
theorem any_of_get {α : Type} {l : List α} {p : α → Bool} {i : Nat} {x : α} (h : l[i]? = some x) (hp : p x = true) : l.any p = true := List.any_eq_true.2 ⟨x, List.mem_of_getElem? h, hp⟩
theorem any_none {α : Type} {l : List α} {p : α → Bool} (h : ∀ (j : Nat) x, j < l.length → l[j]? = some x → p x = false) : l.any p = false := by
  rw [List.any_eq_false]
  intro x hx
  obtain ⟨j, hj⟩ := List.getElem?_of_mem hx
  rw [h j x (List.getElem?_eq_some_iff.1 hj).1 hj]; simp
theorem upto_succ {α : Type} {l : List α} {P : α → Prop} {i : Nat} {x : α} (h : ∀ (j : Nat) y, j < i → l[j]? = some y → P y) (hx : l[i]? = some x) (hp : P x) : ∀ (j : Nat) y, j < i + 1 → l[j]? = some y → P y := fun j y hj hy => by
  rcases Nat.lt_succ_iff_lt_or_eq.1 hj with h1 | h1
  · exact h j y h1 hy
  · subst h1; rw [hx] at hy; cases hy; exact hp
def idxOf {α : Type} (p : α → Bool) : List α → Int
  | [] => -1
  | x :: l => if p x then 0 else if idxOf p l < 0 then -1 else idxOf p l + 1
theorem idxOf_at {α : Type} {p : α → Bool} : ∀ {l : List α} {i : Nat} {x : α}, (∀ j y, j < i → l[j]? = some y → p y = false) → l[i]? = some x → p x = true → idxOf p l = i
  | y :: l, 0, x, _, hx, hp => by simp at hx; subst hx; simp [idxOf, hp]
  | y :: l, i + 1, x, h, hx, hp => by
    have h0 := h 0 y (by omega) rfl
    have ih := idxOf_at (l := l) (i := i) (fun j z hj hz => h (j + 1) z (by omega) (by simpa using hz)) (by simpa using hx) hp
    simp only [idxOf, h0, ih]
    simp; omega
theorem idxOf_none {α : Type} {p : α → Bool} : ∀ {l : List α}, (∀ (j : Nat) y, j < l.length → l[j]? = some y → p y = false) → idxOf p l = -1
  | [], _ => rfl
  | y :: l, h => by
    have h0 := h 0 y (by simp) rfl
    have ih := idxOf_none (l := l) (fun j z hj hz => h (j + 1) z (by simpa using hj) (by simpa using hz))
    simp [idxOf, h0, ih]
theorem idxOf_nonneg {α : Type} {p : α → Bool} : ∀ (l : List α), 0 ≤ idxOf p l ↔ l.any p = true
  | [] => by simp [idxOf]
  | y :: l => by
    have ih := idxOf_nonneg (p := p) l
    by_cases hy : p y = true
    · simp [idxOf, hy]
    · simp only [idxOf, hy, List.any_cons, Bool.false_or, if_false, Bool.false_eq_true, ← ih, eq_self]
      split <;> omega
theorem idxOf_any {α : Type} {p : α → Bool} (l : List α) : decide (0 ≤ idxOf p l) = l.any p := by
  rw [Bool.eq_iff_iff, decide_eq_true_eq, idxOf_nonneg]

/-- A post, a street. -/
structure Po where
  fr : Int
  to : Int
  co : Int
structure Rd where
  pl : Int
  de : Int
  di : Int
  ps : List Po
def pD (p : Po) : List D := [.int .i64 p.fr, .int .i64 p.to, .int .i64 p.co]
def pC (p : Po) : List C := [.d (.int .i64 p.fr), .d (.int .i64 p.to), .d (.int .i64 p.co)]
def postV (p : Po) : V := .agg (pC p)
def postsV (l : List Po) : V := .c (.d (.sl (l.map pD)))
def roadC (r : Rd) : List C := [.d (.int .i64 r.pl), .d (.int .i64 r.de), .d (.int .i64 r.di), .d (.sl (r.ps.map pD))]
def roadV (r : Rd) : V := .agg (roadC r)
def upd (f : Nat → Int) (m : Nat) (v : Int) : Nat → Int := fun j => if j = m then v else f j
theorem upd_same (f : Nat → Int) (m : Nat) (v : Int) : upd f m v m = v := by simp [upd]
theorem upd_ne (f : Nat → Int) {m j : Nat} (v : Int) (h : j ≠ m) : upd f m v j = f j := by simp [upd, h]
def numsD (n : Nat) (f : Nat → Int) : List D := (List.range n).map (fun j => .int .i64 (f j))
theorem numsD_len (n : Nat) (f : Nat → Int) : (numsD n f).length = n := by simp [numsD]
theorem numsD_get {n : Nat} (f : Nat → Int) {j : Nat} (h : j < n) : (numsD n f)[j]? = some (.int .i64 (f j)) := by simp [numsD, h]
theorem numsD_set (n : Nat) (f : Nat → Int) (m : Nat) (v : Int) : (numsD n f).set m (.int .i64 v) = numsD n (upd f m v) := by
  refine List.ext_getElem? fun j => ?_
  by_cases e : m = j
  · subst e
    by_cases hm : m < n
    · rw [numsD_get _ hm, upd_same]; simp [numsD_len, hm]
    · rw [List.getElem?_eq_none (by simp [numsD_len]; omega), List.getElem?_eq_none (by simp [numsD_len]; omega)]
  · rw [List.getElem?_set_ne e]
    simp only [numsD, List.getElem?_map]
    cases hj : (List.range n)[j]? with
    | none => rfl
    | some x =>
      have : x = j := by
        rw [List.getElem?_eq_some_iff] at hj
        obtain ⟨h, e⟩ := hj
        simpa using e.symm
      subst this
      simp [upd_ne _ _ (Ne.symm e)]
theorem lowL_d (n : Nat) (l : List D) : C.lowL n (l.map .d) = true := by induction l with | nil => rfl | cons a l ih => simp [C.lowL, C.low, ih]
theorem toDs_d (l : List D) : toDs (l.map C.d) = some l := by
  induction l with
  | nil => rfl
  | cons a l ih => simp [toDs, toD, ih]
def netC (r : Rd) (st bk : Nat → Int) : List C := .d (.int .i64 r.pl) :: .d (.int .i64 r.de) :: .d (.int .i64 r.di) :: .d (.sl (r.ps.map pD)) :: (numsD 24 st ++ numsD 40 bk).map .d
def zf : Nat → Int := fun _ => 0
theorem net_len (st bk : Nat → Int) : (numsD 24 st ++ numsD 40 bk).length = 64 := by simp [numsD_len]
theorem net_st {st bk : Nat → Int} {i : Nat} (h : i < 24) : (numsD 24 st ++ numsD 40 bk)[i]? = some (.int .i64 (st i)) := by
  rw [List.getElem?_append_left (by rw [numsD_len]; exact h), numsD_get _ h]
theorem net_bk {st bk : Nat → Int} {i : Nat} (h : i < 40) : (numsD 24 st ++ numsD 40 bk)[24 + i]? = some (.int .i64 (bk i)) := by
  rw [List.getElem?_append_right (by rw [numsD_len]; omega), numsD_len, Nat.add_sub_cancel_left, numsD_get _ h]
theorem netC_low (n : Nat) (r : Rd) (st bk : Nat → Int) : C.lowL n (netC r st bk) = true := by
  simp only [netC, C.lowL, C.low, lowL_d, Bool.and_self]
theorem roadC_low (n : Nat) (r : Rd) : C.lowL n (roadC r) = true := rfl

end Go.Proofs.YtfgdbeijjbijnaaGreatDoor

/- CheckRoad, of the program and of the reference. -/
set_option linter.unusedSimpArgs false
set_option linter.unusedVariables false
set_option maxRecDepth 100000
namespace Go.Proofs.YtfgdbeijjbijnaaGreatDoor
open Go Go.Abs Go.Proofs

set_option maxHeartbeats 1000000 in
theorem idx65 (l : List Int) (g : Nat) (caps : List C) (p : Int → Bool) (H : List AB) (hH : H.all (AB.low H.length) = true) (hcaps : C.lowL H.length caps = true)
    (hp : ∀ x ∈ l, ACall Tryz.prog g (I x :: caps.map .c) H (one (B (p x)) H)) : ACall Tryz.prog 295 [.c (.d (.sl (l.map iD))), .c (.fn (.func g) caps)] H (one (I (idxOf p l)) H) := by
  refine acall_at (X := tx) (nt := 19) (rs := [.tmp 4]) Tryz.func295 rfl rfl rfl rfl mo (by kernel_rfl) rfl hH (fun hf => ?_)
  have hfit : l.length ≤ 140737488355328 := by
    have h : Fit _ := hf (.c (.d (.sl (l.map iD)))) (by simp)
    have := h.len; simpa [lim] using this
  simp only [go_sem, reduceIte, Nat.reduceEqDiff, Nat.reduceAdd, Nat.reduceLT, Nat.reduceLeDiff, Nat.reduceBEq, Nat.reduceMul, Nat.reduceSub, Nat.reduceDiv, Int.reduceNeg, Int.reduceLT, Int.reduceLE, Int.reduceEq, Int.reduceToNat]
  refine go_loop (fun i : Nat => { slots := [(0, .c (.d (.sl (l.map iD)))), (1, .c (.fn (.func g) caps)), (7, I l.length), (8, I i)], heap := H, marks := [] }) (fun i => i ≤ l.length ∧ ∀ j x, j < i → l[j]? = some x → p x = false) (fun i => l.length - i) 0 mo (by kernel_rfl) ?_ ⟨Nat.zero_le _, by intro j r h; omega⟩ ?_
  · refine ent_weaken [] (by simp) rfl (Nat.le_refl _) hH rfl ?_
    simp only [go_sem, reduceIte, Nat.reduceEqDiff, Nat.reduceAdd, Nat.reduceLT, Nat.reduceLeDiff, Nat.reduceBEq, Nat.reduceMul, Nat.reduceSub, Nat.reduceDiv, Int.reduceNeg, Int.reduceLT, Int.reduceLE, Int.reduceEq, Int.reduceToNat, hcaps]
    all_goals first | exact .refl _ | exact ⟨.refl _, .refl _⟩ | exact ⟨.refl _, .refl _, .refl _⟩ | exact ⟨.refl _, _, rfl⟩ | exact ⟨_, rfl⟩ | exact ⟨.refl _, [], by simp⟩ | exact ⟨[], by simp⟩
  rintro i ⟨hi, hall⟩
  simp only [go_sem, reduceIte, Nat.reduceEqDiff, Nat.reduceAdd, Nat.reduceLT, Nat.reduceLeDiff, Nat.reduceBEq, Nat.reduceMul, Nat.reduceSub, Nat.reduceDiv, Int.reduceNeg, Int.reduceLT, Int.reduceLE, Int.reduceEq, Int.reduceToNat]
  refine go_if (fun h => ?_) (fun h => ?_)
  · have hlt : i < l.length := by simpa using h
    obtain ⟨x, hx⟩ := get_of_lt hlt
    simp only [go_sem, reduceIte, Nat.reduceEqDiff, Nat.reduceAdd, Nat.reduceLT, Nat.reduceLeDiff, Nat.reduceBEq, Nat.reduceMul, Nat.reduceSub, Nat.reduceDiv, Int.reduceNeg, Int.reduceLT, Int.reduceLE, Int.reduceEq, Int.reduceToNat, hx, iD]
    refine ⟨by simp [hlt], ?_⟩
    refine aops_at (hp x (List.mem_of_getElem? hx)) rfl rfl (by first | exact wk_refls _ | (repeat constructor)) ?_
    simp only [go_sem, reduceIte, Nat.reduceEqDiff, Nat.reduceAdd, Nat.reduceLT, Nat.reduceLeDiff, Nat.reduceBEq, Nat.reduceMul, Nat.reduceSub, Nat.reduceDiv, Int.reduceNeg, Int.reduceLT, Int.reduceLE, Int.reduceEq, Int.reduceToNat]
    refine go_if (fun hb => ?_) (fun hb => ?_)
    · simp only [go_sem, reduceIte, Nat.reduceEqDiff, Nat.reduceAdd, Nat.reduceLT, Nat.reduceLeDiff, Nat.reduceBEq, Nat.reduceMul, Nat.reduceSub, Nat.reduceDiv, Int.reduceNeg, Int.reduceLT, Int.reduceLE, Int.reduceEq, Int.reduceToNat]
      have e : idxOf p l = i := idxOf_at hall hx hb
      rw [e]
      all_goals first | exact .refl _ | exact ⟨.refl _, .refl _⟩ | exact ⟨.refl _, .refl _, .refl _⟩ | exact ⟨.refl _, _, rfl⟩ | exact ⟨_, rfl⟩ | exact ⟨.refl _, [], by simp⟩ | exact ⟨[], by simp⟩
    · simp only [go_sem, reduceIte, Nat.reduceEqDiff, Nat.reduceAdd, Nat.reduceLT, Nat.reduceLeDiff, Nat.reduceBEq, Nat.reduceMul, Nat.reduceSub, Nat.reduceDiv, Int.reduceNeg, Int.reduceLT, Int.reduceLE, Int.reduceEq, Int.reduceToNat, wr_succ hlt hfit]
      refine ⟨i + 1, ⟨hlt, upto_succ hall hx hb⟩, by omega, ?_⟩
      refine ent_weaken [] (by simp) rfl (Nat.le_refl _) hH rfl ?_
      simp only [go_sem, reduceIte, Nat.reduceEqDiff, Nat.reduceAdd, Nat.reduceLT, Nat.reduceLeDiff, Nat.reduceBEq, Nat.reduceMul, Nat.reduceSub, Nat.reduceDiv, Int.reduceNeg, Int.reduceLT, Int.reduceLE, Int.reduceEq, Int.reduceToNat, hcaps]
  · have hi' : i = l.length := by simp at h; omega
    have e : idxOf p l = -1 := idxOf_none (fun j x hj hx => hall j x (by omega) hx)
    simp only [go_sem, reduceIte, Nat.reduceEqDiff, Nat.reduceAdd, Nat.reduceLT, Nat.reduceLeDiff, Nat.reduceBEq, Nat.reduceMul, Nat.reduceSub, Nat.reduceDiv, Int.reduceNeg, Int.reduceLT, Int.reduceLE, Int.reduceEq, Int.reduceToNat]
    rw [e]
    all_goals first | exact .refl _ | exact ⟨.refl _, .refl _⟩ | exact ⟨.refl _, .refl _, .refl _⟩ | exact ⟨.refl _, _, rfl⟩ | exact ⟨_, rfl⟩ | exact ⟨.refl _, [], by simp⟩ | exact ⟨[], by simp⟩
set_option maxHeartbeats 1000000 in
theorem has60 (l : List Int) (g : Nat) (caps : List C) (p : Int → Bool) (H : List AB) (hH : H.all (AB.low H.length) = true) (hcaps : C.lowL H.length caps = true)
    (hp : ∀ x ∈ l, ACall Tryz.prog g (I x :: caps.map .c) H (one (B (p x)) H)) : ACall Tryz.prog 187 [.c (.d (.sl (l.map iD))), .c (.fn (.func g) caps)] H (one (B (l.any p)) H) := by
  refine acall_at (X := tx) (nt := 9) (rs := [.tmp 4]) Tryz.func187 rfl rfl rfl rfl mo (by kernel_rfl) rfl hH (fun hf => ?_)
  simp only [go_sem, reduceIte, Nat.reduceEqDiff, Nat.reduceAdd, Nat.reduceLT, Nat.reduceLeDiff, Nat.reduceBEq, Nat.reduceMul, Nat.reduceSub, Nat.reduceDiv, Int.reduceNeg, Int.reduceLT, Int.reduceLE, Int.reduceEq, Int.reduceToNat]
  refine aops_at (idx65 l g caps p H hH hcaps hp) rfl rfl (by first | exact wk_refls _ | (repeat constructor)) ?_
  simp only [go_sem, reduceIte, Nat.reduceEqDiff, Nat.reduceAdd, Nat.reduceLT, Nat.reduceLeDiff, Nat.reduceBEq, Nat.reduceMul, Nat.reduceSub, Nat.reduceDiv, Int.reduceNeg, Int.reduceLT, Int.reduceLE, Int.reduceEq, Int.reduceToNat]
  rw [idxOf_any]
  all_goals first | exact .refl _ | exact ⟨.refl _, .refl _⟩ | exact ⟨.refl _, .refl _, .refl _⟩ | exact ⟨.refl _, _, rfl⟩ | exact ⟨_, rfl⟩ | exact ⟨.refl _, [], by simp⟩ | exact ⟨[], by simp⟩
set_option maxHeartbeats 1000000 in
theorem idx62 (l : List Po) (g : Nat) (caps : List C) (p : Po → Bool) (H : List AB) (hH : H.all (AB.low H.length) = true) (hcaps : C.lowL H.length caps = true)
    (hp : ∀ x ∈ l, ACall Tryz.prog g (postV x :: caps.map .c) H (one (B (p x)) H)) : ACall Tryz.prog 238 [postsV l, .c (.fn (.func g) caps)] H (one (I (idxOf p l)) H) := by
  refine acall_at (X := tx) (nt := 19) (rs := [.tmp 4]) Tryz.func238 rfl rfl rfl rfl mo (by kernel_rfl) rfl hH (fun hf => ?_)
  have hfit : l.length ≤ 140737488355328 := by
    have h : Fit _ := hf (postsV l) (by simp)
    have := h.len; simpa [lim] using this
  simp only [go_sem, reduceIte, Nat.reduceEqDiff, Nat.reduceAdd, Nat.reduceLT, Nat.reduceLeDiff, Nat.reduceBEq, Nat.reduceMul, Nat.reduceSub, Nat.reduceDiv, Int.reduceNeg, Int.reduceLT, Int.reduceLE, Int.reduceEq, Int.reduceToNat, postsV]
  refine go_loop (fun i : Nat => { slots := [(0, postsV l), (1, .c (.fn (.func g) caps)), (7, I l.length), (8, I i)], heap := H, marks := [] }) (fun i => i ≤ l.length ∧ ∀ j x, j < i → l[j]? = some x → p x = false) (fun i => l.length - i) 0 mo (by kernel_rfl) ?_ ⟨Nat.zero_le _, by intro j r h; omega⟩ ?_
  · refine ent_weaken [] (by simp) rfl (Nat.le_refl _) hH rfl ?_
    simp only [go_sem, reduceIte, Nat.reduceEqDiff, Nat.reduceAdd, Nat.reduceLT, Nat.reduceLeDiff, Nat.reduceBEq, Nat.reduceMul, Nat.reduceSub, Nat.reduceDiv, Int.reduceNeg, Int.reduceLT, Int.reduceLE, Int.reduceEq, Int.reduceToNat, hcaps, postsV]
    all_goals first | exact .refl _ | exact ⟨.refl _, .refl _⟩ | exact ⟨.refl _, .refl _, .refl _⟩ | exact ⟨.refl _, _, rfl⟩ | exact ⟨_, rfl⟩ | exact ⟨.refl _, [], by simp⟩ | exact ⟨[], by simp⟩
  rintro i ⟨hi, hall⟩
  simp only [go_sem, reduceIte, Nat.reduceEqDiff, Nat.reduceAdd, Nat.reduceLT, Nat.reduceLeDiff, Nat.reduceBEq, Nat.reduceMul, Nat.reduceSub, Nat.reduceDiv, Int.reduceNeg, Int.reduceLT, Int.reduceLE, Int.reduceEq, Int.reduceToNat, postsV]
  refine go_if (fun h => ?_) (fun h => ?_)
  · have hlt : i < l.length := by simpa using h
    obtain ⟨x, hx⟩ := get_of_lt hlt
    have hpx := hp x (List.mem_of_getElem? hx)
    simp only [postV, pC] at hpx
    simp only [go_sem, reduceIte, Nat.reduceEqDiff, Nat.reduceAdd, Nat.reduceLT, Nat.reduceLeDiff, Nat.reduceBEq, Nat.reduceMul, Nat.reduceSub, Nat.reduceDiv, Int.reduceNeg, Int.reduceLT, Int.reduceLE, Int.reduceEq, Int.reduceToNat, hx, pD]
    refine ⟨by simp [hlt], ?_⟩
    refine aops_at (hpx) rfl rfl (by first | exact wk_refls _ | (repeat constructor)) ?_
    simp only [go_sem, reduceIte, Nat.reduceEqDiff, Nat.reduceAdd, Nat.reduceLT, Nat.reduceLeDiff, Nat.reduceBEq, Nat.reduceMul, Nat.reduceSub, Nat.reduceDiv, Int.reduceNeg, Int.reduceLT, Int.reduceLE, Int.reduceEq, Int.reduceToNat]
    refine go_if (fun hb => ?_) (fun hb => ?_)
    · simp only [go_sem, reduceIte, Nat.reduceEqDiff, Nat.reduceAdd, Nat.reduceLT, Nat.reduceLeDiff, Nat.reduceBEq, Nat.reduceMul, Nat.reduceSub, Nat.reduceDiv, Int.reduceNeg, Int.reduceLT, Int.reduceLE, Int.reduceEq, Int.reduceToNat]
      have e : idxOf p l = i := idxOf_at hall hx hb
      rw [e]
      all_goals first | exact .refl _ | exact ⟨.refl _, .refl _⟩ | exact ⟨.refl _, .refl _, .refl _⟩ | exact ⟨.refl _, _, rfl⟩ | exact ⟨_, rfl⟩ | exact ⟨.refl _, [], by simp⟩ | exact ⟨[], by simp⟩
    · simp only [go_sem, reduceIte, Nat.reduceEqDiff, Nat.reduceAdd, Nat.reduceLT, Nat.reduceLeDiff, Nat.reduceBEq, Nat.reduceMul, Nat.reduceSub, Nat.reduceDiv, Int.reduceNeg, Int.reduceLT, Int.reduceLE, Int.reduceEq, Int.reduceToNat, wr_succ hlt hfit]
      refine ⟨i + 1, ⟨hlt, upto_succ hall hx hb⟩, by omega, ?_⟩
      refine ent_weaken [] (by simp) rfl (Nat.le_refl _) hH rfl ?_
      simp only [go_sem, reduceIte, Nat.reduceEqDiff, Nat.reduceAdd, Nat.reduceLT, Nat.reduceLeDiff, Nat.reduceBEq, Nat.reduceMul, Nat.reduceSub, Nat.reduceDiv, Int.reduceNeg, Int.reduceLT, Int.reduceLE, Int.reduceEq, Int.reduceToNat, hcaps]
  · have hi' : i = l.length := by simp at h; omega
    have e : idxOf p l = -1 := idxOf_none (fun j x hj hx => hall j x (by omega) hx)
    simp only [go_sem, reduceIte, Nat.reduceEqDiff, Nat.reduceAdd, Nat.reduceLT, Nat.reduceLeDiff, Nat.reduceBEq, Nat.reduceMul, Nat.reduceSub, Nat.reduceDiv, Int.reduceNeg, Int.reduceLT, Int.reduceLE, Int.reduceEq, Int.reduceToNat]
    rw [e]
    all_goals first | exact .refl _ | exact ⟨.refl _, .refl _⟩ | exact ⟨.refl _, .refl _, .refl _⟩ | exact ⟨.refl _, _, rfl⟩ | exact ⟨_, rfl⟩ | exact ⟨.refl _, [], by simp⟩ | exact ⟨[], by simp⟩
set_option maxHeartbeats 1000000 in
theorem has47 (l : List Po) (g : Nat) (caps : List C) (p : Po → Bool) (H : List AB) (hH : H.all (AB.low H.length) = true) (hcaps : C.lowL H.length caps = true)
    (hp : ∀ x ∈ l, ACall Tryz.prog g (postV x :: caps.map .c) H (one (B (p x)) H)) : ACall Tryz.prog 160 [postsV l, .c (.fn (.func g) caps)] H (one (B (l.any p)) H) := by
  refine acall_at (X := tx) (nt := 9) (rs := [.tmp 4]) Tryz.func160 rfl rfl rfl rfl mo (by kernel_rfl) rfl hH (fun hf => ?_)
  simp only [go_sem, reduceIte, Nat.reduceEqDiff, Nat.reduceAdd, Nat.reduceLT, Nat.reduceLeDiff, Nat.reduceBEq, Nat.reduceMul, Nat.reduceSub, Nat.reduceDiv, Int.reduceNeg, Int.reduceLT, Int.reduceLE, Int.reduceEq, Int.reduceToNat]
  refine aops_at (idx62 l g caps p H hH hcaps hp) rfl rfl (by first | exact wk_refls _ | (repeat constructor)) ?_
  simp only [go_sem, reduceIte, Nat.reduceEqDiff, Nat.reduceAdd, Nat.reduceLT, Nat.reduceLeDiff, Nat.reduceBEq, Nat.reduceMul, Nat.reduceSub, Nat.reduceDiv, Int.reduceNeg, Int.reduceLT, Int.reduceLE, Int.reduceEq, Int.reduceToNat]
  rw [idxOf_any]
  all_goals first | exact .refl _ | exact ⟨.refl _, .refl _⟩ | exact ⟨.refl _, .refl _, .refl _⟩ | exact ⟨.refl _, _, rfl⟩ | exact ⟨_, rfl⟩ | exact ⟨.refl _, [], by simp⟩ | exact ⟨[], by simp⟩

def Hw (lo hi : Int) : List AB := [.cells [.d (.int .i64 lo)], .cells [.d (.int .i64 hi)]]
theorem chk61 (lo hi x : Int) : ACall Tryz.prog 237 [I x, .c (.ptr 0 0), .c (.ptr 1 0)] (Hw lo hi) (one (B (decide (x < lo) || decide (hi < x))) (Hw lo hi)) := by
  refine acall_at (X := tx) (nt := 13) (rs := [.tmp 4]) Tryz.func237 rfl rfl rfl rfl mo (by kernel_rfl) rfl rfl (fun hf => ?_)
  by_cases h : x < lo
  · simp only [go_sem, reduceIte, Nat.reduceEqDiff, Nat.reduceAdd, Nat.reduceLT, Nat.reduceLeDiff, Nat.reduceBEq, Nat.reduceMul, Nat.reduceSub, Nat.reduceDiv, Int.reduceNeg, Int.reduceLT, Int.reduceLE, Int.reduceEq, Int.reduceToNat, Hw, h]
    all_goals first | exact .refl _ | exact ⟨.refl _, .refl _⟩ | exact ⟨.refl _, .refl _, .refl _⟩ | exact ⟨.refl _, _, rfl⟩ | exact ⟨_, rfl⟩ | exact ⟨.refl _, [], by simp⟩ | exact ⟨[], by simp⟩
  · simp only [go_sem, reduceIte, Nat.reduceEqDiff, Nat.reduceAdd, Nat.reduceLT, Nat.reduceLeDiff, Nat.reduceBEq, Nat.reduceMul, Nat.reduceSub, Nat.reduceDiv, Int.reduceNeg, Int.reduceLT, Int.reduceLE, Int.reduceEq, Int.reduceToNat, Hw, h]
    all_goals first | exact .refl _ | exact ⟨.refl _, .refl _⟩ | exact ⟨.refl _, .refl _, .refl _⟩ | exact ⟨.refl _, _, rfl⟩ | exact ⟨_, rfl⟩ | exact ⟨.refl _, [], by simp⟩ | exact ⟨[], by simp⟩
/-- Numbers from one to another one. -/
def inR (lo hi : Int) (l : List Int) : Bool := !l.any (fun n => decide (n < lo) || decide (hi < n))
theorem inR1 (lo hi x : Int) : inR lo hi [x] = decide (lo ≤ x ∧ x ≤ hi) := by
  rw [Bool.eq_iff_iff]; simp [inR]
set_option maxHeartbeats 1000000 in
theorem within46 (lo hi : Int) (l : List Int) : Pure Tryz.prog 159 [I lo, I hi, ints l] (B (inR lo hi l)) := by
  refine pure_wk (X := tx) (nt := 11) (rs := [.tmp 6]) Tryz.func159 rfl rfl rfl rfl mo (by kernel_rfl) rfl rfl (fun hf => ?_)
  simp only [go_sem, reduceIte, Nat.reduceEqDiff, Nat.reduceAdd, Nat.reduceLT, Nat.reduceLeDiff, Nat.reduceBEq, Nat.reduceMul, Nat.reduceSub, Nat.reduceDiv, Int.reduceNeg, Int.reduceLT, Int.reduceLE, Int.reduceEq, Int.reduceToNat, ints]
  refine aops_at (has60 l 237 [.ptr 0 0, .ptr 1 0] (fun n => decide (n < lo) || decide (hi < n)) (Hw lo hi) rfl rfl (fun x _ => chk61 lo hi x)) rfl rfl (by first | exact wk_refls _ | (repeat constructor)) ?_
  simp only [go_sem, reduceIte, Nat.reduceEqDiff, Nat.reduceAdd, Nat.reduceLT, Nat.reduceLeDiff, Nat.reduceBEq, Nat.reduceMul, Nat.reduceSub, Nat.reduceDiv, Int.reduceNeg, Int.reduceLT, Int.reduceLE, Int.reduceEq, Int.reduceToNat, inR]

def badP (r : Rd) (p : Po) : Bool := decide (p.fr < 0 ∨ p.to < p.fr ∨ r.pl ≤ p.to ∨ p.co < 0 ∨ 1000000 < p.co)
theorem badP_eq {r : Rd} (h : 1 ≤ r.pl ∧ r.pl ≤ 40) (p : Po) : (!inR 0 (wr .i64 (r.pl - 1)) [p.fr, p.to, wr .i64 (p.to - p.fr)] || (decide (p.co < 0) || decide (1000000 < p.co))) = badP r p := by
  have hw : wr .i64 (r.pl - 1) = r.pl - 1 := by rw [wr_i64] <;> omega
  rw [hw, Bool.eq_iff_iff]
  by_cases h1 : 0 ≤ p.fr ∧ p.fr ≤ r.pl - 1 ∧ 0 ≤ p.to ∧ p.to ≤ r.pl - 1
  · have hw2 : wr .i64 (p.to - p.fr) = p.to - p.fr := by rw [wr_i64] <;> omega
    simp [inR, badP, hw2]; omega
  · simp [inR, badP]; omega
set_option maxHeartbeats 1000000 in
theorem bad45 (r : Rd) (p : Po) (h : 1 ≤ r.pl ∧ r.pl ≤ 40) : ACall Tryz.prog 158 [postV p, .c (.ptr 0 0)] [.cells (roadC r)] (one (B (badP r p)) [.cells (roadC r)]) := by
  refine acall_at (X := tx) (nt := 29) (rs := [.tmp 3]) Tryz.func158 rfl rfl rfl rfl mo (by kernel_rfl) rfl rfl (fun hf => ?_)
  simp only [go_sem, reduceIte, Nat.reduceEqDiff, Nat.reduceAdd, Nat.reduceLT, Nat.reduceLeDiff, Nat.reduceBEq, Nat.reduceMul, Nat.reduceSub, Nat.reduceDiv, Int.reduceNeg, Int.reduceLT, Int.reduceLE, Int.reduceEq, Int.reduceToNat, postV, pC, roadC, fillC, zc, List.replicate_succ, List.replicate_zero, List.flatten_cons, List.flatten_nil, toDs, toD, chunk, lim]
  refine aops_pure' (within46 0 (wr .i64 (r.pl - 1)) [p.fr, p.to, wr .i64 (p.to - p.fr)]) rfl rfl (by first | exact wk_refls _ | (repeat constructor)) ?_
  rw [← badP_eq h p]
  cases hi : inR 0 (wr .i64 (r.pl - 1)) [p.fr, p.to, wr .i64 (p.to - p.fr)] with
  | false =>
    simp only [go_sem, reduceIte, Nat.reduceEqDiff, Nat.reduceAdd, Nat.reduceLT, Nat.reduceLeDiff, Nat.reduceBEq, Nat.reduceMul, Nat.reduceSub, Nat.reduceDiv, Int.reduceNeg, Int.reduceLT, Int.reduceLE, Int.reduceEq, Int.reduceToNat]
    all_goals first | exact .refl _ | exact ⟨.refl _, .refl _⟩ | exact ⟨.refl _, .refl _, .refl _⟩ | exact ⟨.refl _, _, rfl⟩ | exact ⟨_, rfl⟩ | exact ⟨.refl _, [], by simp⟩ | exact ⟨[], by simp⟩
  | true =>
    by_cases h2 : p.co < 0
    · simp only [go_sem, reduceIte, Nat.reduceEqDiff, Nat.reduceAdd, Nat.reduceLT, Nat.reduceLeDiff, Nat.reduceBEq, Nat.reduceMul, Nat.reduceSub, Nat.reduceDiv, Int.reduceNeg, Int.reduceLT, Int.reduceLE, Int.reduceEq, Int.reduceToNat, h2]
      all_goals first | exact .refl _ | exact ⟨.refl _, .refl _⟩ | exact ⟨.refl _, .refl _, .refl _⟩ | exact ⟨.refl _, _, rfl⟩ | exact ⟨_, rfl⟩ | exact ⟨.refl _, [], by simp⟩ | exact ⟨[], by simp⟩
    · simp only [go_sem, reduceIte, Nat.reduceEqDiff, Nat.reduceAdd, Nat.reduceLT, Nat.reduceLeDiff, Nat.reduceBEq, Nat.reduceMul, Nat.reduceSub, Nat.reduceDiv, Int.reduceNeg, Int.reduceLT, Int.reduceLE, Int.reduceEq, Int.reduceToNat, h2]
      all_goals first | exact .refl _ | exact ⟨.refl _, .refl _⟩ | exact ⟨.refl _, .refl _, .refl _⟩ | exact ⟨.refl _, _, rfl⟩ | exact ⟨_, rfl⟩ | exact ⟨.refl _, [], by simp⟩ | exact ⟨[], by simp⟩
def okRoad (r : Rd) : Int := if 24 < r.ps.length then 6 else if r.pl < 1 ∨ 40 < r.pl ∨ r.de < 0 ∨ 2 < r.de ∨ r.di < 0 ∨ 5 < r.di then 2 else if r.ps.any (badP r) then 2 else 0
set_option maxHeartbeats 2000000 in
theorem checkRoad19 (r : Rd) : Pure Tryz.prog 75 [roadV r] (I (okRoad r)) := by
  refine pure_wk (X := tx) (nt := 36) (rs := [.tmp 2]) Tryz.func75 rfl rfl rfl rfl mo (by kernel_rfl) rfl rfl (fun hf => ?_)
  simp only [go_sem, reduceIte, Nat.reduceEqDiff, Nat.reduceAdd, Nat.reduceLT, Nat.reduceLeDiff, Nat.reduceBEq, Nat.reduceMul, Nat.reduceSub, Nat.reduceDiv, Int.reduceNeg, Int.reduceLT, Int.reduceLE, Int.reduceEq, Int.reduceToNat, roadV, roadC]
  by_cases h24 : 24 < r.ps.length
  · have h : (24 : Int) < r.ps.length := by omega
    simp only [go_sem, reduceIte, Nat.reduceEqDiff, Nat.reduceAdd, Nat.reduceLT, Nat.reduceLeDiff, Nat.reduceBEq, Nat.reduceMul, Nat.reduceSub, Nat.reduceDiv, Int.reduceNeg, Int.reduceLT, Int.reduceLE, Int.reduceEq, Int.reduceToNat, h, okRoad, h24]
  have h24' : ¬ (24 : Int) < r.ps.length := by omega
  simp only [go_sem, reduceIte, Nat.reduceEqDiff, Nat.reduceAdd, Nat.reduceLT, Nat.reduceLeDiff, Nat.reduceBEq, Nat.reduceMul, Nat.reduceSub, Nat.reduceDiv, Int.reduceNeg, Int.reduceLT, Int.reduceLE, Int.reduceEq, Int.reduceToNat, h24', fillC, zc, List.replicate_succ, List.replicate_zero, List.flatten_cons, List.flatten_nil, toDs, toD, chunk, lim]
  refine aops_pure' (within46 1 40 [r.pl]) rfl rfl (by first | exact wk_refls _ | (repeat constructor)) ?_
  simp only [go_sem, reduceIte, Nat.reduceEqDiff, Nat.reduceAdd, Nat.reduceLT, Nat.reduceLeDiff, Nat.reduceBEq, Nat.reduceMul, Nat.reduceSub, Nat.reduceDiv, Int.reduceNeg, Int.reduceLT, Int.reduceLE, Int.reduceEq, Int.reduceToNat, inR1]
  by_cases h1 : 1 ≤ r.pl ∧ r.pl ≤ 40
  case neg =>
    have e : okRoad r = 2 := by simp only [okRoad, h24, if_false]; rw [if_pos (by omega)]
    simp only [go_sem, reduceIte, Nat.reduceEqDiff, Nat.reduceAdd, Nat.reduceLT, Nat.reduceLeDiff, Nat.reduceBEq, Nat.reduceMul, Nat.reduceSub, Nat.reduceDiv, Int.reduceNeg, Int.reduceLT, Int.reduceLE, Int.reduceEq, Int.reduceToNat, h1, e]
  simp only [go_sem, reduceIte, Nat.reduceEqDiff, Nat.reduceAdd, Nat.reduceLT, Nat.reduceLeDiff, Nat.reduceBEq, Nat.reduceMul, Nat.reduceSub, Nat.reduceDiv, Int.reduceNeg, Int.reduceLT, Int.reduceLE, Int.reduceEq, Int.reduceToNat, h1, fillC, zc, List.replicate_succ, List.replicate_zero, List.flatten_cons, List.flatten_nil, toDs, toD, chunk, lim]
  refine aops_pure' (within46 0 2 [r.de]) rfl rfl (by first | exact wk_refls _ | (repeat constructor)) ?_
  simp only [go_sem, reduceIte, Nat.reduceEqDiff, Nat.reduceAdd, Nat.reduceLT, Nat.reduceLeDiff, Nat.reduceBEq, Nat.reduceMul, Nat.reduceSub, Nat.reduceDiv, Int.reduceNeg, Int.reduceLT, Int.reduceLE, Int.reduceEq, Int.reduceToNat, inR1]
  by_cases h2 : 0 ≤ r.de ∧ r.de ≤ 2
  case neg =>
    have e : okRoad r = 2 := by simp only [okRoad, h24, if_false]; rw [if_pos (by omega)]
    simp only [go_sem, reduceIte, Nat.reduceEqDiff, Nat.reduceAdd, Nat.reduceLT, Nat.reduceLeDiff, Nat.reduceBEq, Nat.reduceMul, Nat.reduceSub, Nat.reduceDiv, Int.reduceNeg, Int.reduceLT, Int.reduceLE, Int.reduceEq, Int.reduceToNat, h2, e]
  simp only [go_sem, reduceIte, Nat.reduceEqDiff, Nat.reduceAdd, Nat.reduceLT, Nat.reduceLeDiff, Nat.reduceBEq, Nat.reduceMul, Nat.reduceSub, Nat.reduceDiv, Int.reduceNeg, Int.reduceLT, Int.reduceLE, Int.reduceEq, Int.reduceToNat, h2, fillC, zc, List.replicate_succ, List.replicate_zero, List.flatten_cons, List.flatten_nil, toDs, toD, chunk, lim]
  refine aops_pure' (within46 0 5 [r.di]) rfl rfl (by first | exact wk_refls _ | (repeat constructor)) ?_
  simp only [go_sem, reduceIte, Nat.reduceEqDiff, Nat.reduceAdd, Nat.reduceLT, Nat.reduceLeDiff, Nat.reduceBEq, Nat.reduceMul, Nat.reduceSub, Nat.reduceDiv, Int.reduceNeg, Int.reduceLT, Int.reduceLE, Int.reduceEq, Int.reduceToNat, inR1]
  by_cases h3 : 0 ≤ r.di ∧ r.di ≤ 5
  case neg =>
    have e : okRoad r = 2 := by simp only [okRoad, h24, if_false]; rw [if_pos (by omega)]
    simp only [go_sem, reduceIte, Nat.reduceEqDiff, Nat.reduceAdd, Nat.reduceLT, Nat.reduceLeDiff, Nat.reduceBEq, Nat.reduceMul, Nat.reduceSub, Nat.reduceDiv, Int.reduceNeg, Int.reduceLT, Int.reduceLE, Int.reduceEq, Int.reduceToNat, h3, e]
  have e : okRoad r = if r.ps.any (badP r) then 2 else 0 := by simp only [okRoad, h24, if_false]; rw [if_neg (by omega)]
  simp only [go_sem, reduceIte, Nat.reduceEqDiff, Nat.reduceAdd, Nat.reduceLT, Nat.reduceLeDiff, Nat.reduceBEq, Nat.reduceMul, Nat.reduceSub, Nat.reduceDiv, Int.reduceNeg, Int.reduceLT, Int.reduceLE, Int.reduceEq, Int.reduceToNat, h3]
  refine aops_at (has47 r.ps 158 [.ptr 0 0] (badP r) [.cells (roadC r)] rfl rfl (fun x _ => bad45 r x h1)) rfl rfl (by first | exact wk_refls _ | (repeat constructor)) ?_
  rw [e]
  cases h4 : r.ps.any (badP r) with
  | false => simp only [go_sem, reduceIte, Nat.reduceEqDiff, Nat.reduceAdd, Nat.reduceLT, Nat.reduceLeDiff, Nat.reduceBEq, Nat.reduceMul, Nat.reduceSub, Nat.reduceDiv, Int.reduceNeg, Int.reduceLT, Int.reduceLE, Int.reduceEq, Int.reduceToNat]
  | true => simp only [go_sem, reduceIte, Nat.reduceEqDiff, Nat.reduceAdd, Nat.reduceLT, Nat.reduceLeDiff, Nat.reduceBEq, Nat.reduceMul, Nat.reduceSub, Nat.reduceDiv, Int.reduceNeg, Int.reduceLT, Int.reduceLE, Int.reduceEq, Int.reduceToNat]
set_option maxHeartbeats 4000000 in
set_option maxRecDepth 100000 in
theorem checkRoad20 (r : Rd) : Pure Tryz.prog 84 [roadV r] (I (okRoad r)) := by
  refine pure_wk (X := tx) (nt := 76) (rs := [.tmp 2]) Tryz.func84 rfl rfl rfl rfl mo (by kernel_rfl) rfl rfl (fun hf => ?_)
  simp only [go_sem, reduceIte, Nat.reduceEqDiff, Nat.reduceAdd, Nat.reduceLT, Nat.reduceLeDiff, Nat.reduceBEq, Nat.reduceMul, Nat.reduceSub, Nat.reduceDiv, Int.reduceNeg, Int.reduceLT, Int.reduceLE, Int.reduceEq, Int.reduceToNat, roadV, roadC]
  by_cases h24 : 24 < r.ps.length
  · have h : (24 : Int) < r.ps.length := by omega
    simp only [go_sem, reduceIte, Nat.reduceEqDiff, Nat.reduceAdd, Nat.reduceLT, Nat.reduceLeDiff, Nat.reduceBEq, Nat.reduceMul, Nat.reduceSub, Nat.reduceDiv, Int.reduceNeg, Int.reduceLT, Int.reduceLE, Int.reduceEq, Int.reduceToNat, h, okRoad, h24]
  have h24' : ¬ (24 : Int) < r.ps.length := by omega
  simp only [go_sem, reduceIte, Nat.reduceEqDiff, Nat.reduceAdd, Nat.reduceLT, Nat.reduceLeDiff, Nat.reduceBEq, Nat.reduceMul, Nat.reduceSub, Nat.reduceDiv, Int.reduceNeg, Int.reduceLT, Int.reduceLE, Int.reduceEq, Int.reduceToNat, h24']
  by_cases hok : r.pl < 1 ∨ 40 < r.pl ∨ r.de < 0 ∨ 2 < r.de ∨ r.di < 0 ∨ 5 < r.di
  · have e : okRoad r = 2 := by simp only [okRoad, h24, if_false]; rw [if_pos hok]
    by_cases a1 : r.pl < 1
    · simp only [go_sem, reduceIte, Nat.reduceEqDiff, Nat.reduceAdd, Nat.reduceLT, Nat.reduceLeDiff, Nat.reduceBEq, Nat.reduceMul, Nat.reduceSub, Nat.reduceDiv, Int.reduceNeg, Int.reduceLT, Int.reduceLE, Int.reduceEq, Int.reduceToNat, a1, e]
    by_cases a2 : 40 < r.pl
    · simp only [go_sem, reduceIte, Nat.reduceEqDiff, Nat.reduceAdd, Nat.reduceLT, Nat.reduceLeDiff, Nat.reduceBEq, Nat.reduceMul, Nat.reduceSub, Nat.reduceDiv, Int.reduceNeg, Int.reduceLT, Int.reduceLE, Int.reduceEq, Int.reduceToNat, a1, a2, e]
    by_cases a3 : r.de < 0
    · simp only [go_sem, reduceIte, Nat.reduceEqDiff, Nat.reduceAdd, Nat.reduceLT, Nat.reduceLeDiff, Nat.reduceBEq, Nat.reduceMul, Nat.reduceSub, Nat.reduceDiv, Int.reduceNeg, Int.reduceLT, Int.reduceLE, Int.reduceEq, Int.reduceToNat, a1, a2, a3, e]
    by_cases a4 : 2 < r.de
    · simp only [go_sem, reduceIte, Nat.reduceEqDiff, Nat.reduceAdd, Nat.reduceLT, Nat.reduceLeDiff, Nat.reduceBEq, Nat.reduceMul, Nat.reduceSub, Nat.reduceDiv, Int.reduceNeg, Int.reduceLT, Int.reduceLE, Int.reduceEq, Int.reduceToNat, a1, a2, a3, a4, e]
    by_cases a5 : r.di < 0
    · simp only [go_sem, reduceIte, Nat.reduceEqDiff, Nat.reduceAdd, Nat.reduceLT, Nat.reduceLeDiff, Nat.reduceBEq, Nat.reduceMul, Nat.reduceSub, Nat.reduceDiv, Int.reduceNeg, Int.reduceLT, Int.reduceLE, Int.reduceEq, Int.reduceToNat, a1, a2, a3, a4, a5, e]
    have a6 : 5 < r.di := by omega
    simp only [go_sem, reduceIte, Nat.reduceEqDiff, Nat.reduceAdd, Nat.reduceLT, Nat.reduceLeDiff, Nat.reduceBEq, Nat.reduceMul, Nat.reduceSub, Nat.reduceDiv, Int.reduceNeg, Int.reduceLT, Int.reduceLE, Int.reduceEq, Int.reduceToNat, a1, a2, a3, a4, a5, a6, e]
  have e : okRoad r = if r.ps.any (badP r) then 2 else 0 := by simp only [okRoad, h24, if_false]; rw [if_neg hok]
  rw [e]
  have a1 : ¬ r.pl < 1 := by omega
  have a2 : ¬ 40 < r.pl := by omega
  have a3 : ¬ r.de < 0 := by omega
  have a4 : ¬ 2 < r.de := by omega
  have a5 : ¬ r.di < 0 := by omega
  have a6 : ¬ 5 < r.di := by omega
  simp only [go_sem, reduceIte, Nat.reduceEqDiff, Nat.reduceAdd, Nat.reduceLT, Nat.reduceLeDiff, Nat.reduceBEq, Nat.reduceMul, Nat.reduceSub, Nat.reduceDiv, Int.reduceNeg, Int.reduceLT, Int.reduceLE, Int.reduceEq, Int.reduceToNat, a1, a2, a3, a4, a5, a6]
  refine go_loop (fun i : Nat => { slots := [(1, .c (.ptr 0 0)), (3, I i)], heap := [.cells (roadC r)], marks := [] }) (fun i => i ≤ r.ps.length ∧ ∀ j x, j < i → r.ps[j]? = some x → badP r x = false) (fun i => r.ps.length - i) 0 mo (by kernel_rfl) ?_ ⟨Nat.zero_le _, by intro j r h; omega⟩ ?_
  · refine ent_weaken [] rfl rfl (Nat.zero_le _) rfl rfl ?_
    simp only [go_sem, reduceIte, Nat.reduceEqDiff, Nat.reduceAdd, Nat.reduceLT, Nat.reduceLeDiff, Nat.reduceBEq, Nat.reduceMul, Nat.reduceSub, Nat.reduceDiv, Int.reduceNeg, Int.reduceLT, Int.reduceLE, Int.reduceEq, Int.reduceToNat, roadC]
    all_goals first | exact .refl _ | exact ⟨.refl _, .refl _⟩ | exact ⟨.refl _, .refl _, .refl _⟩ | exact ⟨.refl _, _, rfl⟩ | exact ⟨_, rfl⟩ | exact ⟨.refl _, [], by simp⟩ | exact ⟨[], by simp⟩
  rintro i ⟨hi, hall⟩
  simp only [go_sem, reduceIte, Nat.reduceEqDiff, Nat.reduceAdd, Nat.reduceLT, Nat.reduceLeDiff, Nat.reduceBEq, Nat.reduceMul, Nat.reduceSub, Nat.reduceDiv, Int.reduceNeg, Int.reduceLT, Int.reduceLE, Int.reduceEq, Int.reduceToNat, roadC]
  refine go_if (fun h => ?_) (fun h => ?_)
  · have hlt : i < r.ps.length := by simpa using h
    obtain ⟨p, hx⟩ := get_of_lt hlt
    simp only [go_sem, reduceIte, Nat.reduceEqDiff, Nat.reduceAdd, Nat.reduceLT, Nat.reduceLeDiff, Nat.reduceBEq, Nat.reduceMul, Nat.reduceSub, Nat.reduceDiv, Int.reduceNeg, Int.reduceLT, Int.reduceLE, Int.reduceEq, Int.reduceToNat, hx, pD]
    refine ⟨by simp [hlt], ?_⟩
    by_cases hb : badP r p = true
    · have e2 : r.ps.any (badP r) = true := any_of_get hx hb
      have hb' := hb
      simp only [badP, decide_eq_true_eq] at hb'
      by_cases b1 : p.fr < 0
      · simp only [go_sem, reduceIte, Nat.reduceEqDiff, Nat.reduceAdd, Nat.reduceLT, Nat.reduceLeDiff, Nat.reduceBEq, Nat.reduceMul, Nat.reduceSub, Nat.reduceDiv, Int.reduceNeg, Int.reduceLT, Int.reduceLE, Int.reduceEq, Int.reduceToNat, b1, e2]
      by_cases b2 : p.to < p.fr
      · simp only [go_sem, reduceIte, Nat.reduceEqDiff, Nat.reduceAdd, Nat.reduceLT, Nat.reduceLeDiff, Nat.reduceBEq, Nat.reduceMul, Nat.reduceSub, Nat.reduceDiv, Int.reduceNeg, Int.reduceLT, Int.reduceLE, Int.reduceEq, Int.reduceToNat, b1, b2, e2]
      by_cases b3 : r.pl ≤ p.to
      · simp only [go_sem, reduceIte, Nat.reduceEqDiff, Nat.reduceAdd, Nat.reduceLT, Nat.reduceLeDiff, Nat.reduceBEq, Nat.reduceMul, Nat.reduceSub, Nat.reduceDiv, Int.reduceNeg, Int.reduceLT, Int.reduceLE, Int.reduceEq, Int.reduceToNat, b1, b2, b3, e2]
      by_cases b4 : p.co < 0
      · simp only [go_sem, reduceIte, Nat.reduceEqDiff, Nat.reduceAdd, Nat.reduceLT, Nat.reduceLeDiff, Nat.reduceBEq, Nat.reduceMul, Nat.reduceSub, Nat.reduceDiv, Int.reduceNeg, Int.reduceLT, Int.reduceLE, Int.reduceEq, Int.reduceToNat, b1, b2, b3, b4, e2]
      have b5 : 1000000 < p.co := by omega
      simp only [go_sem, reduceIte, Nat.reduceEqDiff, Nat.reduceAdd, Nat.reduceLT, Nat.reduceLeDiff, Nat.reduceBEq, Nat.reduceMul, Nat.reduceSub, Nat.reduceDiv, Int.reduceNeg, Int.reduceLT, Int.reduceLE, Int.reduceEq, Int.reduceToNat, b1, b2, b3, b4, b5, e2]
    · have hb' := hb
      simp only [badP, decide_eq_true_eq] at hb'
      have b1 : ¬ p.fr < 0 := by omega
      have b2 : ¬ p.to < p.fr := by omega
      have b3 : ¬ r.pl ≤ p.to := by omega
      have b4 : ¬ p.co < 0 := by omega
      have b5 : ¬ 1000000 < p.co := by omega
      simp only [go_sem, reduceIte, Nat.reduceEqDiff, Nat.reduceAdd, Nat.reduceLT, Nat.reduceLeDiff, Nat.reduceBEq, Nat.reduceMul, Nat.reduceSub, Nat.reduceDiv, Int.reduceNeg, Int.reduceLT, Int.reduceLE, Int.reduceEq, Int.reduceToNat, b1, b2, b3, b4, b5, wr_succ (show i < 25 by omega) (by omega)]
      refine ⟨i + 1, ⟨hlt, upto_succ hall hx (by simpa using hb)⟩, by omega, ?_⟩
      refine ent_weaken [.cells (pC p)] rfl rfl (Nat.zero_le _) rfl rfl ?_
      simp only [go_sem, reduceIte, Nat.reduceEqDiff, Nat.reduceAdd, Nat.reduceLT, Nat.reduceLeDiff, Nat.reduceBEq, Nat.reduceMul, Nat.reduceSub, Nat.reduceDiv, Int.reduceNeg, Int.reduceLT, Int.reduceLE, Int.reduceEq, Int.reduceToNat]
  · have hi' : i = r.ps.length := by simp at h; omega
    have e2 : r.ps.any (badP r) = false := any_none (fun j x hj hx => hall j x (by omega) hx)
    simp only [go_sem, reduceIte, Nat.reduceEqDiff, Nat.reduceAdd, Nat.reduceLT, Nat.reduceLeDiff, Nat.reduceBEq, Nat.reduceMul, Nat.reduceSub, Nat.reduceDiv, Int.reduceNeg, Int.reduceLT, Int.reduceLE, Int.reduceEq, Int.reduceToNat, e2]
end Go.Proofs.YtfgdbeijjbijnaaGreatDoor

/- Lists: rising, ints, in, Lights, sums, the least and the greatest one. -/
set_option linter.unusedSimpArgs false
set_option linter.unusedVariables false
set_option maxRecDepth 100000
namespace Go.Proofs.YtfgdbeijjbijnaaGreatDoor
open Go Go.Abs Go.Proofs

theorem upto_succI {α : Type} {l : List α} {P : Nat → α → Prop} {i : Nat} {x : α} (h : ∀ (j : Nat) y, j < i → l[j]? = some y → P j y) (hx : l[i]? = some x) (hp : P i x) : ∀ (j : Nat) y, j < i + 1 → l[j]? = some y → P j y := fun j y hj hy => by
  rcases Nat.lt_succ_iff_lt_or_eq.1 hj with h1 | h1
  · exact h j y h1 hy
  · subst h1; rw [hx] at hy; cases hy; exact hp
/-- Strictly increasing, from a number on, below another one. -/
def risesB : List Int → Int → Int → Bool
  | [], _, _ => true
  | x :: l, last, n => decide (last < x ∧ x < n) && risesB l x n
def rises (l : List Int) (n : Int) : Bool := risesB l (-1) n
/-- The element before a place. -/
def prev (l : List Int) (i : Nat) : Int := if i = 0 then -1 else (l[i - 1]?).getD 0
theorem rises_bad : ∀ {l : List Int} {last n : Int} {i : Nat} {x : Int}, l[i]? = some x → ¬ ((if i = 0 then last else (l[i - 1]?).getD 0) < x ∧ x < n) → risesB l last n = false
  | y :: l, last, n, 0, x, h, hb => by simp at h; subst h; simp only [if_true] at hb; simp only [risesB, decide_eq_false hb, Bool.false_and]
  | y :: l, last, n, i + 1, x, h, hb => by
    have : risesB l y n = false := by
      refine rises_bad (i := i) (x := x) (by simpa using h) (fun h2 => hb ?_)
      cases i with
      | zero => simpa using h2
      | succ i => simpa using h2
    simp [risesB, this]
theorem rises_all : ∀ {l : List Int} {last n : Int}, (∀ (i : Nat) x, i < l.length → l[i]? = some x → (if i = 0 then last else (l[i - 1]?).getD 0) < x ∧ x < n) → risesB l last n = true
  | [], _, _, _ => rfl
  | y :: l, last, n, h => by
    have h0 := h 0 y (by simp) rfl
    simp only [if_true] at h0
    simp only [risesB, decide_eq_true h0, Bool.true_and]
    refine rises_all (fun i x hi hx => ?_)
    have := h (i + 1) x (by simpa using hi) (by simpa using hx)
    cases i with
    | zero => simpa using this
    | succ i => simpa using this
theorem prev_succ {l : List Int} {i : Nat} {x : Int} (h : l[i]? = some x) : prev l (i + 1) = x := by simp [prev, h]

theorem prev_eq {l : List Int} {i : Nat} (h : 0 < i) : prev l i = (l[i - 1]?).getD 0 := by simp [prev]; omega
theorem wr_pred {i n : Nat} (h : i < n) (h0 : 0 < i) (hn : n ≤ 140737488355328) : wr .i64 ((i : Int) - 1) = ((i - 1 : Nat) : Int) := by rw [wr_i64] <;> omega
set_option maxHeartbeats 1000000 in
theorem rising49 (l : List Int) (n : Int) : Pure Tryz.prog 167 [ints l, I n] (B (rises l n)) := by
  refine pure_wk (X := tx) (nt := 41) (rs := [.tmp 4]) Tryz.func167 rfl rfl rfl rfl mo (by kernel_rfl) rfl rfl (fun hf => ?_)
  have hfit := fit_ints (hf (ints l) (by simp))
  simp only [go_sem, reduceIte, Nat.reduceEqDiff, Nat.reduceAdd, Nat.reduceLT, Nat.reduceLeDiff, Nat.reduceBEq, Nat.reduceMul, Nat.reduceSub, Nat.reduceDiv, Int.reduceNeg, Int.reduceLT, Int.reduceLE, Int.reduceEq, Int.reduceToNat, ints]
  refine go_loop (fun i : Nat => { slots := [(0, ints l), (1, I n), (5, I i)], heap := [], marks := [] }) (fun i => i ≤ l.length ∧ ∀ j x, j < i → l[j]? = some x → prev l j < x ∧ x < n) (fun i => l.length - i) 0 mo (by kernel_rfl) ?_ ⟨Nat.zero_le _, by intro j r h; omega⟩ ?_
  · refine ent_weaken [] rfl rfl (Nat.zero_le _) rfl rfl ?_
    simp only [go_sem, reduceIte, Nat.reduceEqDiff, Nat.reduceAdd, Nat.reduceLT, Nat.reduceLeDiff, Nat.reduceBEq, Nat.reduceMul, Nat.reduceSub, Nat.reduceDiv, Int.reduceNeg, Int.reduceLT, Int.reduceLE, Int.reduceEq, Int.reduceToNat, ints]
    all_goals first | exact .refl _ | exact ⟨.refl _, .refl _⟩ | exact ⟨.refl _, .refl _, .refl _⟩ | exact ⟨.refl _, _, rfl⟩ | exact ⟨_, rfl⟩ | exact ⟨.refl _, [], by simp⟩ | exact ⟨[], by simp⟩
  rintro i ⟨hi, hall⟩
  simp only [go_sem, reduceIte, Nat.reduceEqDiff, Nat.reduceAdd, Nat.reduceLT, Nat.reduceLeDiff, Nat.reduceBEq, Nat.reduceMul, Nat.reduceSub, Nat.reduceDiv, Int.reduceNeg, Int.reduceLT, Int.reduceLE, Int.reduceEq, Int.reduceToNat, ints]
  refine go_if (fun h => ?_) (fun h => ?_)
  · have hlt : i < l.length := by simpa using h
    obtain ⟨x, hx⟩ := get_of_lt hlt
    by_cases h1 : x < 0
    · have e : rises l n = false := rises_bad hx (fun h2 => by
        have hp : -1 ≤ prev l i := by
          by_cases h0 : i = 0
          · simp [prev, h0]
          · obtain ⟨y, hy⟩ := get_of_lt (l := l) (i := i - 1) (by omega)
            have h3 := hall (i - 1) y (by omega) hy
            rw [prev_eq (by omega), hy]
            have h4 : ∀ k, k ≤ i - 1 → -1 ≤ prev l k := fun k => by
              induction k with
              | zero => intro _; simp [prev]
              | succ k ih =>
                intro hk
                obtain ⟨z, hz⟩ := get_of_lt (l := l) (i := k) (by omega)
                have := hall k z (by omega) hz
                have := ih (by omega)
                rw [prev_succ hz]; omega
            have := h4 (i - 1) (Nat.le_refl _)
            simp; omega
        have := h2.1
        unfold prev at hp
        omega)
      simp only [go_sem, reduceIte, Nat.reduceEqDiff, Nat.reduceAdd, Nat.reduceLT, Nat.reduceLeDiff, Nat.reduceBEq, Nat.reduceMul, Nat.reduceSub, Nat.reduceDiv, Int.reduceNeg, Int.reduceLT, Int.reduceLE, Int.reduceEq, Int.reduceToNat, hx, iD, h1, e]
      simp [hlt]
    by_cases h2 : n ≤ x
    · have e : rises l n = false := rises_bad hx (fun h3 => absurd h3.2 (by omega))
      simp only [go_sem, reduceIte, Nat.reduceEqDiff, Nat.reduceAdd, Nat.reduceLT, Nat.reduceLeDiff, Nat.reduceBEq, Nat.reduceMul, Nat.reduceSub, Nat.reduceDiv, Int.reduceNeg, Int.reduceLT, Int.reduceLE, Int.reduceEq, Int.reduceToNat, hx, iD, h1, h2, e]
      simp [hlt]
    by_cases h0 : i = 0
    · subst h0
      have z0 : ((0 : Nat) : Int) = 0 := rfl
      simp only [go_sem, reduceIte, Nat.reduceEqDiff, Nat.reduceAdd, Nat.reduceLT, Nat.reduceLeDiff, Nat.reduceBEq, Nat.reduceMul, Nat.reduceSub, Nat.reduceDiv, Int.reduceNeg, Int.reduceLT, Int.reduceLE, Int.reduceEq, Int.reduceToNat, hx, iD, h1, h2, wr_succ hlt hfit, z0, Int.lt_irrefl]
      refine ⟨by simp [hlt], by simp [hlt], 1, ⟨hlt, upto_succI (P := fun j x => prev l j < x ∧ x < n) hall hx ⟨by simp [prev]; omega, by omega⟩⟩, by omega, ?_⟩
      refine ent_weaken [] rfl rfl (Nat.zero_le _) rfl rfl ?_
      simp only [go_sem, reduceIte, Nat.reduceEqDiff, Nat.reduceAdd, Nat.reduceLT, Nat.reduceLeDiff, Nat.reduceBEq, Nat.reduceMul, Nat.reduceSub, Nat.reduceDiv, Int.reduceNeg, Int.reduceLT, Int.reduceLE, Int.reduceEq, Int.reduceToNat]
      rw [show wr .i64 (0 + 1) = ((1 : Nat) : Int) from rfl]
      all_goals first | exact .refl _ | exact ⟨.refl _, .refl _⟩ | exact ⟨.refl _, .refl _, .refl _⟩ | exact ⟨.refl _, _, rfl⟩ | exact ⟨_, rfl⟩ | exact ⟨.refl _, [], by simp⟩ | exact ⟨[], by simp⟩
    · obtain ⟨y, hy⟩ := get_of_lt (l := l) (i := i - 1) (by omega)
      have hpos : (0 : Int) < (i : Int) := by omega
      have hpy : prev l i = y := by rw [prev_eq (by omega), hy]; rfl
      have hi1 : i - 1 < l.length := by omega
      by_cases h3 : x ≤ y
      · have e : rises l n = false := rises_bad hx (fun h4 => by
          have := h4.1
          rw [if_neg h0, hy] at this
          simp at this; omega)
        simp only [go_sem, reduceIte, Nat.reduceEqDiff, Nat.reduceAdd, Nat.reduceLT, Nat.reduceLeDiff, Nat.reduceBEq, Nat.reduceMul, Nat.reduceSub, Nat.reduceDiv, Int.reduceNeg, Int.reduceLT, Int.reduceLE, Int.reduceEq, Int.reduceToNat, hx, hy, iD, h1, h2, h3, hpos, wr_pred hlt (by omega) hfit, e]
        simp [hlt, hi1]
      · simp only [go_sem, reduceIte, Nat.reduceEqDiff, Nat.reduceAdd, Nat.reduceLT, Nat.reduceLeDiff, Nat.reduceBEq, Nat.reduceMul, Nat.reduceSub, Nat.reduceDiv, Int.reduceNeg, Int.reduceLT, Int.reduceLE, Int.reduceEq, Int.reduceToNat, hx, hy, iD, h1, h2, h3, hpos, wr_pred hlt (by omega) hfit, wr_succ hlt hfit]
        refine ⟨by simp [hlt], by simp [hlt], by simp [hlt], by simp [hi1], i + 1, ⟨hlt, upto_succI (P := fun j x => prev l j < x ∧ x < n) hall hx ⟨by omega, by omega⟩⟩, by omega, ?_⟩
        refine ent_weaken [] rfl rfl (Nat.zero_le _) rfl rfl ?_
        simp only [go_sem, reduceIte, Nat.reduceEqDiff, Nat.reduceAdd, Nat.reduceLT, Nat.reduceLeDiff, Nat.reduceBEq, Nat.reduceMul, Nat.reduceSub, Nat.reduceDiv, Int.reduceNeg, Int.reduceLT, Int.reduceLE, Int.reduceEq, Int.reduceToNat]
  · have hi' : i = l.length := by simp at h; omega
    have e : rises l n = true := rises_all (fun j x hj hx => hall j x (by omega) hx)
    simp only [go_sem, reduceIte, Nat.reduceEqDiff, Nat.reduceAdd, Nat.reduceLT, Nat.reduceLeDiff, Nat.reduceBEq, Nat.reduceMul, Nat.reduceSub, Nat.reduceDiv, Int.reduceNeg, Int.reduceLT, Int.reduceLE, Int.reduceEq, Int.reduceToNat, e]

/-- A post of a street, by its number. -/
def po (r : Rd) (i : Int) : Po := (r.ps[i.toNat]?).getD ⟨0, 0, 0⟩
/-- A post lights a place. -/
def litB (r : Rd) (p : Po) (k : Int) : Bool := decide (p.fr + r.di ≤ k ∧ k ≤ p.to - r.di)
/-- A valid street. -/
structure OkR (r : Rd) : Prop where
  len : r.ps.length ≤ 24
  p1 : 1 ≤ r.pl
  p40 : r.pl ≤ 40
  d0 : 0 ≤ r.de
  d2 : r.de ≤ 2
  i0 : 0 ≤ r.di
  i5 : r.di ≤ 5
  ok : ∀ p ∈ r.ps, 0 ≤ p.fr ∧ p.fr ≤ p.to ∧ p.to < r.pl ∧ 0 ≤ p.co ∧ p.co ≤ 1000000
set_option maxHeartbeats 1000000 in
theorem lights51 (r : Rd) (i k : Int) (hr : OkR r) (h0 : 0 ≤ i) (hi : i < r.ps.length) : Pure Tryz.prog 230 [roadV r, I i, I k] (B (litB r (po r i) k)) := by
  refine pure_wk (X := tx) (nt := 31) (rs := [.tmp 6]) Tryz.func230 rfl rfl rfl rfl mo (by kernel_rfl) rfl rfl (fun hf => ?_)
  obtain ⟨p, hp⟩ := get_of_lt (l := r.ps) (i := i.toNat) (by omega)
  have hpo : po r i = p := by simp [po, hp]
  obtain ⟨q0, q1, q2, q3, q4⟩ := hr.ok p (List.mem_of_getElem? hp)
  have := hr.p40
  have := hr.i0
  have := hr.i5
  have w1 : wr .i64 (p.fr + r.di) = p.fr + r.di := by rw [wr_i64] <;> omega
  have w2 : wr .i64 (p.to - r.di) = p.to - r.di := by rw [wr_i64] <;> omega
  rw [hpo]
  have hc : decide (0 ≤ i) = true := by simpa using h0
  have hd : decide (i < r.ps.length) = true := by simpa using hi
  by_cases h1 : p.fr + r.di ≤ k
  · have e : litB r p k = decide (k ≤ p.to - r.di) := by simp [litB, h1]
    simp only [go_sem, reduceIte, Nat.reduceEqDiff, Nat.reduceAdd, Nat.reduceLT, Nat.reduceLeDiff, Nat.reduceBEq, Nat.reduceMul, Nat.reduceSub, Nat.reduceDiv, Int.reduceNeg, Int.reduceLT, Int.reduceLE, Int.reduceEq, Int.reduceToNat, roadV, roadC, hp, pD, w1, w2, h1, hc, hd, e]
  · have e : litB r p k = false := by simp [litB, h1]
    simp only [go_sem, reduceIte, Nat.reduceEqDiff, Nat.reduceAdd, Nat.reduceLT, Nat.reduceLeDiff, Nat.reduceBEq, Nat.reduceMul, Nat.reduceSub, Nat.reduceDiv, Int.reduceNeg, Int.reduceLT, Int.reduceLE, Int.reduceEq, Int.reduceToNat, roadV, roadC, hp, pD, w1, w2, h1, hc, hd, e]
end Go.Proofs.YtfgdbeijjbijnaaGreatDoor

/- The street with its posts, read: reach, lights, lit, cost; open. -/
set_option linter.unusedSimpArgs false
set_option linter.unusedVariables false
set_option maxRecDepth 100000
namespace Go.Proofs.YtfgdbeijjbijnaaGreatDoor
open Go Go.Abs Go.Proofs
def kp88 : List (Nat × List Nat) := [(0, [0, 1]), (1, [4, 5])]
theorem lk88 : lookK kp88 0 = some [0, 1] ∧ lookK kp88 1 = some [4, 5] := ⟨rfl, rfl⟩
def kp74 : List (Nat × List Nat) := [(0, [0]), (1, [0, 3]), (2, [0, 3, 10, 11, 12]), (3, [0, 3, 10, 11, 12, 13]), (4, [0, 3, 4, 5, 10, 11, 12]), (5, [0, 3, 10, 11, 12]), (6, [0, 3, 10, 11, 12]), (7, [2])]
theorem lk74 : lookK kp74 0 = some [0] ∧ lookK kp74 1 = some [0, 3] ∧ lookK kp74 2 = some [0, 3, 10, 11, 12] ∧ lookK kp74 3 = some [0, 3, 10, 11, 12, 13] ∧ lookK kp74 4 = some [0, 3, 4, 5, 10, 11, 12] ∧ lookK kp74 5 = some [0, 3, 10, 11, 12] ∧ lookK kp74 6 = some [0, 3, 10, 11, 12] ∧ lookK kp74 7 = some [2] := ⟨rfl, rfl, rfl, rfl, rfl, rfl, rfl, rfl⟩

theorem wr_id {x : Int} (h1 : -9223372036854775808 ≤ x) (h2 : x ≤ 9223372036854775807) : wr .i64 x = x := by rw [wr_i64] <;> omega
theorem OkR.post {r : Rd} (h : OkR r) {i : Int} (h0 : 0 ≤ i) (hi : i < r.ps.length) : r.ps[i.toNat]? = some (po r i) ∧ 0 ≤ (po r i).fr ∧ (po r i).fr ≤ (po r i).to ∧ (po r i).to < r.pl ∧ 0 ≤ (po r i).co ∧ (po r i).co ≤ 1000000 := by
  obtain ⟨p, hp⟩ := get_of_lt (l := r.ps) (i := i.toNat) (by omega)
  have hpo : po r i = p := by simp [po, hp]
  rw [hpo]
  exact ⟨hp, h.ok p (List.mem_of_getElem? hp)⟩
theorem okRoad_ok {r : Rd} (h : okRoad r = 0) : OkR r := by
  unfold okRoad at h
  split at h
  · simp at h
  split at h
  · simp at h
  split at h
  · simp at h
  rename_i h1 h2 h3
  refine ⟨by omega, by omega, by omega, by omega, by omega, by omega, by omega, fun p hp => ?_⟩
  have := List.any_eq_false.1 (by simpa using h3) p hp
  simp [badP] at this
  omega
theorem OkR.zero {r : Rd} (h : OkR r) : okRoad r = 0 := by
  have := h.len; have := h.p1; have := h.p40; have := h.d0; have := h.d2; have := h.i0; have := h.i5
  unfold okRoad
  rw [if_neg (by omega), if_neg (by omega), if_neg]
  rw [Bool.not_eq_true, List.any_eq_false]
  intro p hp
  have := h.ok p hp
  simp [badP]; omega

def rFrom (r : Rd) (i : Int) : Int := (po r i).fr + r.di
def rTo (r : Rd) (i : Int) : Int := (po r i).to - r.di + 1
/-- By how many of the first posts a place is lit. -/
def litP (r : Rd) (st : Nat → Int) : Nat → Int → Int
  | 0, _ => 0
  | m + 1, k => litP r st m k + if litB r (po r m) k then st m else 0
def litL (r : Rd) (st : Nat → Int) : List Int := (List.range r.pl.toNat).map fun k : Nat => litP r st r.ps.length (k : Int)
theorem litP_bound {r : Rd} {st : Nat → Int} (h : ∀ i, 0 ≤ st i ∧ st i ≤ 1) (k : Int) : ∀ m : Nat, 0 ≤ litP r st m k ∧ litP r st m k ≤ m
  | 0 => by simp [litP]
  | m + 1 => by
    have := litP_bound (r := r) h k m
    have := h m
    simp only [litP]
    split <;> omega
theorem chunk_nums (n : Nat) (f : Nat → Int) : chunk 1 n (numsD n f) = (List.range n).map (fun k => iD (f k)) := by
  refine List.ext_getElem? fun i => ?_
  by_cases h : i < n
  · rw [chunk_get 1 n _ i h, Nat.mul_one]
    have hlt : i < (numsD n f).length := by rw [numsD_len]; exact h
    rw [List.drop_eq_getElem_cons hlt]
    have e : (numsD n f)[i]? = some (numsD n f)[i] := List.getElem?_eq_getElem hlt
    rw [numsD_get f h] at e
    rw [← Option.some.inj e]
    simp [h, iD]
  · rw [List.getElem?_eq_none (by rw [chunk_length]; omega), List.getElem?_eq_none (by simp; omega)]
def numsC (n : Nat) (f : Nat → Int) : List C := (numsD n f).map .d
theorem numsC_low (m n : Nat) (f : Nat → Int) : C.lowL m (numsC n f) = true := lowL_d _ _
theorem numsC_set (n : Nat) (f : Nat → Int) (m : Nat) (v : Int) : (numsC n f).set m (.d (.int .i64 v)) = numsC n (upd f m v) := by
  rw [numsC, numsC, ← List.map_set, numsD_set]
theorem zc_nums (n : Nat) : zc [C.d (.int .i64 0)] n = numsC n (fun _ => 0) := by
  rw [zc_one]
  refine List.ext_getElem? fun j => ?_
  by_cases h : j < n
  · simp [numsC, numsD, h, List.getElem?_replicate]
  · rw [List.getElem?_eq_none (by simp; omega), List.getElem?_eq_none (by simp [numsC, numsD]; omega)]
theorem numsC_get {n : Nat} (f : Nat → Int) {j : Nat} (h : j < n) : (numsC n f)[j]? = some (.d (.int .i64 (f j))) := by rw [numsC, List.getElem?_map, numsD_get _ h]; rfl
theorem numsC_len (n : Nat) (f : Nat → Int) : (numsC n f).length = n := by simp [numsC, numsD]

/-- What the posts that stand cost. -/
def costP (r : Rd) (st : Nat → Int) : Nat → Int
  | 0 => 0
  | m + 1 => costP r st m + (po r m).co * st m
theorem costP_bound {r : Rd} {st : Nat → Int} (hr : OkR r) (h : ∀ i, 0 ≤ st i ∧ st i ≤ 1) : ∀ m : Nat, m ≤ r.ps.length → 0 ≤ costP r st m ∧ costP r st m ≤ 1000000 * m
  | 0, _ => by simp [costP]
  | m + 1, hm => by
    have ih := costP_bound hr h m (by omega)
    obtain ⟨_, _, _, _, q3, q4⟩ := hr.post (i := (m : Int)) (by omega) (by omega)
    have hb := h m
    have : st m = 0 ∨ st m = 1 := by omega
    simp only [costP]
    rcases this with e | e <;> rw [e] <;> omega
end Go.Proofs.YtfgdbeijjbijnaaGreatDoor

/- The steps of a street, one after another. -/
set_option linter.unusedSimpArgs false
set_option linter.unusedVariables false
set_option maxRecDepth 100000
namespace Go.Proofs.YtfgdbeijjbijnaaGreatDoor
open Go Go.Abs Go.Proofs
def kp312 : List (Nat × List Nat) := [(0, [0, 1, 13, 14]), (1, [0, 1, 13, 14, 15]), (2, [0, 1, 3, 13, 14]), (3, [0, 1, 13, 14, 41]), (4, [0, 1, 13, 14]), (5, [0, 1, 47, 48, 49]), (6, [0, 1, 47, 48, 49, 50]), (7, [0, 1, 4, 5, 47, 48, 49]), (8, [0, 1, 4, 5, 6, 7, 47, 48, 49]), (9, [0, 1, 4, 5, 6, 7, 8, 47, 48, 49]), (10, [0, 1, 4, 5, 6, 7, 8, 47, 48, 49, 72]), (11, [0, 1, 6, 7, 8, 47, 48, 49]), (12, [0, 1, 47, 48, 49, 88]), (13, [0, 1, 47, 48, 49])]
theorem lk312 : lookK kp312 0 = some [0, 1, 13, 14] ∧ lookK kp312 1 = some [0, 1, 13, 14, 15] ∧ lookK kp312 2 = some [0, 1, 3, 13, 14] ∧ lookK kp312 3 = some [0, 1, 13, 14, 41] ∧ lookK kp312 4 = some [0, 1, 13, 14] ∧ lookK kp312 5 = some [0, 1, 47, 48, 49] ∧ lookK kp312 6 = some [0, 1, 47, 48, 49, 50] ∧ lookK kp312 7 = some [0, 1, 4, 5, 47, 48, 49] ∧ lookK kp312 8 = some [0, 1, 4, 5, 6, 7, 47, 48, 49] ∧ lookK kp312 9 = some [0, 1, 4, 5, 6, 7, 8, 47, 48, 49] ∧ lookK kp312 10 = some [0, 1, 4, 5, 6, 7, 8, 47, 48, 49, 72] ∧ lookK kp312 11 = some [0, 1, 6, 7, 8, 47, 48, 49] ∧ lookK kp312 12 = some [0, 1, 47, 48, 49, 88] ∧ lookK kp312 13 = some [0, 1, 47, 48, 49] := ⟨rfl, rfl, rfl, rfl, rfl, rfl, rfl, rfl, rfl, rfl, rfl, rfl, rfl, rfl⟩

structure Stp where
  fr : Int
  to : Int
  co : Int
  po : Int
def sC (s : Stp) : List C := [.d (.int .i64 s.fr), .d (.int .i64 s.to), .d (.int .i64 s.co), .d (.int .i64 s.po)]
def sV (s : Stp) : V := .agg (sC s)
/-- Back over a place, and on again. -/
def backL (bk : Nat → Int) (k : Nat) : List Stp := ⟨(k : Int) + 1, k, 0, -1⟩ :: (if 0 < bk k then [⟨k, (k : Int) + 1, 0, -1⟩] else [])
def postS (r : Rd) (st : Nat → Int) (i : Nat) : Stp := if st i = 1 then ⟨rTo r i, rFrom r i, -(po r i).co, i⟩ else ⟨rFrom r i, rTo r i, (po r i).co, i⟩
def postL (r : Rd) (st : Nat → Int) (i : Nat) : List Stp := if rFrom r i < rTo r i then [postS r st i] else []
def stepsL (r : Rd) (st bk : Nat → Int) : List Stp := (List.range r.pl.toNat).flatMap (backL bk) ++ (List.range r.ps.length).flatMap (postL r st)
theorem flat_split {α : Type} (f : Nat → List α) {k n : Nat} (h : k < n) : ∃ suf, (List.range n).flatMap f = (List.range k).flatMap f ++ (f k ++ suf) := by
  induction n with
  | zero => omega
  | succ n ih =>
    rw [List.range_succ, List.flatMap_append]
    by_cases e : k = n
    · subst e; exact ⟨[], by simp⟩
    · obtain ⟨suf, hs⟩ := ih (by omega)
      exact ⟨suf ++ f n, by rw [hs]; simp⟩
theorem flat_succ {α : Type} (f : Nat → List α) (k : Nat) : (List.range (k + 1)).flatMap f = (List.range k).flatMap f ++ f k := by
  rw [List.range_succ, List.flatMap_append]; simp

/-- What it costs to come to the ends, and by which step. -/
structure FS where
  far : Nat → Int
  by' : List (Int × Stp)
def fnd (k : Int) : List (Int × Stp) → Nat → Option (Nat × Stp)
  | [], _ => none
  | e :: es, i => if k = e.1 then some (i, e.2) else fnd k es (i + 1)
def updB (k : Int) (s : Stp) (es : List (Int × Stp)) : List (Int × Stp) := match fnd k es 0 with
  | some (i, _) => es.set i (k, s)
  | none => es ++ [(k, s)]
def delB (k : Int) (es : List (Int × Stp)) : List (Int × Stp) := match fnd k es 0 with
  | some (i, _) => es.eraseIdx i
  | none => es
def byE (es : List (Int × Stp)) : List (V × V) := es.map fun e => (I e.1, sV e.2)
theorem findE_by (k : Int) : ∀ (es : List (Int × Stp)) (i : Nat), findE (I k) (byE es) i = some ((fnd k es i).map fun p => (p.1, sV p.2))
  | [], i => rfl
  | e :: es, i => by
    have ih := findE_by k es (i + 1)
    simp only [byE, List.map_cons, findE, I, keyEq, if_true] at ih ⊢
    by_cases h : k = e.1
    · simp [h, fnd]
    · simp only [h, decide_false, fnd, if_false]; exact ih
theorem updE_by (k : Int) (s : Stp) (es : List (Int × Stp)) : updE (I k) (sV s) (byE es) ((fnd k es 0).map fun p => (p.1, sV p.2)) = byE (updB k s es) := by
  unfold updB
  cases h : fnd k es 0 with
  | none => simp [updE, byE]
  | some p => simp [updE, byE, List.map_set]
theorem erase_map {α β : Type} (f : α → β) : ∀ (l : List α) (i : Nat), (l.map f).eraseIdx i = (l.eraseIdx i).map f
  | [], _ => rfl
  | _ :: _, 0 => rfl
  | a :: l, i + 1 => by simp [erase_map f l i]
def never : Int := 1125899906842624
def relax (q : FS) (s : Stp) : FS :=
  if q.far s.fr.toNat = never then q else
  ⟨upd q.far s.to.toNat (min (q.far s.to.toNat) (wr .i64 (q.far s.fr.toNat + s.co))),
   if min (q.far s.to.toNat) (wr .i64 (q.far s.fr.toNat + s.co)) < q.far s.to.toNat then updB s.to s q.by' else q.by'⟩
def roundF (l : List Stp) (q : FS) : FS := l.foldl relax q
theorem roundF_app (a b : List Stp) (q : FS) : roundF (a ++ b) q = roundF b (roundF a q) := List.foldl_append ..

def noneD : List D := [.int .i64 0, .int .i64 0, .int .i64 0, .int .i64 (-2)]
def slF : List (Nat × V) := [(0, .c (.ptr 3 0)), (2, .c (.ptr 6 0)), (4, .c (.ptr 7 0)), (6, .c (.ptr 9 0)), (7, .c (.ptr 10 0)), (20, .c (.fn (.func 312) [.ptr 11 0]))]
structure FP where
  r : Rd
  st : Nat → Int
  bk : Nat → Int
  z : Nat → Int
  f5 : Nat → Int
  bf : Nat → Int
  A : Code
  Bd : Code
def HF (p : FP) (q : FS) (sta : LoopState) : List AB :=
  [.gl 0 noneD, .cells (roadC p.r), .cells (roadC p.r), .cells (netC p.r p.st p.bk), .cells (numsC 41 p.z), .cells (numsC 41 p.f5),
   .cells (numsC 41 zf), .cells (numsC 41 q.far), .mp (byE q.by'), .cells [.mp 8], .cells (numsC 41 p.bf), .cells [.ptr 3 0], .df,
   .lp { state := sta, pend := none, slots := slF, nt := 52, ps := #[21], assign := p.A, body := p.Bd, D := 12 }]
theorem byE_low (n : Nat) (es : List (Int × Stp)) : (byE es).all (fun e => e.1.low n && e.2.low n) = true := by
  rw [List.all_eq_true]
  intro e he
  obtain ⟨x, _, rfl⟩ := List.mem_map.1 he
  rfl
theorem HF_low (p : FP) (q : FS) (sta : LoopState) (n : Nat) (h : 14 ≤ n) : (HF p q sta).all (AB.low n) = true := by
  have h8 : decide (8 < n) = true := by simp; omega
  have h3 : decide (3 < n) = true := by simp; omega
  have h12 : decide (12 < n) = true := by simp; omega
  have h6 : decide (6 < n) = true := by simp; omega
  have h7 : decide (7 < n) = true := by simp; omega
  have h9 : decide (9 < n) = true := by simp; omega
  have h10 : decide (10 < n) = true := by simp; omega
  have h11 : decide (11 < n) = true := by simp; omega
  simp [HF, List.all_cons, List.all_nil, AB.low, numsC_low, netC_low, roadC_low, C.lowL, C.low, slF, V.low, byE_low, getS]; omega

theorem netC_len (r : Rd) (st bk : Nat → Int) : (netC r st bk).length = 68 := by simp [netC, numsD_len]
theorem nC0 (r : Rd) (st bk : Nat → Int) : (netC r st bk)[0]? = some (.d (.int .i64 r.pl)) := rfl
theorem nC1 (r : Rd) (st bk : Nat → Int) : (netC r st bk)[1]? = some (.d (.int .i64 r.de)) := rfl
theorem nC3 (r : Rd) (st bk : Nat → Int) : (netC r st bk)[3]? = some (.d (.sl (r.ps.map pD))) := rfl
theorem nCst (r : Rd) (st bk : Nat → Int) {i : Nat} (h : i < 24) : (netC r st bk)[4 + i]? = some (.d (.int .i64 (st i))) := by
  rw [Nat.add_comm 4 i]
  show ((numsD 24 st ++ numsD 40 bk).map C.d)[i]? = _
  rw [List.getElem?_map, net_st h]; rfl
theorem nCbk (r : Rd) (st bk : Nat → Int) {i : Nat} (h : i < 40) : (netC r st bk)[28 + i]? = some (.d (.int .i64 (bk i))) := by
  rw [show 28 + i = (24 + i) + 4 by omega]
  show ((numsD 24 st ++ numsD 40 bk).map C.d)[24 + i]? = _
  rw [List.getElem?_map, net_bk h]; rfl
set_option maxHeartbeats 1000000 in
theorem reach59p (r : Rd) (st bk : Nat → Int) (i : Int) (hr : OkR r) (h0 : 0 ≤ i) (hi : i < r.ps.length) (H : List AB) (hH : H.all (AB.low H.length) = true) (h3 : H[3]? = some (.cells (netC r st bk))) :
    ACall Tryz.prog 88 [.c (.ptr 3 0), I i] H (one (.tup [I (rFrom r i), I (rTo r i)]) H) := by
  refine acall_atE (bad := [1]) (kp := kp88) (X := tx) (nt := 37) (rs := [.tmp 4, .tmp 5]) Tryz.func88 rfl rfl rfl rfl mo (by kernel_rfl) rfl hH (fun hf => ?_)
  obtain ⟨hp, q0, q1, q2, q3, q4⟩ := hr.post h0 hi
  have := hr.p40
  have := hr.i0
  have := hr.i5
  have w1 : wr .i64 ((po r i).fr + r.di) = (po r i).fr + r.di := by rw [wr_i64] <;> omega
  have w2 : wr .i64 ((po r i).to - r.di) = (po r i).to - r.di := by rw [wr_i64] <;> omega
  have w3 : wr .i64 ((po r i).to - r.di + 1) = (po r i).to - r.di + 1 := by rw [wr_i64] <;> omega
  have hc : decide (0 ≤ i) = true := by simpa using h0
  have hd : decide (i < r.ps.length) = true := by simpa using hi
  have hl := net_len st bk
  simp (config := { maxSteps := 2000000 }) only [go_sem, reduceIte, Nat.reduceEqDiff, Nat.reduceAdd, Nat.reduceLT, Nat.reduceLeDiff, Nat.reduceBEq, Nat.reduceMul, Nat.reduceSub, Nat.reduceDiv, Int.reduceNeg, Int.reduceLT, Int.reduceLE, Int.reduceEq, Int.reduceToNat, lk312, h3, netC, hp, pD, w1, w2, w3, hc, hd, rFrom, rTo, hl, lk88]
  refine ⟨by kernel_rfl, [], by simp⟩

theorem HF_low1 (p : FP) (q : FS) (sta : LoopState) (a : Po) : (HF p q sta ++ [AB.cells (pC a)]).all (AB.low (HF p q sta ++ [AB.cells (pC a)]).length) = true := by
  rw [List.all_append, HF_low _ _ _ _ (by simp [HF])]; rfl
theorem HF_low2 (p : FP) (q : FS) (sta : LoopState) (a : Po) (b : Stp) : (HF p q sta ++ [AB.cells (pC a), AB.cells (sC b)]).all (AB.low (HF p q sta ++ [AB.cells (pC a), AB.cells (sC b)]).length) = true := by
  rw [List.all_append, HF_low _ _ _ _ (by simp [HF])]; rfl
set_option maxHeartbeats 8000000 in
theorem steps69 (p : FP) (q : FS) (hr : OkR p.r) (hst : ∀ i, 0 ≤ p.st i ∧ p.st i ≤ 1)
    (hy : ∀ pre x suf T, stepsL p.r p.st p.bk = pre ++ x :: suf → (T = [] ∨ ∃ a b, T = [.cells (pC a), .cells (sC b)]) → YC Tryz.prog 13 (HF p (roundF pre q) .ready ++ T) (sV x) (one (B true) (HF p (roundF (pre ++ [x]) q) .ready ++ T))) :
    ACall Tryz.prog 312 [.c (.yd 13), .c (.ptr 11 0)] (HF p q .ready) (fun _ H' => H' = HF p (roundF (stepsL p.r p.st p.bk) q) .ready) := by
  refine acall_fitE (bad := []) (kp := kp312) (X := tx) (nt := 90) (rs := []) Tryz.func312 rfl rfl rfl rfl mo (by kernel_rfl) (fun hf => ?_)
  have h1 := hr.p1
  have h40 := hr.p40
  have hlen := hr.len
  have nl := netC_len p.r p.st p.bk
  have n0 := nC0 p.r p.st p.bk
  have n3 := nC3 p.r p.st p.bk
  simp (config := { maxSteps := 2000000 }) only [go_sem, reduceIte, Nat.reduceEqDiff, Nat.reduceAdd, Nat.reduceLT, Nat.reduceLeDiff, Nat.reduceBEq, Nat.reduceMul, Nat.reduceSub, Nat.reduceDiv, Int.reduceNeg, Int.reduceLT, Int.reduceLE, Int.reduceEq, Int.reduceToNat, lk312, HF, nl, n0, n3]
  refine goE_loop (bad := []) (kp := kp312) (fun k : Nat => { slots := [(0, .c (.yd 13)), (1, .c (.ptr 11 0)), (13, I p.r.pl), (14, I k)], heap := HF p (roundF ((List.range k).flatMap (backL p.bk)) q) .ready, marks := [] }) (fun k => (k : Int) ≤ p.r.pl) (fun k => p.r.pl.toNat - k) 0 mo (by kernel_rfl) ?_ (by simp; omega) ?_
  · refine ent_weaken [] (by simp only [HF, roundF, List.range_zero, List.flatMap_nil, List.foldl_nil, List.append_nil]) rfl (Nat.le_refl _) (HF_low _ _ _ _ (Nat.le_refl _)) rfl ?_
    simp (config := { maxSteps := 2000000 }) only [go_sem, reduceIte, Nat.reduceEqDiff, Nat.reduceAdd, Nat.reduceLT, Nat.reduceLeDiff, Nat.reduceBEq, Nat.reduceMul, Nat.reduceSub, Nat.reduceDiv, Int.reduceNeg, Int.reduceLT, Int.reduceLE, Int.reduceEq, Int.reduceToNat, lk312, HF]
    all_goals first | exact .refl _ | exact ⟨.refl _, .refl _⟩ | exact ⟨.refl _, .refl _, .refl _⟩ | exact ⟨.refl _, _, rfl⟩ | exact ⟨_, rfl⟩ | exact ⟨.refl _, [], by simp⟩ | exact ⟨[], by simp⟩
  rintro k hk
  simp (config := { maxSteps := 2000000 }) only [go_sem, reduceIte, Nat.reduceEqDiff, Nat.reduceAdd, Nat.reduceLT, Nat.reduceLeDiff, Nat.reduceBEq, Nat.reduceMul, Nat.reduceSub, Nat.reduceDiv, Int.reduceNeg, Int.reduceLT, Int.reduceLE, Int.reduceEq, Int.reduceToNat, lk312, HF]
  refine goE_if (fun h => ?_) (fun h => ?_)
  · have hlt : (k : Int) < p.r.pl := by simpa using h
    obtain ⟨suf, hs⟩ := flat_split (backL p.bk) (k := k) (n := p.r.pl.toNat) (by omega)
    have w1 : wr .i64 ((k : Int) + 1) = (k : Int) + 1 := wr_id (by omega) (by omega)
    have e1 : ((k + 1 : Nat) : Int) = (k : Int) + 1 := by omega
    have hall : stepsL p.r p.st p.bk = (List.range k).flatMap (backL p.bk) ++ ⟨(k : Int) + 1, k, 0, -1⟩ :: ((if 0 < p.bk k then [⟨k, (k : Int) + 1, 0, -1⟩] else []) ++ (suf ++ (List.range p.r.ps.length).flatMap (postL p.r p.st))) := by
      rw [stepsL, hs]; simp [backL]
    have y1 := hy _ _ _ [] hall (.inl rfl)
    simp only [List.append_nil] at y1
    simp (config := { maxSteps := 2000000 }) only [go_sem, reduceIte, Nat.reduceEqDiff, Nat.reduceAdd, Nat.reduceLT, Nat.reduceLeDiff, Nat.reduceBEq, Nat.reduceMul, Nat.reduceSub, Nat.reduceDiv, Int.reduceNeg, Int.reduceLT, Int.reduceLE, Int.reduceEq, Int.reduceToNat, lk312, fillC, placeS, w1]
    refine aops_yc y1 rfl rfl (fun y H' h => ?_)
    obtain ⟨rfl, rfl⟩ := h
    have nb := nCbk p.r p.st p.bk (i := k) (by omega)
    have c1 : decide (28 + k + 1 ≤ 68) = true := by simp; omega
    have c2 : (decide ((0 : Int) ≤ (k : Int)) && decide ((k : Int) < ((40 : Nat) : Int))) = true := by simp; omega
    by_cases hb : 0 < p.bk k
    · simp (config := { maxSteps := 2000000 }) only [go_sem, reduceIte, Nat.reduceEqDiff, Nat.reduceAdd, Nat.reduceLT, Nat.reduceLeDiff, Nat.reduceBEq, Nat.reduceMul, Nat.reduceSub, Nat.reduceDiv, Int.reduceNeg, Int.reduceLT, Int.reduceLE, Int.reduceEq, Int.reduceToNat, lk312, HF, nb, nl, hb, c1, c2, Nat.mul_one, fillC, placeS, w1]
      refine ⟨by simp; omega, ?_⟩
      have y2 := hy ((List.range k).flatMap (backL p.bk) ++ [⟨(k : Int) + 1, k, 0, -1⟩]) ⟨k, (k : Int) + 1, 0, -1⟩ (suf ++ (List.range p.r.ps.length).flatMap (postL p.r p.st)) [] (by rw [hall]; simp [hb]) (.inl rfl)
      simp only [List.append_nil] at y2
      refine aops_yc y2 rfl rfl (fun y H' h => ?_)
      obtain ⟨rfl, rfl⟩ := h
      simp (config := { maxSteps := 2000000 }) only [go_sem, reduceIte, Nat.reduceEqDiff, Nat.reduceAdd, Nat.reduceLT, Nat.reduceLeDiff, Nat.reduceBEq, Nat.reduceMul, Nat.reduceSub, Nat.reduceDiv, Int.reduceNeg, Int.reduceLT, Int.reduceLE, Int.reduceEq, Int.reduceToNat, lk312, HF, w1]
      refine ⟨k + 1, by omega, by omega, ?_⟩
      refine ent_weaken [] (by simp only [HF, flat_succ, backL, hb, if_true, List.append_assoc, List.cons_append, List.nil_append, List.append_nil]) rfl (Nat.le_refl _) (HF_low _ _ _ _ (Nat.le_refl _)) rfl ?_
      simp (config := { maxSteps := 2000000 }) only [go_sem, reduceIte, Nat.reduceEqDiff, Nat.reduceAdd, Nat.reduceLT, Nat.reduceLeDiff, Nat.reduceBEq, Nat.reduceMul, Nat.reduceSub, Nat.reduceDiv, Int.reduceNeg, Int.reduceLT, Int.reduceLE, Int.reduceEq, Int.reduceToNat, lk312, HF, e1]
    · simp (config := { maxSteps := 2000000 }) only [go_sem, reduceIte, Nat.reduceEqDiff, Nat.reduceAdd, Nat.reduceLT, Nat.reduceLeDiff, Nat.reduceBEq, Nat.reduceMul, Nat.reduceSub, Nat.reduceDiv, Int.reduceNeg, Int.reduceLT, Int.reduceLE, Int.reduceEq, Int.reduceToNat, lk312, HF, nb, nl, hb, c1, c2, Nat.mul_one, w1]
      refine ⟨by simp; omega, ?_⟩
      refine ⟨k + 1, by omega, by omega, ?_⟩
      refine ent_weaken [] (by simp only [HF, flat_succ, backL, hb, if_false, List.append_assoc, List.cons_append, List.nil_append, List.append_nil]) rfl (Nat.le_refl _) (HF_low _ _ _ _ (Nat.le_refl _)) rfl ?_
      simp (config := { maxSteps := 2000000 }) only [go_sem, reduceIte, Nat.reduceEqDiff, Nat.reduceAdd, Nat.reduceLT, Nat.reduceLeDiff, Nat.reduceBEq, Nat.reduceMul, Nat.reduceSub, Nat.reduceDiv, Int.reduceNeg, Int.reduceLT, Int.reduceLE, Int.reduceEq, Int.reduceToNat, lk312, HF, e1]
  · have hk' : p.r.pl.toNat = k := by simp at h; omega
    simp (config := { maxSteps := 2000000 }) only [go_sem, reduceIte, Nat.reduceEqDiff, Nat.reduceAdd, Nat.reduceLT, Nat.reduceLeDiff, Nat.reduceBEq, Nat.reduceMul, Nat.reduceSub, Nat.reduceDiv, Int.reduceNeg, Int.reduceLT, Int.reduceLE, Int.reduceEq, Int.reduceToNat, lk312, nl, n3]
    refine goE_loop (bad := []) (kp := kp312) (fun i : Nat => { slots := [(0, .c (.yd 13)), (1, .c (.ptr 11 0)), (47, postsV p.r.ps), (48, I p.r.ps.length), (49, I i)], heap := HF p (roundF ((List.range p.r.pl.toNat).flatMap (backL p.bk) ++ (List.range i).flatMap (postL p.r p.st)) q) .ready, marks := [] }) (fun i => i ≤ p.r.ps.length) (fun i => p.r.ps.length - i) 0 mo (by kernel_rfl) ?_ (Nat.zero_le _) ?_
    · refine ent_weaken [] (by simp only [HF, hk', List.range_zero, List.flatMap_nil, List.append_nil]) rfl (Nat.le_refl _) (HF_low _ _ _ _ (Nat.le_refl _)) rfl ?_
      simp (config := { maxSteps := 2000000 }) only [go_sem, reduceIte, Nat.reduceEqDiff, Nat.reduceAdd, Nat.reduceLT, Nat.reduceLeDiff, Nat.reduceBEq, Nat.reduceMul, Nat.reduceSub, Nat.reduceDiv, Int.reduceNeg, Int.reduceLT, Int.reduceLE, Int.reduceEq, Int.reduceToNat, lk312, HF, postsV]
      all_goals first | exact .refl _ | exact ⟨.refl _, .refl _⟩ | exact ⟨.refl _, .refl _, .refl _⟩ | exact ⟨.refl _, _, rfl⟩ | exact ⟨_, rfl⟩ | exact ⟨.refl _, [], by simp⟩ | exact ⟨[], by simp⟩
    clear h hk hk'
    rintro i hi
    simp (config := { maxSteps := 2000000 }) only [go_sem, reduceIte, Nat.reduceEqDiff, Nat.reduceAdd, Nat.reduceLT, Nat.reduceLeDiff, Nat.reduceBEq, Nat.reduceMul, Nat.reduceSub, Nat.reduceDiv, Int.reduceNeg, Int.reduceLT, Int.reduceLE, Int.reduceEq, Int.reduceToNat, lk312, HF, postsV]
    refine goE_if (fun h => ?_) (fun h => ?_)
    · have hlt : i < p.r.ps.length := by simpa using h
      obtain ⟨hp, _, _, _, q3, q4⟩ := hr.post (i := (i : Int)) (by omega) (by omega)
      have hp : p.r.ps[i]? = some (po p.r i) := hp
      obtain ⟨suf, hs⟩ := flat_split (postL p.r p.st) (k := i) (n := p.r.ps.length) hlt
      have w2 : wr .i64 (-(po p.r i).co) = -(po p.r i).co := wr_id (by omega) (by omega)
      have c6 : (decide ((0 : Int) ≤ (i : Int)) && decide ((i : Int) < (p.r.ps.length : Int))) = true := by simp; omega
      have ns := nCst p.r p.st p.bk (i := i) (by omega)
      have c1 : decide (4 + i + 1 ≤ 68) = true := by simp; omega
      have c1' : decide (4 + i ≤ 67) = true := by simp; omega
      have c2 : (decide ((0 : Int) ≤ (i : Int)) && decide ((i : Int) < ((24 : Nat) : Int))) = true := by simp; omega
      have hss : ∀ x, postS p.r p.st i = x → rFrom p.r i < rTo p.r i → stepsL p.r p.st p.bk = ((List.range p.r.pl.toNat).flatMap (backL p.bk) ++ (List.range i).flatMap (postL p.r p.st)) ++ x :: suf := by
        intro x hx hft
        rw [stepsL, hs, postL, if_pos hft, hx]; simp
      have wi := wr_succ hlt (show p.r.ps.length ≤ 140737488355328 by omega)
      simp (config := { maxSteps := 2000000 }) only [go_sem, reduceIte, Nat.reduceEqDiff, Nat.reduceAdd, Nat.reduceLT, Nat.reduceLeDiff, Nat.reduceBEq, Nat.reduceMul, Nat.reduceSub, Nat.reduceDiv, Int.reduceNeg, Int.reduceLT, Int.reduceLE, Int.reduceEq, Int.reduceToNat, lk312, hp, pD, c6]
      have hre := reach59p p.r p.st p.bk (i : Int) hr (by omega) (by omega) (HF p (roundF ((List.range p.r.pl.toNat).flatMap (backL p.bk) ++ (List.range i).flatMap (postL p.r p.st)) q) .ready ++ [AB.cells (pC (po p.r i))]) (HF_low1 _ _ _ _) rfl
      simp only [HF, pC, List.cons_append, List.nil_append] at hre
      refine aops_at (hre) rfl rfl (by first | exact wk_refls _ | (repeat constructor)) ?_
      by_cases hone : p.st i = 1
      · have hps : postS p.r p.st i = ⟨rTo p.r i, rFrom p.r i, -(po p.r i).co, i⟩ := by simp [postS, hone]
        by_cases hft : rFrom p.r i < rTo p.r i
        · have y3 := hy _ _ _ [AB.cells (pC (po p.r i)), AB.cells (sC ⟨rTo p.r i, rFrom p.r i, -(po p.r i).co, i⟩)] (hss _ hps hft) (.inr ⟨_, _, rfl⟩)
          simp (config := { maxSteps := 2000000 }) only [go_sem, reduceIte, Nat.reduceEqDiff, Nat.reduceAdd, Nat.reduceLT, Nat.reduceLeDiff, Nat.reduceBEq, Nat.reduceMul, Nat.reduceSub, Nat.reduceDiv, Int.reduceNeg, Int.reduceLT, Int.reduceLE, Int.reduceEq, Int.reduceToNat, lk312, HF, pC, fillC, placeS, nl, ns, hone, c1, c1', c2, Nat.mul_one, w2, hft]
          refine aops_yc y3 rfl rfl (fun y H' h => ?_)
          obtain ⟨rfl, rfl⟩ := h
          simp (config := { maxSteps := 2000000 }) only [go_sem, reduceIte, Nat.reduceEqDiff, Nat.reduceAdd, Nat.reduceLT, Nat.reduceLeDiff, Nat.reduceBEq, Nat.reduceMul, Nat.reduceSub, Nat.reduceDiv, Int.reduceNeg, Int.reduceLT, Int.reduceLE, Int.reduceEq, Int.reduceToNat, lk312, HF, pC, sC, wi]
          refine ⟨i + 1, hlt, by omega, ?_⟩
          refine ent_weaken [AB.cells (pC (po p.r i)), AB.cells (sC ⟨rTo p.r i, rFrom p.r i, -(po p.r i).co, i⟩)] (by simp only [HF, flat_succ, postL, hft, if_true, hps, List.append_assoc, List.cons_append, List.nil_append, List.append_nil, pC, sC]) rfl (Nat.le_refl _) (HF_low _ _ _ _ (Nat.le_refl _)) rfl ?_
          simp (config := { maxSteps := 2000000 }) only [go_sem, reduceIte, Nat.reduceEqDiff, Nat.reduceAdd, Nat.reduceLT, Nat.reduceLeDiff, Nat.reduceBEq, Nat.reduceMul, Nat.reduceSub, Nat.reduceDiv, Int.reduceNeg, Int.reduceLT, Int.reduceLE, Int.reduceEq, Int.reduceToNat, lk312, HF]
        · simp (config := { maxSteps := 2000000 }) only [go_sem, reduceIte, Nat.reduceEqDiff, Nat.reduceAdd, Nat.reduceLT, Nat.reduceLeDiff, Nat.reduceBEq, Nat.reduceMul, Nat.reduceSub, Nat.reduceDiv, Int.reduceNeg, Int.reduceLT, Int.reduceLE, Int.reduceEq, Int.reduceToNat, lk312, HF, pC, fillC, placeS, nl, ns, hone, c1, c1', c2, Nat.mul_one, w2, hft, wi]
          refine ⟨i + 1, hlt, by omega, ?_⟩
          refine ent_weaken [AB.cells (pC (po p.r i)), AB.cells (sC ⟨rTo p.r i, rFrom p.r i, -(po p.r i).co, i⟩)] (by simp only [HF, flat_succ, postL, hft, if_false, List.append_assoc, List.cons_append, List.nil_append, List.append_nil, pC, sC]) rfl (Nat.le_refl _) (HF_low _ _ _ _ (Nat.le_refl _)) rfl ?_
          simp (config := { maxSteps := 2000000 }) only [go_sem, reduceIte, Nat.reduceEqDiff, Nat.reduceAdd, Nat.reduceLT, Nat.reduceLeDiff, Nat.reduceBEq, Nat.reduceMul, Nat.reduceSub, Nat.reduceDiv, Int.reduceNeg, Int.reduceLT, Int.reduceLE, Int.reduceEq, Int.reduceToNat, lk312, HF]
      · have hps : postS p.r p.st i = ⟨rFrom p.r i, rTo p.r i, (po p.r i).co, i⟩ := by simp [postS, hone]
        by_cases hft : rFrom p.r i < rTo p.r i
        · have y3 := hy _ _ _ [AB.cells (pC (po p.r i)), AB.cells (sC ⟨rFrom p.r i, rTo p.r i, (po p.r i).co, i⟩)] (hss _ hps hft) (.inr ⟨_, _, rfl⟩)
          simp (config := { maxSteps := 2000000 }) only [go_sem, reduceIte, Nat.reduceEqDiff, Nat.reduceAdd, Nat.reduceLT, Nat.reduceLeDiff, Nat.reduceBEq, Nat.reduceMul, Nat.reduceSub, Nat.reduceDiv, Int.reduceNeg, Int.reduceLT, Int.reduceLE, Int.reduceEq, Int.reduceToNat, lk312, HF, pC, fillC, placeS, nl, ns, hone, c1, c1', c2, Nat.mul_one, w2, hft]
          refine aops_yc y3 rfl rfl (fun y H' h => ?_)
          obtain ⟨rfl, rfl⟩ := h
          simp (config := { maxSteps := 2000000 }) only [go_sem, reduceIte, Nat.reduceEqDiff, Nat.reduceAdd, Nat.reduceLT, Nat.reduceLeDiff, Nat.reduceBEq, Nat.reduceMul, Nat.reduceSub, Nat.reduceDiv, Int.reduceNeg, Int.reduceLT, Int.reduceLE, Int.reduceEq, Int.reduceToNat, lk312, HF, pC, sC, wi]
          refine ⟨i + 1, hlt, by omega, ?_⟩
          refine ent_weaken [AB.cells (pC (po p.r i)), AB.cells (sC ⟨rFrom p.r i, rTo p.r i, (po p.r i).co, i⟩)] (by simp only [HF, flat_succ, postL, hft, if_true, hps, List.append_assoc, List.cons_append, List.nil_append, List.append_nil, pC, sC]) rfl (Nat.le_refl _) (HF_low _ _ _ _ (Nat.le_refl _)) rfl ?_
          simp (config := { maxSteps := 2000000 }) only [go_sem, reduceIte, Nat.reduceEqDiff, Nat.reduceAdd, Nat.reduceLT, Nat.reduceLeDiff, Nat.reduceBEq, Nat.reduceMul, Nat.reduceSub, Nat.reduceDiv, Int.reduceNeg, Int.reduceLT, Int.reduceLE, Int.reduceEq, Int.reduceToNat, lk312, HF]
        · simp (config := { maxSteps := 2000000 }) only [go_sem, reduceIte, Nat.reduceEqDiff, Nat.reduceAdd, Nat.reduceLT, Nat.reduceLeDiff, Nat.reduceBEq, Nat.reduceMul, Nat.reduceSub, Nat.reduceDiv, Int.reduceNeg, Int.reduceLT, Int.reduceLE, Int.reduceEq, Int.reduceToNat, lk312, HF, pC, fillC, placeS, nl, ns, hone, c1, c1', c2, Nat.mul_one, w2, hft, wi]
          refine ⟨i + 1, hlt, by omega, ?_⟩
          refine ent_weaken [AB.cells (pC (po p.r i)), AB.cells (sC ⟨rFrom p.r i, rTo p.r i, (po p.r i).co, i⟩)] (by simp only [HF, flat_succ, postL, hft, if_false, List.append_assoc, List.cons_append, List.nil_append, List.append_nil, pC, sC]) rfl (Nat.le_refl _) (HF_low _ _ _ _ (Nat.le_refl _)) rfl ?_
          simp (config := { maxSteps := 2000000 }) only [go_sem, reduceIte, Nat.reduceEqDiff, Nat.reduceAdd, Nat.reduceLT, Nat.reduceLeDiff, Nat.reduceBEq, Nat.reduceMul, Nat.reduceSub, Nat.reduceDiv, Int.reduceNeg, Int.reduceLT, Int.reduceLE, Int.reduceEq, Int.reduceToNat, lk312, HF]
    · have hi' : i = p.r.ps.length := by simp at h; omega
      subst hi'
      simp (config := { maxSteps := 2000000 }) only [go_sem, reduceIte, Nat.reduceEqDiff, Nat.reduceAdd, Nat.reduceLT, Nat.reduceLeDiff, Nat.reduceBEq, Nat.reduceMul, Nat.reduceSub, Nat.reduceDiv, Int.reduceNeg, Int.reduceLT, Int.reduceLE, Int.reduceEq, Int.reduceToNat, lk312]
      rfl
end Go.Proofs.YtfgdbeijjbijnaaGreatDoor

