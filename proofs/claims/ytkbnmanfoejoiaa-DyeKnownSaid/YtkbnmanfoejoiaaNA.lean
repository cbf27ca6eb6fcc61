/- Dyes: the data, and searches. -/
import Derived.Test.YtkbnmanfoejoiaaDTab
import Derived.Test.YtkbnmanfoejoiaaDTabG
import Derived.Test.YtkbnmanfoejoiaaMK
set_option linter.unusedSimpArgs false
set_option linter.unusedVariables false
set_option maxRecDepth 100000
namespace Go.Proofs.Ytkbnmanfoejoiaa
open Go Go.Abs Go.Proofs

theorem mo : Try.prog.follows .mixedOrders = true := by kernel_rfl
def iD (n : Int) : List D := [.int .i64 n]
def ints (l : List Int) : V := .c (.d (.sl (l.map iD)))
theorem fit_ints {l : List Int} (h : FitV (ints l)) : l.length ≤ 140737488355328 := by have h : Fit _ := h; have := h.len; simpa [lim] using this
theorem wr_succ {i n : Nat} (h : i < n) (hn : n ≤ 140737488355328) : wr .i64 ((i : Int) + 1) = ((i + 1 : Nat) : Int) := by rw [wr_i64] <;> omega
theorem get_of_lt {α : Type} {l : List α} {i : Nat} (h : i < l.length) : ∃ x, l[i]? = some x := ⟨l[i], by simp [h]⟩
theorem take_succ_eq {α : Type} {l : List α} {i : Nat} {x : α} (h : l[i]? = some x) : l.take (i + 1) = l.take i ++ [x] := by
  rw [List.take_add_one, h]; rfl
theorem any_of_get {α : Type} {l : List α} {p : α → Bool} {i : Nat} {x : α} (h : l[i]? = some x) (hp : p x = true) : l.any p = true := List.any_eq_true.2 ⟨x, List.mem_of_getElem? h, hp⟩
theorem any_none {α : Type} {l : List α} {p : α → Bool} (h : ∀ (j : Nat) x, j < l.length → l[j]? = some x → p x = false) : l.any p = false := by
  rw [List.any_eq_false]
  intro x hx
  obtain ⟨j, hj⟩ := List.getElem?_of_mem hx
  rw [h j x (List.getElem?_eq_some_iff.1 hj).1 hj]; simp
theorem upto_succ {α : Type} {l : List α} {P : α → Prop} {i : Nat} {x : α} (h : ∀ (j : Nat) y, j < i → l[j]? = some y → P y) (hx : l[i]? = some x) (hp : P x) : ∀ (j : Nat) y, j < i + 1 → l[j]? = some y → P y := fun j y hj hy => by
  rcases Nat.lt_succ_iff_lt_or_eq.1 hj with h1 | h1
  · exact h j y h1 hy
  · subst h1; rw [hx] at hy; cases hy; exact hp
def idxOf {α : Type} (p : α → Bool) : List α → Int
  | [] => -1
  | x :: l => if p x then 0 else if idxOf p l < 0 then -1 else idxOf p l + 1
theorem idxOf_at {α : Type} {p : α → Bool} : ∀ {l : List α} {i : Nat} {x : α}, (∀ j y, j < i → l[j]? = some y → p y = false) → l[i]? = some x → p x = true → idxOf p l = i
  | y :: l, 0, x, _, hx, hp => by simp at hx; subst hx; simp [idxOf, hp]
  | y :: l, i + 1, x, h, hx, hp => by
    have h0 := h 0 y (by omega) rfl
    have ih := idxOf_at (l := l) (i := i) (fun j z hj hz => h (j + 1) z (by omega) (by simpa using hz)) (by simpa using hx) hp
    simp only [idxOf, h0, ih]
    simp; omega
theorem idxOf_none {α : Type} {p : α → Bool} : ∀ {l : List α}, (∀ (j : Nat) y, j < l.length → l[j]? = some y → p y = false) → idxOf p l = -1
  | [], _ => rfl
  | y :: l, h => by
    have h0 := h 0 y (by simp) rfl
    have ih := idxOf_none (l := l) (fun j z hj hz => h (j + 1) z (by simpa using hj) (by simpa using hz))
    simp [idxOf, h0, ih]
theorem idxOf_nonneg {α : Type} {p : α → Bool} : ∀ (l : List α), 0 ≤ idxOf p l ↔ l.any p = true
  | [] => by simp [idxOf]
  | y :: l => by
    have ih := idxOf_nonneg (p := p) l
    by_cases hy : p y = true
    · simp [idxOf, hy]
    · simp only [idxOf, hy, List.any_cons, Bool.false_or, if_false, Bool.false_eq_true, ← ih, eq_self]
      split <;> omega
theorem idxOf_any {α : Type} {p : α → Bool} (l : List α) : decide (0 ≤ idxOf p l) = l.any p := by
  rw [Bool.eq_iff_iff, decide_eq_true_eq, idxOf_nonneg]


/-- A range, a dye, a want, a spot. -/
structure Rg where
  lo : Int
  hi : Int
def rgD (r : Rg) : List D := [.int .i64 r.lo, .int .i64 r.hi]
def rgC (r : Rg) : List C := [.d (.int .i64 r.lo), .d (.int .i64 r.hi)]
def rgV (r : Rg) : V := .agg (rgC r)
def rgs (l : List Rg) : V := .c (.d (.sl (l.map rgD)))
structure Dy where
  a : Int
  b : Int
  p : Int
  f : Int
def dyD (d : Dy) : List D := [.int .i64 d.a, .int .i64 d.b, .int .i64 d.p, .int .i64 d.f]
def dyC (d : Dy) : List C := [.d (.int .i64 d.a), .d (.int .i64 d.b), .d (.int .i64 d.p), .d (.int .i64 d.f)]
def dyV (d : Dy) : V := .agg (dyC d)
def dys (l : List Dy) : V := .c (.d (.sl (l.map dyD)))
structure Wn where
  x : Rg
  y : Rg
  f : Int
def wnC (w : Wn) : List C := [.d (.int .i64 w.x.lo), .d (.int .i64 w.x.hi), .d (.int .i64 w.y.lo), .d (.int .i64 w.y.hi), .d (.int .i64 w.f)]
def wnV (w : Wn) : V := .agg (wnC w)
def spC (x y : Int) : List C := [.d (.int .i64 x), .d (.int .i64 y)]
def spV (x y : Int) : V := .agg (spC x y)
theorem fit_sl {l : List (List D)} (h : FitV (.c (.d (.sl l)))) : l.length ≤ 140737488355328 := by have h : Fit _ := h; have := h.len; simpa [lim] using this
theorem fit_rgs {l : List Rg} (h : FitV (rgs l)) : l.length ≤ 140737488355328 := by simpa using fit_sl h
theorem fit_dys {l : List Dy} (h : FitV (dys l)) : l.length ≤ 140737488355328 := by simpa using fit_sl h
theorem lowL_d (n : Nat) (l : List D) : C.lowL n (l.map .d) = true := by induction l with | nil => rfl | cons a l ih => simp [C.lowL, C.low, ih]
theorem toDs_d (l : List D) : toDs (l.map C.d) = some l := by
  induction l with
  | nil => rfl
  | cons a l ih => simp [toDs, toD, ih]

set_option maxHeartbeats 1000000 in
theorem idx75 (l : List Int) (g : Nat) (caps : List C) (p : Int → Bool) (H : List AB) (hH : H.all (AB.low H.length) = true) (hcaps : C.lowL H.length caps = true)
    (hp : ∀ x ∈ l, ACall Try.prog g (I x :: caps.map .c) H (one (B (p x)) H)) : ACall Try.prog 75 [ints l, .c (.fn (.func g) caps)] H (one (I (idxOf p l)) H) := by
  refine acall_at (X := tx) (nt := 19) (rs := [.tmp 4]) Try.func75 rfl rfl rfl rfl mo (by kernel_rfl) rfl hH (fun hf => ?_)
  have hfit : l.length ≤ 140737488355328 := fit_ints (hf (ints l) (by simp))
  simp only [go_sem, reduceIte, Nat.reduceEqDiff, Int.reduceNeg, ints, iD]
  refine go_loop (fun i : Nat => { slots := [(0, ints l), (1, .c (.fn (.func g) caps)), (7, I l.length), (8, I i)], heap := H, marks := [] }) (fun i => i ≤ l.length ∧ ∀ j x, j < i → l[j]? = some x → p x = false) (fun i => l.length - i) 0 mo (by kernel_rfl) ?_ ⟨Nat.zero_le _, by intro j r h; omega⟩ ?_
  · refine ent_weaken [] (by simp) rfl (Nat.le_refl _) hH rfl ?_
    simp only [go_sem, reduceIte, Nat.reduceEqDiff, hcaps, ints, iD]
    exact .refl _
  rintro i ⟨hi, hall⟩
  simp only [go_sem, reduceIte, Nat.reduceEqDiff, Int.reduceNeg, ints, iD]
  refine go_if (fun h => ?_) (fun h => ?_)
  · have hlt : i < l.length := by simpa using h
    obtain ⟨x, hx⟩ := get_of_lt hlt
    have hpx := hp x (List.mem_of_getElem? hx)
    simp only [I] at hpx
    simp only [go_sem, reduceIte, Nat.reduceEqDiff, Int.reduceNeg, hx, ints, iD]
    refine ⟨by simp [hlt], ?_⟩
    refine aops_at (hpx) rfl rfl (by first | exact wk_refls _ | (repeat constructor)) ?_
    simp only [go_sem, reduceIte, Nat.reduceEqDiff, Int.reduceNeg]
    refine go_if (fun hb => ?_) (fun hb => ?_)
    · simp only [go_sem, reduceIte, Nat.reduceEqDiff, Int.reduceNeg]
      have e : idxOf p l = i := idxOf_at hall hx hb
      rw [e]
      exact ⟨.refl _, [], by simp⟩
    · simp only [go_sem, reduceIte, Nat.reduceEqDiff, Int.reduceNeg, wr_succ hlt hfit]
      refine ⟨i + 1, ⟨hlt, upto_succ hall hx hb⟩, by omega, ?_⟩
      refine ent_weaken [] (by simp) rfl (Nat.le_refl _) hH rfl ?_
      simp only [go_sem, reduceIte, Nat.reduceEqDiff, hcaps]
  · have hi' : i = l.length := by simp at h; omega
    have e : idxOf p l = -1 := idxOf_none (fun j x hj hx => hall j x (by omega) hx)
    simp only [go_sem, reduceIte, Nat.reduceEqDiff, Int.reduceNeg]
    rw [e]
    exact ⟨.refl _, [], by simp⟩
set_option maxHeartbeats 1000000 in
theorem has61 (l : List Int) (g : Nat) (caps : List C) (p : Int → Bool) (H : List AB) (hH : H.all (AB.low H.length) = true) (hcaps : C.lowL H.length caps = true)
    (hp : ∀ x ∈ l, ACall Try.prog g (I x :: caps.map .c) H (one (B (p x)) H)) : ACall Try.prog 61 [ints l, .c (.fn (.func g) caps)] H (one (B (l.any p)) H) := by
  refine acall_at (X := tx) (nt := 9) (rs := [.tmp 4]) Try.func61 rfl rfl rfl rfl mo (by kernel_rfl) rfl hH (fun hf => ?_)
  simp only [go_sem, reduceIte, Nat.reduceEqDiff]
  refine aops_at (idx75 l g caps p H hH hcaps hp) rfl rfl (by first | exact wk_refls _ | (repeat constructor)) ?_
  simp only [go_sem, reduceIte, Nat.reduceEqDiff]
  rw [idxOf_any]
  exact ⟨.refl _, [], by simp⟩


set_option maxHeartbeats 1000000 in
theorem idx76 (l : List Rg) (g : Nat) (caps : List C) (p : Rg → Bool) (H : List AB) (hH : H.all (AB.low H.length) = true) (hcaps : C.lowL H.length caps = true)
    (hp : ∀ x ∈ l, ACall Try.prog g (rgV x :: caps.map .c) H (one (B (p x)) H)) : ACall Try.prog 76 [rgs l, .c (.fn (.func g) caps)] H (one (I (idxOf p l)) H) := by
  refine acall_at (X := tx) (nt := 19) (rs := [.tmp 4]) Try.func76 rfl rfl rfl rfl mo (by kernel_rfl) rfl hH (fun hf => ?_)
  have hfit : l.length ≤ 140737488355328 := fit_rgs (hf (rgs l) (by simp))
  simp only [go_sem, reduceIte, Nat.reduceEqDiff, Int.reduceNeg, rgs, rgD]
  refine go_loop (fun i : Nat => { slots := [(0, rgs l), (1, .c (.fn (.func g) caps)), (7, I l.length), (8, I i)], heap := H, marks := [] }) (fun i => i ≤ l.length ∧ ∀ j x, j < i → l[j]? = some x → p x = false) (fun i => l.length - i) 0 mo (by kernel_rfl) ?_ ⟨Nat.zero_le _, by intro j r h; omega⟩ ?_
  · refine ent_weaken [] (by simp) rfl (Nat.le_refl _) hH rfl ?_
    simp only [go_sem, reduceIte, Nat.reduceEqDiff, hcaps, rgs, rgD]
    exact .refl _
  rintro i ⟨hi, hall⟩
  simp only [go_sem, reduceIte, Nat.reduceEqDiff, Int.reduceNeg, rgs, rgD]
  refine go_if (fun h => ?_) (fun h => ?_)
  · have hlt : i < l.length := by simpa using h
    obtain ⟨x, hx⟩ := get_of_lt hlt
    have hpx := hp x (List.mem_of_getElem? hx)
    simp only [rgV, rgC] at hpx
    simp only [go_sem, reduceIte, Nat.reduceEqDiff, Nat.reduceAdd, Int.reduceNeg, hx, rgs, rgD]
    refine ⟨by simp [hlt], ?_⟩
    refine aops_at (hpx) rfl rfl (by first | exact wk_refls _ | (repeat constructor)) ?_
    simp only [go_sem, reduceIte, Nat.reduceEqDiff, Int.reduceNeg]
    refine go_if (fun hb => ?_) (fun hb => ?_)
    · simp only [go_sem, reduceIte, Nat.reduceEqDiff, Int.reduceNeg]
      have e : idxOf p l = i := idxOf_at hall hx hb
      rw [e]
      exact ⟨.refl _, [], by simp⟩
    · simp only [go_sem, reduceIte, Nat.reduceEqDiff, Int.reduceNeg, wr_succ hlt hfit]
      refine ⟨i + 1, ⟨hlt, upto_succ hall hx hb⟩, by omega, ?_⟩
      refine ent_weaken [] (by simp) rfl (Nat.le_refl _) hH rfl ?_
      simp only [go_sem, reduceIte, Nat.reduceEqDiff, hcaps]
  · have hi' : i = l.length := by simp at h; omega
    have e : idxOf p l = -1 := idxOf_none (fun j x hj hx => hall j x (by omega) hx)
    simp only [go_sem, reduceIte, Nat.reduceEqDiff, Int.reduceNeg]
    rw [e]
    exact ⟨.refl _, [], by simp⟩
set_option maxHeartbeats 1000000 in
theorem has64 (l : List Rg) (g : Nat) (caps : List C) (p : Rg → Bool) (H : List AB) (hH : H.all (AB.low H.length) = true) (hcaps : C.lowL H.length caps = true)
    (hp : ∀ x ∈ l, ACall Try.prog g (rgV x :: caps.map .c) H (one (B (p x)) H)) : ACall Try.prog 64 [rgs l, .c (.fn (.func g) caps)] H (one (B (l.any p)) H) := by
  refine acall_at (X := tx) (nt := 9) (rs := [.tmp 4]) Try.func64 rfl rfl rfl rfl mo (by kernel_rfl) rfl hH (fun hf => ?_)
  simp only [go_sem, reduceIte, Nat.reduceEqDiff]
  refine aops_at (idx76 l g caps p H hH hcaps hp) rfl rfl (by first | exact wk_refls _ | (repeat constructor)) ?_
  simp only [go_sem, reduceIte, Nat.reduceEqDiff]
  rw [idxOf_any]
  exact ⟨.refl _, [], by simp⟩


set_option maxHeartbeats 1000000 in
theorem idx66 (l : List Dy) (g : Nat) (caps : List C) (p : Dy → Bool) (H : List AB) (hH : H.all (AB.low H.length) = true) (hcaps : C.lowL H.length caps = true)
    (hp : ∀ x ∈ l, ACall Try.prog g (dyV x :: caps.map .c) H (one (B (p x)) H)) : ACall Try.prog 66 [dys l, .c (.fn (.func g) caps)] H (one (I (idxOf p l)) H) := by
  refine acall_at (X := tx) (nt := 19) (rs := [.tmp 4]) Try.func66 rfl rfl rfl rfl mo (by kernel_rfl) rfl hH (fun hf => ?_)
  have hfit : l.length ≤ 140737488355328 := fit_dys (hf (dys l) (by simp))
  simp only [go_sem, reduceIte, Nat.reduceEqDiff, Int.reduceNeg, dys, dyD]
  refine go_loop (fun i : Nat => { slots := [(0, dys l), (1, .c (.fn (.func g) caps)), (7, I l.length), (8, I i)], heap := H, marks := [] }) (fun i => i ≤ l.length ∧ ∀ j x, j < i → l[j]? = some x → p x = false) (fun i => l.length - i) 0 mo (by kernel_rfl) ?_ ⟨Nat.zero_le _, by intro j r h; omega⟩ ?_
  · refine ent_weaken [] (by simp) rfl (Nat.le_refl _) hH rfl ?_
    simp only [go_sem, reduceIte, Nat.reduceEqDiff, hcaps, dys, dyD]
    exact .refl _
  rintro i ⟨hi, hall⟩
  simp only [go_sem, reduceIte, Nat.reduceEqDiff, Int.reduceNeg, dys, dyD]
  refine go_if (fun h => ?_) (fun h => ?_)
  · have hlt : i < l.length := by simpa using h
    obtain ⟨x, hx⟩ := get_of_lt hlt
    have hpx := hp x (List.mem_of_getElem? hx)
    simp only [dyV, dyC] at hpx
    simp only [go_sem, reduceIte, Nat.reduceEqDiff, Nat.reduceAdd, Int.reduceNeg, hx, dys, dyD]
    refine ⟨by simp [hlt], ?_⟩
    refine aops_at (hpx) rfl rfl (by first | exact wk_refls _ | (repeat constructor)) ?_
    simp only [go_sem, reduceIte, Nat.reduceEqDiff, Int.reduceNeg]
    refine go_if (fun hb => ?_) (fun hb => ?_)
    · simp only [go_sem, reduceIte, Nat.reduceEqDiff, Int.reduceNeg]
      have e : idxOf p l = i := idxOf_at hall hx hb
      rw [e]
      exact ⟨.refl _, [], by simp⟩
    · simp only [go_sem, reduceIte, Nat.reduceEqDiff, Int.reduceNeg, wr_succ hlt hfit]
      refine ⟨i + 1, ⟨hlt, upto_succ hall hx hb⟩, by omega, ?_⟩
      refine ent_weaken [] (by simp) rfl (Nat.le_refl _) hH rfl ?_
      simp only [go_sem, reduceIte, Nat.reduceEqDiff, hcaps]
  · have hi' : i = l.length := by simp at h; omega
    have e : idxOf p l = -1 := idxOf_none (fun j x hj hx => hall j x (by omega) hx)
    simp only [go_sem, reduceIte, Nat.reduceEqDiff, Int.reduceNeg]
    rw [e]
    exact ⟨.refl _, [], by simp⟩
set_option maxHeartbeats 1000000 in
theorem has50 (l : List Dy) (g : Nat) (caps : List C) (p : Dy → Bool) (H : List AB) (hH : H.all (AB.low H.length) = true) (hcaps : C.lowL H.length caps = true)
    (hp : ∀ x ∈ l, ACall Try.prog g (dyV x :: caps.map .c) H (one (B (p x)) H)) : ACall Try.prog 50 [dys l, .c (.fn (.func g) caps)] H (one (B (l.any p)) H) := by
  refine acall_at (X := tx) (nt := 9) (rs := [.tmp 4]) Try.func50 rfl rfl rfl rfl mo (by kernel_rfl) rfl hH (fun hf => ?_)
  simp only [go_sem, reduceIte, Nat.reduceEqDiff]
  refine aops_at (idx66 l g caps p H hH hcaps hp) rfl rfl (by first | exact wk_refls _ | (repeat constructor)) ?_
  simp only [go_sem, reduceIte, Nat.reduceEqDiff]
  rw [idxOf_any]
  exact ⟨.refl _, [], by simp⟩

end Go.Proofs.Ytkbnmanfoejoiaa
/- Dyes: shelves, small functions. -/
set_option linter.unusedSimpArgs false
set_option linter.unusedVariables false
set_option maxRecDepth 100000
namespace Go.Proofs.Ytkbnmanfoejoiaa
open Go Go.Abs Go.Proofs
def kp18 : List (Nat × List Nat) := [(0, [0]), (1, [0, 3]), (2, [0, 3, 4]), (3, [2]), (4, [13]), (5, [2]), (6, [2])]
theorem lk18 : lookK kp18 0 = some [0] ∧ lookK kp18 1 = some [0, 3] ∧ lookK kp18 2 = some [0, 3, 4] ∧ lookK kp18 3 = some [2] ∧ lookK kp18 4 = some [13] ∧ lookK kp18 5 = some [2] ∧ lookK kp18 6 = some [2] := ⟨rfl, rfl, rfl, rfl, rfl, rfl, rfl⟩
def kp46 : List (Nat × List Nat) := [(0, [1]), (1, [2])]
theorem lk46 : lookK kp46 0 = some [1] ∧ lookK kp46 1 = some [2] := ⟨rfl, rfl⟩
def kp47 : List (Nat × List Nat) := [(0, [1, 2]), (1, [4])]
theorem lk47 : lookK kp47 0 = some [1, 2] ∧ lookK kp47 1 = some [4] := ⟨rfl, rfl⟩
def kp48 : List (Nat × List Nat) := [(0, [0, 2]), (1, [2])]
theorem lk48 : lookK kp48 0 = some [0, 2] ∧ lookK kp48 1 = some [2] := ⟨rfl, rfl⟩
def kp49 : List (Nat × List Nat) := [(0, [0]), (1, [2])]
theorem lk49 : lookK kp49 0 = some [0] ∧ lookK kp49 1 = some [2] := ⟨rfl, rfl⟩
def kp65 : List (Nat × List Nat) := [(0, [1, 2]), (1, [3])]
theorem lk65 : lookK kp65 0 = some [1, 2] ∧ lookK kp65 1 = some [3] := ⟨rfl, rfl⟩

theorem nn (i : Nat) : (0 ≤ (i : Int)) = True := by simp
theorem y0 : ((0 : Nat) : Int) = 0 := rfl
theorem y1 : ((1 : Nat) : Int) = 1 := rfl
theorem y2 : ((2 : Nat) : Int) = 2 := rfl
theorem y3 : ((3 : Nat) : Int) = 3 := rfl
theorem y8 : ((8 : Nat) : Int) = 8 := rfl
theorem y9 : ((9 : Nat) : Int) = 9 := rfl
theorem y21 : ((21 : Nat) : Int) = 21 := rfl
theorem rep1 {α : Type} (x : α) : List.replicate 1 x = [x] := rfl
theorem rep2 {α : Type} (x : α) : List.replicate 2 x = [x, x] := rfl
theorem rep3 {α : Type} (x : α) : List.replicate 3 x = [x, x, x] := rfl
theorem rep4 {α : Type} (x : α) : List.replicate 4 x = [x, x, x, x] := rfl
theorem rep5 {α : Type} (x : α) : List.replicate 5 x = [x, x, x, x, x] := rfl
theorem rep6 {α : Type} (x : α) : List.replicate 6 x = [x, x, x, x, x, x] := rfl
theorem rep7 {α : Type} (x : α) : List.replicate 7 x = [x, x, x, x, x, x, x] := rfl
theorem rep8 {α : Type} (x : α) : List.replicate 8 x = [x, x, x, x, x, x, x, x] := rfl
attribute [go_sem] rep1 rep2 rep3 rep4 rep5 rep6 rep7 rep8 y0 y1 y2 y3 y8 y9 y21
/-- A range is valid. -/
def rgB (top : Int) (r : Rg) : Bool := !decide (r.lo < 0) && (!decide (r.hi < r.lo) && !decide (top < r.hi))
theorem rgB_iff (top : Int) (r : Rg) : rgB top r = true ↔ 0 ≤ r.lo ∧ r.lo ≤ r.hi ∧ r.hi ≤ top := by simp [rgB]
theorem one48 (n : Int) : Pure Try.prog 48 [I n] (rgV ⟨n, n⟩) := by
  refine pure_wkE (bad := []) (kp := kp48) (X := tx) (nt := 6) (rs := [.cell 2 24]) Try.func48 rfl rfl rfl rfl mo (by kernel_rfl) rfl rfl (fun hf => ?_)
  simp (maxSteps := 2000000) only [go_sem, reduceIte, Nat.reduceEqDiff, Nat.reduceAdd, Nat.reduceLeDiff, Nat.reduceBEq, lk18, lk46, lk47, lk48, lk49, lk65, rgV, rgC]
def fastB (n : Int) : Bool := decide (1 ≤ n) && decide (n ≤ 8)
theorem fast49 (n : Int) : Pure Try.prog 49 [I n] (B (fastB n)) := by
  refine pure_wkE (bad := []) (kp := kp49) (X := tx) (nt := 9) (rs := [.tmp 2]) Try.func49 rfl rfl rfl rfl mo (by kernel_rfl) rfl rfl (fun hf => ?_)
  by_cases h : 1 ≤ n
  · simp (maxSteps := 2000000) only [go_sem, reduceIte, Nat.reduceEqDiff, Nat.reduceAdd, lk18, lk46, lk47, lk48, lk49, lk65, h, fastB]
  · simp (maxSteps := 2000000) only [go_sem, reduceIte, Nat.reduceEqDiff, Nat.reduceAdd, lk18, lk46, lk47, lk48, lk49, lk65, h, fastB]
theorem bad65 (top : Int) (r : Rg) : ACall Try.prog 65 [rgV r, .c (.ptr 0 0)] [.cells [.d (.int .i64 top)]] (one (B (!rgB top r)) [.cells [.d (.int .i64 top)]]) := by
  refine acall_atE (bad := []) (kp := kp65) (X := tx) (nt := 20) (rs := [.tmp 3]) Try.func65 rfl rfl rfl rfl mo (by kernel_rfl) rfl rfl (fun hf => ?_)
  by_cases h1 : r.lo < 0
  · have e : rgB top r = false := by simp [rgB, h1]
    simp (maxSteps := 2000000) only [go_sem, reduceIte, Nat.reduceEqDiff, Nat.reduceAdd, Nat.reduceLeDiff, Nat.reduceBEq, lk18, lk46, lk47, lk48, lk49, lk65, rgV, rgC, h1, e]
    all_goals first | exact .refl _ | exact ⟨.refl _, .refl _⟩ | exact ⟨.refl _, .refl _, .refl _⟩ | exact ⟨.refl _, _, rfl⟩ | exact ⟨_, rfl⟩ | exact ⟨.refl _, [], by simp⟩ | exact ⟨[], by simp⟩
  · by_cases h2 : r.hi < r.lo
    · have e : rgB top r = false := by simp [rgB, h2]
      simp (maxSteps := 2000000) only [go_sem, reduceIte, Nat.reduceEqDiff, Nat.reduceAdd, Nat.reduceLeDiff, Nat.reduceBEq, lk18, lk46, lk47, lk48, lk49, lk65, rgV, rgC, h1, h2, e]
      all_goals first | exact .refl _ | exact ⟨.refl _, .refl _⟩ | exact ⟨.refl _, .refl _, .refl _⟩ | exact ⟨.refl _, _, rfl⟩ | exact ⟨_, rfl⟩ | exact ⟨.refl _, [], by simp⟩ | exact ⟨[], by simp⟩
    · have e : rgB top r = !decide (top < r.hi) := by simp [rgB, h1, h2]
      simp (maxSteps := 2000000) only [go_sem, reduceIte, Nat.reduceEqDiff, Nat.reduceAdd, Nat.reduceLeDiff, Nat.reduceBEq, lk18, lk46, lk47, lk48, lk49, lk65, rgV, rgC, h1, h2, e, Bool.not_not]
      all_goals first | exact .refl _ | exact ⟨.refl _, .refl _⟩ | exact ⟨.refl _, .refl _, .refl _⟩ | exact ⟨.refl _, _, rfl⟩ | exact ⟨_, rfl⟩ | exact ⟨.refl _, [], by simp⟩ | exact ⟨[], by simp⟩
theorem within47 (top : Int) (l : List Rg) : Pure Try.prog 47 [I top, rgs l] (B (l.all (rgB top))) := by
  refine pure_wkE (bad := []) (kp := kp47) (X := tx) (nt := 9) (rs := [.tmp 4]) Try.func47 rfl rfl rfl rfl mo (by kernel_rfl) rfl rfl (fun hf => ?_)
  simp (maxSteps := 2000000) only [go_sem, reduceIte, Nat.reduceEqDiff, Nat.reduceAdd, lk18, lk46, lk47, lk48, lk49, lk65, rgs]
  refine aops_at (has64 l 65 [.ptr 0 0] (fun r => !rgB top r) [.cells [.d (.int .i64 top)]] rfl rfl (fun x _ => bad65 top x)) rfl rfl (by first | exact wk_refls _ | (repeat constructor)) ?_
  simp (maxSteps := 2000000) only [go_sem, reduceIte, Nat.reduceEqDiff, lk18, lk46, lk47, lk48, lk49, lk65]
  rw [show l.any (fun r => !rgB top r) = !l.all (rgB top) by rw [List.not_all_eq_any_not], Bool.not_not]
  all_goals first | exact .refl _ | exact ⟨.refl _, .refl _⟩ | exact ⟨.refl _, .refl _, .refl _⟩ | exact ⟨.refl _, _, rfl⟩ | exact ⟨_, rfl⟩ | exact ⟨.refl _, [], by simp⟩ | exact ⟨[], by simp⟩
def one (n : Int) : Rg := ⟨n, n⟩
theorem rgB1 (top n : Int) : rgB top ⟨n, n⟩ = (decide (0 ≤ n) && decide (n ≤ top)) := by
  rw [Bool.eq_iff_iff, rgB_iff]; simp
/-- A dye is valid. -/
def dyB (d : Dy) : Bool := (decide (0 ≤ d.a) && decide (d.a ≤ 6)) && ((decide (0 ≤ d.b) && decide (d.b ≤ 6)) && (!(decide (d.a = 0) && decide (d.b = 0)) && ((decide (0 ≤ d.p) && decide (d.p ≤ 1000000)) && fastB d.f)))
structure OkD (d : Dy) : Prop where
  a0 : 0 ≤ d.a
  a6 : d.a ≤ 6
  b0 : 0 ≤ d.b
  b6 : d.b ≤ 6
  ab : ¬ (d.a = 0 ∧ d.b = 0)
  p0 : 0 ≤ d.p
  p6 : d.p ≤ 1000000
  f1 : 1 ≤ d.f
  f8 : d.f ≤ 8
theorem dyB_iff (d : Dy) : dyB d = true ↔ OkD d := by
  simp only [dyB, fastB, Bool.and_eq_true, decide_eq_true_eq, Bool.not_eq_true', Bool.and_eq_false_iff, decide_eq_false_iff_not]
  constructor
  · rintro ⟨⟨h1, h2⟩, ⟨h3, h4⟩, h5, ⟨h6, h7⟩, h8, h9⟩
    exact ⟨h1, h2, h3, h4, by rintro ⟨q1, q2⟩; rcases h5 with h5 | h5 <;> contradiction, h6, h7, h8, h9⟩
  · intro h
    refine ⟨⟨h.a0, h.a6⟩, ⟨h.b0, h.b6⟩, ?_, ⟨h.p0, h.p6⟩, h.f1, h.f8⟩
    by_cases q : d.a = 0
    · exact .inr fun q2 => h.ab ⟨q, q2⟩
    · exact .inl q
set_option maxHeartbeats 2000000 in
theorem bad46 (d : Dy) : Pure Try.prog 46 [dyV d] (B (!dyB d)) := by
  refine pure_wkE (bad := []) (kp := kp46) (X := tx) (nt := 34) (rs := [.tmp 2]) Try.func46 rfl rfl rfl rfl mo (by kernel_rfl) rfl rfl (fun hf => ?_)
  simp (maxSteps := 2000000) only [go_sem, reduceIte, Nat.reduceEqDiff, Nat.reduceAdd, Nat.reduceLeDiff, Nat.reduceBEq, Nat.reduceMul, Int.reduceLT, Int.reduceLE, Int.reduceToNat, lk18, lk46, lk47, lk48, lk49, lk65, dyV, dyC]
  refine dops_pure' (one48 d.a) rfl rfl (by first | exact wk_refls _ | (repeat constructor)) (by kernel_rfl) ?_
  simp (maxSteps := 2000000) only [go_sem, reduceIte, Nat.reduceEqDiff, Nat.reduceAdd, Nat.reduceLeDiff, Nat.reduceBEq, Nat.reduceMul, Int.reduceLT, Int.reduceLE, Int.reduceToNat, lk18, lk46, lk47, lk48, lk49, lk65, rgV, rgC]
  refine dops_pure' (one48 d.b) rfl rfl (by first | exact wk_refls _ | (repeat constructor)) (by kernel_rfl) ?_
  simp (maxSteps := 2000000) only [go_sem, reduceIte, Nat.reduceEqDiff, Nat.reduceAdd, Nat.reduceLeDiff, Nat.reduceBEq, Nat.reduceMul, lk18, lk46, lk47, lk48, lk49, lk65, rgV, rgC]
  refine dops_pure' (within47 6 [⟨d.a, d.a⟩, ⟨d.b, d.b⟩]) rfl rfl (by first | exact wk_refls _ | (repeat constructor)) (by kernel_rfl) ?_
  have e1 : [⟨d.a, d.a⟩, ⟨d.b, d.b⟩].all (rgB 6) = ((decide (0 ≤ d.a) && decide (d.a ≤ 6)) && (decide (0 ≤ d.b) && decide (d.b ≤ 6))) := by simp [rgB1]
  rw [e1]
  have ed : dyB d = (((decide (0 ≤ d.a) && decide (d.a ≤ 6)) && (decide (0 ≤ d.b) && decide (d.b ≤ 6))) && (!(decide (d.a = 0) && decide (d.b = 0)) && ((decide (0 ≤ d.p) && decide (d.p ≤ 1000000)) && fastB d.f))) := by simp only [dyB, Bool.and_assoc]
  have eq0 : eqCs [C.d (.int .i64 d.a), .d (.int .i64 d.b)] [C.d (.int .i64 0), .d (.int .i64 0)] = some (decide (d.a = 0) && decide (d.b = 0)) := by simp [eqCs, eqC]
  have ep : [⟨d.p, d.p⟩].all (rgB 1000000) = (decide (0 ≤ d.p) && decide (d.p ≤ 1000000)) := by simp [rgB1]
  have hw := within47 1000000 [⟨d.p, d.p⟩]
  rw [ep] at hw
  generalize ((decide (0 ≤ d.a) && decide (d.a ≤ 6)) && (decide (0 ≤ d.b) && decide (d.b ≤ 6))) = A at *
  generalize hZ : (decide (d.a = 0) && decide (d.b = 0)) = Z at *
  generalize (decide (0 ≤ d.p) && decide (d.p ≤ 1000000)) = Pp at *
  cases A with
  | false => simp (maxSteps := 2000000) only [go_sem, reduceIte, Nat.reduceEqDiff, Nat.reduceAdd, lk18, lk46, lk47, lk48, lk49, lk65, ed]
  | true =>
    simp (maxSteps := 2000000) only [go_sem, reduceIte, Nat.reduceEqDiff, Nat.reduceAdd, Nat.reduceLeDiff, Nat.reduceBEq, lk18, lk46, lk47, lk48, lk49, lk65, eq0, hZ]
    cases Z with
    | true => simp (maxSteps := 2000000) only [go_sem, reduceIte, Nat.reduceEqDiff, Nat.reduceAdd, lk18, lk46, lk47, lk48, lk49, lk65, ed]
    | false =>
      simp (maxSteps := 2000000) only [go_sem, reduceIte, Nat.reduceEqDiff, Nat.reduceAdd, Nat.reduceLeDiff, Nat.reduceBEq, lk18, lk46, lk47, lk48, lk49, lk65]
      refine dops_pure' (one48 d.p) rfl rfl (by first | exact wk_refls _ | (repeat constructor)) (by kernel_rfl) ?_
      simp (maxSteps := 2000000) only [go_sem, reduceIte, Nat.reduceEqDiff, Nat.reduceAdd, Nat.reduceLeDiff, Nat.reduceBEq, Nat.reduceMul, lk18, lk46, lk47, lk48, lk49, lk65, rgV, rgC]
      refine dops_pure' (hw) rfl rfl (by first | exact wk_refls _ | (repeat constructor)) (by kernel_rfl) ?_
      cases Pp with
      | false => simp (maxSteps := 2000000) only [go_sem, reduceIte, Nat.reduceEqDiff, Nat.reduceAdd, lk18, lk46, lk47, lk48, lk49, lk65, ed]
      | true =>
        simp (maxSteps := 2000000) only [go_sem, reduceIte, Nat.reduceEqDiff, Nat.reduceAdd, Nat.reduceBEq, lk18, lk46, lk47, lk48, lk49, lk65]
        refine dops_pure' (fast49 d.f) rfl rfl (by first | exact wk_refls _ | (repeat constructor)) (by kernel_rfl) ?_
        simp (maxSteps := 2000000) only [go_sem, reduceIte, Nat.reduceEqDiff, Nat.reduceAdd, lk18, lk46, lk47, lk48, lk49, lk65, ed]
def okShelf (l : List Dy) : Int := if l.length = 0 ∨ 8 < l.length then 6 else if l.all dyB then 0 else 2
structure OkL (l : List Dy) : Prop where
  n1 : 0 < l.length
  n8 : l.length ≤ 8
  ok : ∀ d ∈ l, OkD d
theorem okShelf_iff (l : List Dy) : okShelf l = 0 ↔ OkL l := by
  unfold okShelf
  constructor
  · intro h
    by_cases h1 : l.length = 0 ∨ 8 < l.length
    · rw [if_pos h1] at h; cases h
    · rw [if_neg h1] at h
      by_cases h2 : l.all dyB = true
      · exact ⟨by omega, by omega, fun d hd => (dyB_iff d).1 (List.all_eq_true.1 h2 d hd)⟩
      · rw [if_neg h2] at h; cases h
  · intro h
    have h1 := h.n1
    have h8 := h.n8
    rw [if_neg (by omega), if_pos (List.all_eq_true.2 fun d hd => (dyB_iff d).2 (h.ok d hd))]
set_option maxHeartbeats 2000000 in
theorem shelf18 (l : List Dy) : Pure Try.prog 18 [dys l] (I (okShelf l)) := by
  refine pure_wkE (bad := []) (kp := kp18) (X := tx) (nt := 17) (rs := [.tmp 2]) Try.func18 rfl rfl rfl rfl mo (by kernel_rfl) rfl rfl (fun hf => ?_)
  have hc := has50 l 46 [] (fun d => !dyB d) [] rfl rfl (fun x _ => (bad46 x).at _)
  simp (maxSteps := 2000000) only [go_sem, reduceIte, Nat.reduceEqDiff, Nat.reduceAdd, lk18, lk46, lk47, lk48, lk49, lk65, dys]
  by_cases h0 : l.length = 0
  · have h0' : (l.length : Int) = 0 := by omega
    have e : okShelf l = 6 := by simp only [okShelf]; rw [if_pos (.inl h0)]
    simp (maxSteps := 2000000) only [go_sem, reduceIte, Nat.reduceEqDiff, Nat.reduceAdd, lk18, lk46, lk47, lk48, lk49, lk65, h0', e]
  · have h0' : ¬ (l.length : Int) = 0 := by omega
    by_cases h8 : 8 < l.length
    · have h8' : (8 : Int) < l.length := by omega
      have e : okShelf l = 6 := by simp only [okShelf]; rw [if_pos (.inr h8)]
      simp (maxSteps := 2000000) only [go_sem, reduceIte, Nat.reduceEqDiff, Nat.reduceAdd, lk18, lk46, lk47, lk48, lk49, lk65, h0', h8', e]
    · have h8' : ¬ (8 : Int) < l.length := by omega
      have e : okShelf l = if l.all dyB then 0 else 2 := by simp only [okShelf]; rw [if_neg (by omega)]
      simp (maxSteps := 2000000) only [go_sem, reduceIte, Nat.reduceEqDiff, Nat.reduceAdd, lk18, lk46, lk47, lk48, lk49, lk65, h0', h8']
      refine aops_at (hc) rfl rfl (by first | exact wk_refls _ | (repeat constructor)) ?_
      have ea : l.any (fun d => !dyB d) = !l.all dyB := by rw [List.not_all_eq_any_not]
      rw [ea]
      cases ha : l.all dyB with
      | true =>
        rw [ha] at e
        simp (maxSteps := 2000000) only [go_sem, reduceIte, Nat.reduceEqDiff, Nat.reduceAdd, lk18, lk46, lk47, lk48, lk49, lk65, e]
      | false =>
        rw [ha] at e
        simp (maxSteps := 2000000) only [go_sem, reduceIte, Nat.reduceEqDiff, Nat.reduceAdd, lk18, lk46, lk47, lk48, lk49, lk65, e]
end Go.Proofs.Ytkbnmanfoejoiaa
/- Dyes: recipes. -/
set_option linter.unusedSimpArgs false
set_option linter.unusedVariables false
set_option maxRecDepth 100000
namespace Go.Proofs.Ytkbnmanfoejoiaa
open Go Go.Abs Go.Proofs
def kp19 : List (Nat × List Nat) := [(0, [0]), (1, [0, 13]), (2, [2]), (3, [0, 3]), (4, [0, 3, 17]), (5, [0, 3]), (6, [0, 3, 4]), (7, [0, 3, 4, 5]), (8, [0, 3, 4, 5, 25]), (9, [0, 3, 4, 5]), (10, [0, 3, 4, 5, 39]), (11, [2]), (12, [0, 3, 69]), (13, [2]), (14, [2])]
theorem lk19 : lookK kp19 0 = some [0] ∧ lookK kp19 1 = some [0, 13] ∧ lookK kp19 2 = some [2] ∧ lookK kp19 3 = some [0, 3] ∧ lookK kp19 4 = some [0, 3, 17] ∧ lookK kp19 5 = some [0, 3] ∧ lookK kp19 6 = some [0, 3, 4] ∧ lookK kp19 7 = some [0, 3, 4, 5] ∧ lookK kp19 8 = some [0, 3, 4, 5, 25] ∧ lookK kp19 9 = some [0, 3, 4, 5] ∧ lookK kp19 10 = some [0, 3, 4, 5, 39] ∧ lookK kp19 11 = some [2] ∧ lookK kp19 12 = some [0, 3, 69] ∧ lookK kp19 13 = some [2] ∧ lookK kp19 14 = some [2] := ⟨rfl, rfl, rfl, rfl, rfl, rfl, rfl, rfl, rfl, rfl, rfl, rfl, rfl, rfl, rfl⟩
def kp20 : List (Nat × List Nat) := [(0, [0, 1]), (1, [0, 1, 10]), (2, [4]), (3, [0, 1, 5]), (4, [0, 1, 5, 14]), (5, [0, 1, 5]), (6, [0, 1, 5, 25]), (7, [4]), (8, [4])]
theorem lk20 : lookK kp20 0 = some [0, 1] ∧ lookK kp20 1 = some [0, 1, 10] ∧ lookK kp20 2 = some [4] ∧ lookK kp20 3 = some [0, 1, 5] ∧ lookK kp20 4 = some [0, 1, 5, 14] ∧ lookK kp20 5 = some [0, 1, 5] ∧ lookK kp20 6 = some [0, 1, 5, 25] ∧ lookK kp20 7 = some [4] ∧ lookK kp20 8 = some [4] := ⟨rfl, rfl, rfl, rfl, rfl, rfl, rfl, rfl, rfl⟩
def kp39 : List (Nat × List Nat) := [(0, [0, 1]), (1, [1, 5]), (2, [4]), (3, [11]), (4, [4]), (5, [4])]
theorem lk39 : lookK kp39 0 = some [0, 1] ∧ lookK kp39 1 = some [1, 5] ∧ lookK kp39 2 = some [4] ∧ lookK kp39 3 = some [11] ∧ lookK kp39 4 = some [4] ∧ lookK kp39 5 = some [4] := ⟨rfl, rfl, rfl, rfl, rfl, rfl⟩
def kp41 : List (Nat × List Nat) := [(0, [0, 1]), (1, [1, 10]), (2, [4]), (3, [1, 5]), (4, [1, 5, 14]), (5, [1, 5]), (6, [1, 5, 28]), (7, [4]), (8, [4])]
theorem lk41 : lookK kp41 0 = some [0, 1] ∧ lookK kp41 1 = some [1, 10] ∧ lookK kp41 2 = some [4] ∧ lookK kp41 3 = some [1, 5] ∧ lookK kp41 4 = some [1, 5, 14] ∧ lookK kp41 5 = some [1, 5] ∧ lookK kp41 6 = some [1, 5, 28] ∧ lookK kp41 7 = some [4] ∧ lookK kp41 8 = some [4] := ⟨rfl, rfl, rfl, rfl, rfl, rfl, rfl, rfl, rfl⟩
def kp62 : List (Nat × List Nat) := [(0, [0]), (1, [2])]
theorem lk62 : lookK kp62 0 = some [0] ∧ lookK kp62 1 = some [2] := ⟨rfl, rfl⟩

theorem bnd {i n : Nat} (h : i < n) : (decide ((0 : Int) ≤ (i : Int)) && decide ((i : Int) < (n : Int))) = true := by simp; omega
set_option maxHeartbeats 1000000 in
theorem longs20 (a b : List Int) : Pure Try.prog 20 [ints a, ints b] (B (decide (a = b))) := by
  refine pure_wkE (bad := []) (kp := kp20) (X := tx) (nt := 26) (rs := [.tmp 4]) Try.func20 rfl rfl rfl rfl mo (by kernel_rfl) rfl rfl (fun hf => ?_)
  have ha := fit_ints (hf (ints a) (by simp))
  simp (maxSteps := 2000000) only [go_sem, reduceIte, Nat.reduceEqDiff, Nat.reduceAdd, lk19, lk20, lk39, lk41, lk62, ints]
  refine goE_if (fun h => ?_) (fun h => ?_)
  · have hne : a ≠ b := fun e => by simp [e] at h
    simp (maxSteps := 2000000) only [go_sem, reduceIte, Nat.reduceEqDiff, Nat.reduceAdd, lk19, lk20, lk39, lk41, lk62, hne]
  have hlen : a.length = b.length := by simp at h; omega
  simp (maxSteps := 2000000) only [go_sem, reduceIte, Nat.reduceEqDiff, Nat.reduceAdd, lk19, lk20, lk39, lk41, lk62]
  refine goE_loop (bad := []) (kp := kp20) (fun i : Nat => { slots := [(0, ints a), (1, ints b), (5, I i)], heap := [], marks := [] }) (fun i => i ≤ a.length ∧ a.take i = b.take i) (fun i => a.length - i) 0 mo (by kernel_rfl) ?_ (by simp) ?_
  · refine ent_weaken [] rfl rfl (Nat.zero_le _) rfl rfl ?_
    simp (maxSteps := 2000000) only [go_sem, reduceIte, Nat.reduceEqDiff, lk19, lk20, lk39, lk41, lk62, ints]
    all_goals first | exact .refl _ | exact ⟨.refl _, .refl _⟩ | exact ⟨.refl _, .refl _, .refl _⟩ | exact ⟨.refl _, _, rfl⟩ | exact ⟨_, rfl⟩ | exact ⟨.refl _, [], by simp⟩ | exact ⟨[], by simp⟩
  rintro i ⟨hi, ht⟩
  simp (maxSteps := 2000000) only [go_sem, reduceIte, Nat.reduceEqDiff, Nat.reduceAdd, lk19, lk20, lk39, lk41, lk62, ints]
  refine goE_if (fun h => ?_) (fun h => ?_)
  · have hlt : i < a.length := by simpa using h
    obtain ⟨x, hx⟩ := get_of_lt hlt
    obtain ⟨y, hy⟩ := get_of_lt (hlen ▸ hlt)
    simp (maxSteps := 2000000) only [go_sem, reduceIte, Nat.reduceEqDiff, Nat.reduceAdd, lk19, lk20, lk39, lk41, lk62, hx, hy, iD, bnd hlt, bnd (show i < b.length by omega)]
    refine goE_if (fun hn => ?_) (fun hn => ?_)
    · have hne : a ≠ b := fun e => by subst e; rw [hx] at hy; cases hy; simp at hn
      simp (maxSteps := 2000000) only [go_sem, reduceIte, Nat.reduceEqDiff, Nat.reduceAdd, lk19, lk20, lk39, lk41, lk62, hne]
    · simp (maxSteps := 2000000) only [go_sem, reduceIte, Nat.reduceEqDiff, Nat.reduceAdd, lk19, lk20, lk39, lk41, lk62, wr_succ hlt ha]
      refine ⟨i + 1, ⟨hlt, ?_⟩, by omega, ?_⟩
      · have : x = y := by simpa using hn
        rw [take_succ_eq hx, take_succ_eq hy, ht, this]
      · refine ent_weaken [] rfl rfl (Nat.zero_le _) rfl rfl ?_
        simp (maxSteps := 2000000) only [go_sem, reduceIte, Nat.reduceEqDiff, lk19, lk20, lk39, lk41, lk62]
  · have : i = a.length := by simp at h; omega
    subst this
    rw [List.take_length] at ht
    have e : a = b := by rw [ht, hlen, List.take_length]
    simp (maxSteps := 2000000) only [go_sem, reduceIte, Nat.reduceEqDiff, Nat.reduceAdd, lk19, lk20, lk39, lk41, lk62, e]
theorem badr62 (n : Int) : Pure Try.prog 62 [I n] (B (!(decide (0 ≤ n) && decide (n ≤ 20)))) := by
  refine pure_wkE (bad := []) (kp := kp62) (X := tx) (nt := 8) (rs := [.tmp 2]) Try.func62 rfl rfl rfl rfl mo (by kernel_rfl) rfl rfl (fun hf => ?_)
  simp (maxSteps := 2000000) only [go_sem, reduceIte, Nat.reduceEqDiff, Nat.reduceAdd, lk19, lk20, lk39, lk41, lk62]
  refine aops_pure' (one48 n) rfl rfl (by first | exact wk_refls _ | (repeat constructor)) ?_
  simp (maxSteps := 2000000) only [go_sem, reduceIte, Nat.reduceEqDiff, Nat.reduceAdd, Nat.reduceLeDiff, Nat.reduceBEq, Nat.reduceMul, lk19, lk20, lk39, lk41, lk62, rgV, rgC]
  refine aops_pure' (within47 20 [⟨n, n⟩]) rfl rfl (by first | exact wk_refls _ | (repeat constructor)) ?_
  have e : [⟨n, n⟩].all (rgB 20) = (decide (0 ≤ n) && decide (n ≤ 20)) := by simp [rgB1]
  rw [e]
  simp (maxSteps := 2000000) only [go_sem, reduceIte, Nat.reduceEqDiff, lk19, lk20, lk39, lk41, lk62]
def recB (l : List Int) : Bool := l.all (fun n => decide (0 ≤ n) && decide (n ≤ 20))
def okRec (l : List Dy) (r : List Int) : Int := if r.length = l.length then (if recB r then 0 else 3) else 15
theorem isRec39 (l : List Dy) (r : List Int) : Pure Try.prog 39 [dys l, ints r] (I (okRec l r)) := by
  refine pure_wkE (bad := []) (kp := kp39) (X := tx) (nt := 14) (rs := [.tmp 4]) Try.func39 rfl rfl rfl rfl mo (by kernel_rfl) rfl rfl (fun hf => ?_)
  have hc := has61 r 62 [] (fun n => !(decide (0 ≤ n) && decide (n ≤ 20))) [] rfl rfl (fun x _ => (badr62 x).at _)
  simp (maxSteps := 2000000) only [go_sem, reduceIte, Nat.reduceEqDiff, Nat.reduceAdd, lk19, lk20, lk39, lk41, lk62, dys, ints]
  by_cases h : r.length = l.length
  · have h' : (r.length : Int) = l.length := by omega
    simp (maxSteps := 2000000) only [go_sem, reduceIte, Nat.reduceEqDiff, Nat.reduceAdd, lk19, lk20, lk39, lk41, lk62, h']
    refine aops_at (hc) rfl rfl (by first | exact wk_refls _ | (repeat constructor)) ?_
    have ea : r.any (fun n => !(decide (0 ≤ n) && decide (n ≤ 20))) = !recB r := by rw [recB, List.not_all_eq_any_not]
    rw [ea]
    have e : okRec l r = if recB r then 0 else 3 := by simp only [okRec, if_pos h]
    cases ha : recB r with
    | true =>
      rw [ha] at e
      simp (maxSteps := 2000000) only [go_sem, reduceIte, Nat.reduceEqDiff, Nat.reduceAdd, lk19, lk20, lk39, lk41, lk62, e]
    | false =>
      rw [ha] at e
      simp (maxSteps := 2000000) only [go_sem, reduceIte, Nat.reduceEqDiff, Nat.reduceAdd, lk19, lk20, lk39, lk41, lk62, e]
  · have h' : ¬ (r.length : Int) = l.length := by omega
    have e : okRec l r = 15 := by simp only [okRec, if_neg h]
    simp (maxSteps := 2000000) only [go_sem, reduceIte, Nat.reduceEqDiff, Nat.reduceAdd, lk19, lk20, lk39, lk41, lk62, h', e]
set_option maxHeartbeats 2000000 in
theorem isRec41 (l : List Dy) (r : List Int) : Pure Try.prog 41 [dys l, ints r] (I (okRec l r)) := by
  refine pure_wkE (bad := []) (kp := kp41) (X := tx) (nt := 29) (rs := [.tmp 4]) Try.func41 rfl rfl rfl rfl mo (by kernel_rfl) rfl rfl (fun hf => ?_)
  have hr := fit_ints (hf (ints r) (by simp))
  simp (maxSteps := 2000000) only [go_sem, reduceIte, Nat.reduceEqDiff, Nat.reduceAdd, lk19, lk20, lk39, lk41, lk62, dys, ints]
  by_cases h : r.length = l.length
  case neg =>
    have h' : ¬ (r.length : Int) = l.length := by omega
    have e : okRec l r = 15 := by simp only [okRec, if_neg h]
    simp (maxSteps := 2000000) only [go_sem, reduceIte, Nat.reduceEqDiff, Nat.reduceAdd, lk19, lk20, lk39, lk41, lk62, h', e]
  have h' : (r.length : Int) = l.length := by omega
  have e : okRec l r = if recB r then 0 else 3 := by simp only [okRec, if_pos h]
  simp (maxSteps := 2000000) only [go_sem, reduceIte, Nat.reduceEqDiff, Nat.reduceAdd, lk19, lk20, lk39, lk41, lk62, h']
  refine goE_loop (bad := []) (kp := kp41) (fun i : Nat => { slots := [(1, ints r), (5, I i)], heap := [], marks := [] }) (fun i => i ≤ r.length ∧ ∀ (j : Nat) x, j < i → r[j]? = some x → (decide (0 ≤ x) && decide (x ≤ 20)) = true) (fun i => r.length - i) 0 mo (by kernel_rfl) ?_ ⟨Nat.zero_le _, by intro j x hj; omega⟩ ?_
  · refine ent_weaken [] rfl rfl (Nat.zero_le _) rfl rfl ?_
    simp (maxSteps := 2000000) only [go_sem, reduceIte, Nat.reduceEqDiff, lk19, lk20, lk39, lk41, lk62, ints]
    all_goals first | exact .refl _ | exact ⟨.refl _, .refl _⟩ | exact ⟨.refl _, .refl _, .refl _⟩ | exact ⟨.refl _, _, rfl⟩ | exact ⟨_, rfl⟩ | exact ⟨.refl _, [], by simp⟩ | exact ⟨[], by simp⟩
  rintro i ⟨hi, hall⟩
  simp (maxSteps := 2000000) only [go_sem, reduceIte, Nat.reduceEqDiff, Nat.reduceAdd, lk19, lk20, lk39, lk41, lk62, ints]
  by_cases hlt : i < r.length
  · have hlt' : (i : Int) < r.length := by omega
    obtain ⟨x, hx⟩ := get_of_lt hlt
    have bad : (decide (0 ≤ x) && decide (x ≤ 20)) = false → okRec l r = 3 := fun hb => by
      rw [e, if_neg]
      intro h2
      have := List.all_eq_true.1 h2 x (List.mem_of_getElem? hx)
      rw [hb] at this; cases this
    by_cases c1 : x < 0
    · have e3 := bad (by simp; omega)
      simp (maxSteps := 2000000) only [go_sem, reduceIte, Nat.reduceEqDiff, Nat.reduceAdd, lk19, lk20, lk39, lk41, lk62, hlt', hx, iD, nn, c1, e3]
    · by_cases c2 : 20 < x
      · have e3 := bad (by simp; omega)
        simp (maxSteps := 2000000) only [go_sem, reduceIte, Nat.reduceEqDiff, Nat.reduceAdd, lk19, lk20, lk39, lk41, lk62, hlt', hx, iD, nn, c1, c2, e3]
      · have m1 : r.length - (i + 1) < r.length - i := by omega
        have c3 := upto_succ hall hx (by simp; omega)
        have w3 := wr_succ hlt hr
        simp (maxSteps := 2000000) only [go_sem, reduceIte, Nat.reduceEqDiff, Nat.reduceAdd, lk19, lk20, lk39, lk41, lk62, hlt', hx, iD, nn, c1, c2, w3]
        refine ⟨i + 1, ⟨hlt, c3⟩, m1, ?_⟩
        refine ent_weaken [] rfl rfl (Nat.zero_le _) rfl rfl ?_
        simp (maxSteps := 2000000) only [go_sem, reduceIte, Nat.reduceEqDiff, lk19, lk20, lk39, lk41, lk62]
        all_goals first | exact .refl _ | exact ⟨.refl _, .refl _⟩ | exact ⟨.refl _, .refl _, .refl _⟩ | exact ⟨.refl _, _, rfl⟩ | exact ⟨_, rfl⟩ | exact ⟨.refl _, [], by simp⟩ | exact ⟨[], by simp⟩
  · have hlt' : ¬ (i : Int) < r.length := by omega
    have e0 : okRec l r = 0 := by
      rw [e, if_pos]
      exact List.all_eq_true.2 fun x hx => by
        obtain ⟨j, hj⟩ := List.getElem?_of_mem hx
        exact hall j x (by have := (List.getElem?_eq_some_iff.1 hj).1; omega) hj
    simp (maxSteps := 2000000) only [go_sem, reduceIte, Nat.reduceEqDiff, Nat.reduceAdd, lk19, lk20, lk39, lk41, lk62, hlt', e0]
set_option maxHeartbeats 4000000 in
theorem shelf19 (l : List Dy) : Pure Try.prog 19 [dys l] (I (okShelf l)) := by
  refine pure_wkE (bad := []) (kp := kp19) (X := tx) (nt := 70) (rs := [.tmp 2]) Try.func19 rfl rfl rfl rfl mo (by kernel_rfl) rfl rfl (fun hf => ?_)
  have hl := fit_dys (hf (dys l) (by simp))
  simp (maxSteps := 2000000) only [go_sem, reduceIte, Nat.reduceEqDiff, Nat.reduceAdd, lk19, lk20, lk39, lk41, lk62, dys]
  by_cases h0 : l.length = 0
  · have h0' : (l.length : Int) < 1 := by omega
    have e : okShelf l = 6 := by simp only [okShelf]; rw [if_pos (.inl h0)]
    simp (maxSteps := 2000000) only [go_sem, reduceIte, Nat.reduceEqDiff, Nat.reduceAdd, lk19, lk20, lk39, lk41, lk62, h0', e]
  have h0' : ¬ (l.length : Int) < 1 := by omega
  by_cases h8 : 8 < l.length
  · have h8' : (8 : Int) < l.length := by omega
    have e : okShelf l = 6 := by simp only [okShelf]; rw [if_pos (.inr h8)]
    simp (maxSteps := 2000000) only [go_sem, reduceIte, Nat.reduceEqDiff, Nat.reduceAdd, lk19, lk20, lk39, lk41, lk62, h0', h8', e]
  have h8' : ¬ (8 : Int) < l.length := by omega
  have e : okShelf l = if l.all dyB then 0 else 2 := by simp only [okShelf]; rw [if_neg (by omega)]
  simp (maxSteps := 2000000) only [go_sem, reduceIte, Nat.reduceEqDiff, Nat.reduceAdd, lk19, lk20, lk39, lk41, lk62, h0', h8']
  refine goE_loop (bad := []) (kp := kp19) (fun i : Nat => { slots := [(0, dys l), (3, I i)], heap := [], marks := [] }) (fun i => i ≤ l.length ∧ ∀ (j : Nat) x, j < i → l[j]? = some x → dyB x = true) (fun i => l.length - i) 0 mo (by kernel_rfl) ?_ ⟨Nat.zero_le _, by intro j x hj; omega⟩ ?_
  · refine ent_weaken [] rfl rfl (Nat.zero_le _) rfl rfl ?_
    simp (maxSteps := 2000000) only [go_sem, reduceIte, Nat.reduceEqDiff, lk19, lk20, lk39, lk41, lk62, dys]
    all_goals first | exact .refl _ | exact ⟨.refl _, .refl _⟩ | exact ⟨.refl _, .refl _, .refl _⟩ | exact ⟨.refl _, _, rfl⟩ | exact ⟨_, rfl⟩ | exact ⟨.refl _, [], by simp⟩ | exact ⟨[], by simp⟩
  rintro i ⟨hi, hall⟩
  simp (maxSteps := 2000000) only [go_sem, reduceIte, Nat.reduceEqDiff, Nat.reduceAdd, lk19, lk20, lk39, lk41, lk62, dys]
  by_cases hlt : i < l.length
  case neg =>
    have hlt' : ¬ (i : Int) < l.length := by omega
    have e0 : okShelf l = 0 := by
      rw [e, if_pos]
      exact List.all_eq_true.2 fun x hx => by
        obtain ⟨j, hj⟩ := List.getElem?_of_mem hx
        exact hall j x (by have := (List.getElem?_eq_some_iff.1 hj).1; omega) hj
    simp (maxSteps := 2000000) only [go_sem, reduceIte, Nat.reduceEqDiff, Nat.reduceAdd, lk19, lk20, lk39, lk41, lk62, hlt', e0]
  have hlt' : (i : Int) < l.length := by omega
  obtain ⟨d, hd⟩ := get_of_lt hlt
  have bad : dyB d = false → okShelf l = 2 := fun hb => by
    rw [e, if_neg]
    intro h2
    have := List.all_eq_true.1 h2 d (List.mem_of_getElem? hd)
    rw [hb] at this; cases this
  have m1 : l.length - (i + 1) < l.length - i := by omega
  have hok : ∀ h : dyB d = true, ∀ (j : Nat) x, j < i + 1 → l[j]? = some x → dyB x = true := fun h => upto_succ hall hd h
  have w3 := wr_succ hlt hl
  simp (maxSteps := 2000000) only [go_sem, reduceIte, Nat.reduceEqDiff, Nat.reduceAdd, lk19, lk20, lk39, lk41, lk62, hlt', hd, dyD, nn]
  refine goE_loop (bad := []) (kp := kp19) (fun k : Nat => { slots := [(0, dys l), (3, I i), (4, .c (.ptr 0 0)), (5, I k)], heap := [.cells (dyC d)], marks := [] }) (fun k => k ≤ 2 ∧ (0 < k → 0 ≤ d.a ∧ d.a ≤ 6) ∧ (1 < k → 0 ≤ d.b ∧ d.b ≤ 6)) (fun k => 2 - k) 0 mo (by kernel_rfl) ?_ ⟨Nat.zero_le _, by intro h; omega, by intro h; omega⟩ ?_
  · refine ent_weaken [] rfl rfl (Nat.zero_le _) rfl rfl ?_
    simp (maxSteps := 2000000) only [go_sem, reduceIte, Nat.reduceEqDiff, Nat.reduceLT, lk19, lk20, lk39, lk41, lk62, dys, dyC]
    all_goals first | exact .refl _ | exact ⟨.refl _, .refl _⟩ | exact ⟨.refl _, .refl _, .refl _⟩ | exact ⟨.refl _, _, rfl⟩ | exact ⟨_, rfl⟩ | exact ⟨.refl _, [], by simp⟩ | exact ⟨[], by simp⟩
  rintro k ⟨hk, ka, kb⟩
  have hk3 : k = 0 ∨ k = 1 ∨ k = 2 := by omega
  rcases hk3 with rfl | rfl | rfl
  · by_cases c1 : d.a < 0
    · have e2 := bad (by simp [dyB]; omega)
      simp (maxSteps := 2000000) only [go_sem, reduceIte, Nat.reduceEqDiff, Nat.reduceAdd, Nat.reduceLeDiff, Nat.reduceBEq, Nat.reduceMul, Nat.reduceSub, Int.reduceLT, Int.reduceLE, Int.reduceToNat, lk19, lk20, lk39, lk41, lk62, dys, dyC, c1, e2]
    · by_cases c2 : 6 < d.a
      · have e2 := bad (by simp [dyB]; omega)
        simp (maxSteps := 2000000) only [go_sem, reduceIte, Nat.reduceEqDiff, Nat.reduceAdd, Nat.reduceLeDiff, Nat.reduceBEq, Nat.reduceMul, Nat.reduceSub, Int.reduceLT, Int.reduceLE, Int.reduceToNat, lk19, lk20, lk39, lk41, lk62, dys, dyC, c1, c2, e2]
      · have w0 : wr .i64 ((0 : Int) + 1) = 1 := by decide
        simp (maxSteps := 2000000) only [go_sem, reduceIte, Nat.reduceEqDiff, Nat.reduceAdd, Nat.reduceLeDiff, Nat.reduceBEq, Nat.reduceMul, Nat.reduceSub, Int.reduceLT, Int.reduceLE, Int.reduceToNat, lk19, lk20, lk39, lk41, lk62, dys, dyC, c1, c2, w0]
        refine ⟨1, ⟨by decide, fun _ => ⟨by omega, by omega⟩, by intro h; omega⟩, by decide, ?_⟩
        refine ent_weaken [] rfl rfl (Nat.zero_le _) rfl rfl ?_
        simp (maxSteps := 2000000) only [go_sem, reduceIte, Nat.reduceEqDiff, Nat.reduceLT, lk19, lk20, lk39, lk41, lk62, dys, dyC]
        all_goals first | exact .refl _ | exact ⟨.refl _, .refl _⟩ | exact ⟨.refl _, .refl _, .refl _⟩ | exact ⟨.refl _, _, rfl⟩ | exact ⟨_, rfl⟩ | exact ⟨.refl _, [], by simp⟩ | exact ⟨[], by simp⟩
  · by_cases c1 : d.b < 0
    · have e2 := bad (by simp [dyB]; omega)
      simp (maxSteps := 2000000) only [go_sem, reduceIte, Nat.reduceEqDiff, Nat.reduceAdd, Nat.reduceLeDiff, Nat.reduceBEq, Nat.reduceMul, Nat.reduceSub, Int.reduceLT, Int.reduceLE, Int.reduceToNat, lk19, lk20, lk39, lk41, lk62, dys, dyC, c1, e2]
    · by_cases c2 : 6 < d.b
      · have e2 := bad (by simp [dyB]; omega)
        simp (maxSteps := 2000000) only [go_sem, reduceIte, Nat.reduceEqDiff, Nat.reduceAdd, Nat.reduceLeDiff, Nat.reduceBEq, Nat.reduceMul, Nat.reduceSub, Int.reduceLT, Int.reduceLE, Int.reduceToNat, lk19, lk20, lk39, lk41, lk62, dys, dyC, c1, c2, e2]
      · have w0 : wr .i64 ((1 : Int) + 1) = 2 := by decide
        simp (maxSteps := 2000000) only [go_sem, reduceIte, Nat.reduceEqDiff, Nat.reduceAdd, Nat.reduceLeDiff, Nat.reduceBEq, Nat.reduceMul, Nat.reduceSub, Int.reduceLT, Int.reduceLE, Int.reduceToNat, lk19, lk20, lk39, lk41, lk62, dys, dyC, c1, c2, w0]
        refine ⟨2, ⟨by decide, fun _ => ka (by decide), fun _ => ⟨by omega, by omega⟩⟩, by decide, ?_⟩
        refine ent_weaken [] rfl rfl (Nat.zero_le _) rfl rfl ?_
        simp (maxSteps := 2000000) only [go_sem, reduceIte, Nat.reduceEqDiff, Nat.reduceLT, lk19, lk20, lk39, lk41, lk62, dys, dyC]
        all_goals first | exact .refl _ | exact ⟨.refl _, .refl _⟩ | exact ⟨.refl _, .refl _, .refl _⟩ | exact ⟨.refl _, _, rfl⟩ | exact ⟨_, rfl⟩ | exact ⟨.refl _, [], by simp⟩ | exact ⟨[], by simp⟩
  · obtain ⟨a0, a6⟩ := ka (by decide)
    obtain ⟨b0, b6⟩ := kb (by decide)
    have hnot : ¬ OkD d → okShelf l = 2 := fun h => bad (by
      cases hb : dyB d with
      | false => rfl
      | true => exact absurd ((dyB_iff d).1 hb) h)
    by_cases z : d.a = 0 ∧ d.b = 0
    · have e2 := hnot (fun h => h.ab z)
      simp (maxSteps := 2000000) only [go_sem, reduceIte, Nat.reduceEqDiff, Nat.reduceAdd, Nat.reduceLeDiff, Nat.reduceBEq, Nat.reduceMul, Nat.reduceSub, Int.reduceLT, Int.reduceLE, Int.reduceToNat, lk19, lk20, lk39, lk41, lk62, dys, dyC, z.1, z.2, e2]
    have hz : (d.a = 0 → ¬ d.b = 0) := fun h1 h2 => z ⟨h1, h2⟩
    by_cases p1 : d.p < 0
    · have e2 := hnot (fun h => by have := h.p0; omega)
      by_cases z1 : d.a = 0
      · have z2 := hz z1
        simp (maxSteps := 2000000) only [go_sem, reduceIte, Nat.reduceEqDiff, Nat.reduceAdd, Nat.reduceLeDiff, Nat.reduceBEq, Nat.reduceMul, Nat.reduceSub, Int.reduceLT, Int.reduceLE, Int.reduceToNat, lk19, lk20, lk39, lk41, lk62, dys, dyC, z1, z2, p1, e2]
      · simp (maxSteps := 2000000) only [go_sem, reduceIte, Nat.reduceEqDiff, Nat.reduceAdd, Nat.reduceLeDiff, Nat.reduceBEq, Nat.reduceMul, Nat.reduceSub, Int.reduceLT, Int.reduceLE, Int.reduceToNat, lk19, lk20, lk39, lk41, lk62, dys, dyC, z1, p1, e2]
    by_cases p2 : 1000000 < d.p
    · have e2 := hnot (fun h => by have := h.p6; omega)
      by_cases z1 : d.a = 0
      · have z2 := hz z1
        simp (maxSteps := 2000000) only [go_sem, reduceIte, Nat.reduceEqDiff, Nat.reduceAdd, Nat.reduceLeDiff, Nat.reduceBEq, Nat.reduceMul, Nat.reduceSub, Int.reduceLT, Int.reduceLE, Int.reduceToNat, lk19, lk20, lk39, lk41, lk62, dys, dyC, z1, z2, p1, p2, e2]
      · simp (maxSteps := 2000000) only [go_sem, reduceIte, Nat.reduceEqDiff, Nat.reduceAdd, Nat.reduceLeDiff, Nat.reduceBEq, Nat.reduceMul, Nat.reduceSub, Int.reduceLT, Int.reduceLE, Int.reduceToNat, lk19, lk20, lk39, lk41, lk62, dys, dyC, z1, p1, p2, e2]
    by_cases f1 : d.f < 1
    · have e2 := hnot (fun h => by have := h.f1; omega)
      by_cases z1 : d.a = 0
      · have z2 := hz z1
        simp (maxSteps := 2000000) only [go_sem, reduceIte, Nat.reduceEqDiff, Nat.reduceAdd, Nat.reduceLeDiff, Nat.reduceBEq, Nat.reduceMul, Nat.reduceSub, Int.reduceLT, Int.reduceLE, Int.reduceToNat, lk19, lk20, lk39, lk41, lk62, dys, dyC, z1, z2, p1, p2, f1, e2]
      · simp (maxSteps := 2000000) only [go_sem, reduceIte, Nat.reduceEqDiff, Nat.reduceAdd, Nat.reduceLeDiff, Nat.reduceBEq, Nat.reduceMul, Nat.reduceSub, Int.reduceLT, Int.reduceLE, Int.reduceToNat, lk19, lk20, lk39, lk41, lk62, dys, dyC, z1, p1, p2, f1, e2]
    by_cases f2 : 8 < d.f
    · have e2 := hnot (fun h => by have := h.f8; omega)
      by_cases z1 : d.a = 0
      · have z2 := hz z1
        simp (maxSteps := 2000000) only [go_sem, reduceIte, Nat.reduceEqDiff, Nat.reduceAdd, Nat.reduceLeDiff, Nat.reduceBEq, Nat.reduceMul, Nat.reduceSub, Int.reduceLT, Int.reduceLE, Int.reduceToNat, lk19, lk20, lk39, lk41, lk62, dys, dyC, z1, z2, p1, p2, f1, f2, e2]
      · simp (maxSteps := 2000000) only [go_sem, reduceIte, Nat.reduceEqDiff, Nat.reduceAdd, Nat.reduceLeDiff, Nat.reduceBEq, Nat.reduceMul, Nat.reduceSub, Int.reduceLT, Int.reduceLE, Int.reduceToNat, lk19, lk20, lk39, lk41, lk62, dys, dyC, z1, p1, p2, f1, f2, e2]
    have c3 := hok ((dyB_iff d).2 ⟨a0, a6, b0, b6, z, by omega, by omega, by omega, by omega⟩)
    by_cases z1 : d.a = 0
    · have z2 := hz z1
      simp (maxSteps := 2000000) only [go_sem, reduceIte, Nat.reduceEqDiff, Nat.reduceAdd, Nat.reduceLeDiff, Nat.reduceBEq, Nat.reduceMul, Nat.reduceSub, Int.reduceLT, Int.reduceLE, Int.reduceToNat, lk19, lk20, lk39, lk41, lk62, dys, dyC, z1, z2, p1, p2, f1, f2, w3]
      refine ⟨i + 1, ⟨hlt, c3⟩, m1, ?_⟩
      refine ent_weaken [.cells (dyC d)] (by simp only [dyC, z1]; rfl) rfl (Nat.zero_le _) rfl rfl ?_
      simp (maxSteps := 2000000) only [go_sem, reduceIte, Nat.reduceEqDiff, lk19, lk20, lk39, lk41, lk62, dys]
      all_goals first | exact .refl _ | exact ⟨.refl _, .refl _⟩ | exact ⟨.refl _, .refl _, .refl _⟩ | exact ⟨.refl _, _, rfl⟩ | exact ⟨_, rfl⟩ | exact ⟨.refl _, [], by simp⟩ | exact ⟨[], by simp⟩
    · simp (maxSteps := 2000000) only [go_sem, reduceIte, Nat.reduceEqDiff, Nat.reduceAdd, Nat.reduceLeDiff, Nat.reduceBEq, Nat.reduceMul, Nat.reduceSub, Int.reduceLT, Int.reduceLE, Int.reduceToNat, lk19, lk20, lk39, lk41, lk62, dys, dyC, z1, p1, p2, f1, f2, w3]
      refine ⟨i + 1, ⟨hlt, c3⟩, m1, ?_⟩
      refine ent_weaken [.cells (dyC d)] rfl rfl (Nat.zero_le _) rfl rfl ?_
      simp (maxSteps := 2000000) only [go_sem, reduceIte, Nat.reduceEqDiff, lk19, lk20, lk39, lk41, lk62, dys]
      all_goals first | exact .refl _ | exact ⟨.refl _, .refl _⟩ | exact ⟨.refl _, .refl _, .refl _⟩ | exact ⟨.refl _, _, rfl⟩ | exact ⟨_, rfl⟩ | exact ⟨.refl _, [], by simp⟩ | exact ⟨[], by simp⟩
end Go.Proofs.Ytkbnmanfoejoiaa
