/- Zones: the data, and searches. -/
import Derived.Test.YtliamojogmlgjaaZTab
import Derived.Test.YtliamojogmlgjaaZTabG
import Derived.Test.YtliamojogmlgjaaMK
import Derived.Test.YtliamojogmlgjaaZA
set_option linter.unusedSimpArgs false
set_option linter.unusedVariables false
set_option maxRecDepth 100000
namespace Go.Proofs.Ytliamojogmlgjaa
open Go Go.Abs Go.Proofs
def kp43 : List (Nat × List Nat) := [(0, [0, 1, 4]), (1, [4])]
theorem lk43 : lookK kp43 0 = some [0, 1, 4] ∧ lookK kp43 1 = some [4] := ⟨rfl, rfl⟩
def kp70 : List (Nat × List Nat) := [(0, [1, 2]), (1, [3])]
theorem lk70 : lookK kp70 0 = some [1, 2] ∧ lookK kp70 1 = some [3] := ⟨rfl, rfl⟩
def kp48 : List (Nat × List Nat) := [(0, [1, 2]), (1, [4])]
theorem lk48 : lookK kp48 0 = some [1, 2] ∧ lookK kp48 1 = some [4] := ⟨rfl, rfl⟩
def kp50 : List (Nat × List Nat) := [(0, [0]), (1, [2])]
theorem lk50 : lookK kp50 0 = some [0] ∧ lookK kp50 1 = some [2] := ⟨rfl, rfl⟩
def kp51 : List (Nat × List Nat) := [(0, [1, 2]), (1, [4])]
theorem lk51 : lookK kp51 0 = some [1, 2] ∧ lookK kp51 1 = some [4] := ⟨rfl, rfl⟩
def kp72 : List (Nat × List Nat) := [(0, [0, 1]), (1, [4])]
theorem lk72 : lookK kp72 0 = some [0, 1] ∧ lookK kp72 1 = some [4] := ⟨rfl, rfl⟩

theorem mo : Try.prog.follows .mixedOrders = true := by kernel_rfl
def iD (n : Int) : List D := [.int .i64 n]
def bD (b : Bool) : List D := [.bool b]
def rgD (r : Rg) : List D := [.int .i64 r.lo, .int .i64 r.hi]
def rgC (r : Rg) : List C := [.d (.int .i64 r.lo), .d (.int .i64 r.hi)]
def rgV (r : Rg) : V := .agg (rgC r)
def ints (l : List Int) : V := .c (.d (.sl (l.map iD)))
def rgs (l : List Rg) : V := .c (.d (.sl (l.map rgD)))
def bools (l : List Bool) : V := .c (.d (.sl (l.map bD)))
def laC (l : La) : List C := [.d (.sl (l.an.map iD)), .d (.sl (l.li.map rgD)), .d (.sl (l.fa.map bD)), .d (.sl (l.we.map iD))]
def laV (l : La) : V := .agg (laC l)
theorem fit_sl {l : List (List D)} (h : FitV (.c (.d (.sl l)))) : l.length ≤ 140737488355328 := by have h : Fit _ := h; have := h.len; simpa [lim] using this
theorem fit_ints {l : List Int} (h : FitV (ints l)) : l.length ≤ 140737488355328 := by simpa using fit_sl h
theorem fit_rgs {l : List Rg} (h : FitV (rgs l)) : l.length ≤ 140737488355328 := by simpa using fit_sl h
theorem fit_bools {l : List Bool} (h : FitV (bools l)) : l.length ≤ 140737488355328 := by simpa using fit_sl h
theorem wr_in {x : Int} (h : -1000000000000000 ≤ x ∧ x ≤ 1000000000000000) : wr .i64 x = x := by rw [wr_i64] <;> omega
theorem wr_succ {i n : Nat} (h : i < n) (hn : n ≤ 140737488355328) : wr .i64 ((i : Int) + 1) = ((i + 1 : Nat) : Int) := by rw [wr_i64] <;> omega
theorem nn (i : Nat) : (0 ≤ (i : Int)) = True := by simp
theorem y0 : ((0 : Nat) : Int) = 0 := rfl
theorem y1 : ((1 : Nat) : Int) = 1 := rfl
theorem y2 : ((2 : Nat) : Int) = 2 := rfl
theorem y3 : ((3 : Nat) : Int) = 3 := rfl
theorem y6 : ((6 : Nat) : Int) = 6 := rfl
theorem y11 : ((11 : Nat) : Int) = 11 := rfl
theorem y91 : ((91 : Nat) : Int) = 91 := rfl
theorem rep1 {α : Type} (x : α) : List.replicate 1 x = [x] := rfl
theorem rep2 {α : Type} (x : α) : List.replicate 2 x = [x, x] := rfl
theorem rep3 {α : Type} (x : α) : List.replicate 3 x = [x, x, x] := rfl
theorem rep4 {α : Type} (x : α) : List.replicate 4 x = [x, x, x, x] := rfl
theorem rep5 {α : Type} (x : α) : List.replicate 5 x = [x, x, x, x, x] := rfl
theorem rep6 {α : Type} (x : α) : List.replicate 6 x = [x, x, x, x, x, x] := rfl
attribute [go_sem] rep1 rep2 rep3 rep4 rep5 rep6 y0 y1 y2 y3 y6 y11 y91
theorem get_of_lt {α : Type} {l : List α} {i : Nat} (h : i < l.length) : ∃ x, l[i]? = some x := ⟨l[i], by simp [h]⟩
theorem upto_succ {α : Type} {l : List α} {P : α → Prop} {i : Nat} {x : α} (h : ∀ (j : Nat) y, j < i → l[j]? = some y → P y) (hx : l[i]? = some x) (hp : P x) : ∀ (j : Nat) y, j < i + 1 → l[j]? = some y → P y := fun j y hj hy => by
  rcases Nat.lt_succ_iff_lt_or_eq.1 hj with h1 | h1
  · exact h j y h1 hy
  · subst h1; rw [hx] at hy; cases hy; exact hp
def idxOf {α : Type} (p : α → Bool) : List α → Int
  | [] => -1
  | x :: l => if p x then 0 else if idxOf p l < 0 then -1 else idxOf p l + 1
theorem idxOf_at {α : Type} {p : α → Bool} : ∀ {l : List α} {i : Nat} {x : α}, (∀ j y, j < i → l[j]? = some y → p y = false) → l[i]? = some x → p x = true → idxOf p l = i
  | y :: l, 0, x, _, hx, hp => by simp at hx; subst hx; simp [idxOf, hp]
  | y :: l, i + 1, x, h, hx, hp => by
    have h0 := h 0 y (by omega) rfl
    have ih := idxOf_at (l := l) (i := i) (fun j z hj hz => h (j + 1) z (by omega) (by simpa using hz)) (by simpa using hx) hp
    simp only [idxOf, h0, ih]
    simp; omega
theorem idxOf_none {α : Type} {p : α → Bool} : ∀ {l : List α}, (∀ (j : Nat) y, j < l.length → l[j]? = some y → p y = false) → idxOf p l = -1
  | [], _ => rfl
  | y :: l, h => by
    have h0 := h 0 y (by simp) rfl
    have ih := idxOf_none (l := l) (fun j z hj hz => h (j + 1) z (by simpa using hj) (by simpa using hz))
    simp [idxOf, h0, ih]
theorem idxOf_nonneg {α : Type} {p : α → Bool} : ∀ (l : List α), 0 ≤ idxOf p l ↔ l.any p = true
  | [] => by simp [idxOf]
  | y :: l => by
    have ih := idxOf_nonneg (p := p) l
    by_cases hy : p y = true
    · simp [idxOf, hy]
    · simp only [idxOf, hy, List.any_cons, Bool.false_or, if_false, Bool.false_eq_true, ← ih, eq_self]
      split <;> omega
theorem idxOf_any {α : Type} {p : α → Bool} (l : List α) : decide (0 ≤ idxOf p l) = l.any p := by
  rw [Bool.eq_iff_iff, decide_eq_true_eq, idxOf_nonneg]
theorem lowL_d (n : Nat) (l : List D) : C.lowL n (l.map .d) = true := by induction l with | nil => rfl | cons a l ih => simp [C.lowL, C.low, ih]
theorem toDs_d (l : List D) : toDs (l.map C.d) = some l := by
  induction l with
  | nil => rfl
  | cons a l ih => simp [toDs, toD, ih]

set_option maxHeartbeats 1000000 in
theorem idx71 (l : List Int) (g : Nat) (caps : List C) (p : Int → Bool) (H : List AB) (hH : H.all (AB.low H.length) = true) (hcaps : C.lowL H.length caps = true)
    (hp : ∀ x ∈ l, ACall Try.prog g (I x :: caps.map .c) H (one (B (p x)) H)) : ACall Try.prog 71 [ints l, .c (.fn (.func g) caps)] H (one (I (idxOf p l)) H) := by
  refine acall_at (X := tx) (nt := 19) (rs := [.tmp 4]) Try.func71 rfl rfl rfl rfl mo (by kernel_rfl) rfl hH (fun hf => ?_)
  have hfit : l.length ≤ 140737488355328 := fit_ints (hf (ints l) (by simp))
  simp (maxSteps := 2000000) only [go_sem, reduceIte, Nat.reduceEqDiff, Int.reduceNeg, List.replicate_succ, lk43, lk70, lk48, lk50, lk51, lk72, ints, iD]
  refine go_loop (fun i : Nat => { slots := [(0, ints l), (1, .c (.fn (.func g) caps)), (7, I l.length), (8, I i)], heap := H, marks := [] }) (fun i => i ≤ l.length ∧ ∀ j x, j < i → l[j]? = some x → p x = false) (fun i => l.length - i) 0 mo (by kernel_rfl) ?_ ⟨Nat.zero_le _, by intro j r h; omega⟩ ?_
  · refine ent_weaken [] (by simp) rfl (Nat.le_refl _) hH rfl ?_
    simp (maxSteps := 2000000) only [go_sem, reduceIte, Nat.reduceEqDiff, List.replicate_succ, lk43, lk70, lk48, lk50, lk51, lk72, hcaps, ints, iD]
    all_goals first | exact .refl _ | exact ⟨.refl _, .refl _⟩ | exact ⟨.refl _, .refl _, .refl _⟩ | exact ⟨.refl _, _, rfl⟩ | exact ⟨_, rfl⟩ | exact ⟨.refl _, [], by simp⟩ | exact ⟨[], by simp⟩
  rintro i ⟨hi, hall⟩
  simp (maxSteps := 2000000) only [go_sem, reduceIte, Nat.reduceEqDiff, Int.reduceNeg, List.replicate_succ, lk43, lk70, lk48, lk50, lk51, lk72, ints, iD]
  refine go_if (fun h => ?_) (fun h => ?_)
  · have hlt : i < l.length := by simpa using h
    obtain ⟨x, hx⟩ := get_of_lt hlt
    have hpx := hp x (List.mem_of_getElem? hx)
    simp only [I] at hpx
    simp (maxSteps := 2000000) only [go_sem, reduceIte, Nat.reduceEqDiff, Int.reduceNeg, List.replicate_succ, lk43, lk70, lk48, lk50, lk51, lk72, hx, ints, iD]
    refine ⟨by simp [hlt], ?_⟩
    refine aops_at (hpx) rfl rfl (by first | exact wk_refls _ | (repeat constructor)) ?_
    simp (maxSteps := 2000000) only [go_sem, reduceIte, Nat.reduceEqDiff, Int.reduceNeg, List.replicate_succ, lk43, lk70, lk48, lk50, lk51, lk72]
    refine go_if (fun hb => ?_) (fun hb => ?_)
    · simp (maxSteps := 2000000) only [go_sem, reduceIte, Nat.reduceEqDiff, Int.reduceNeg, List.replicate_succ, lk43, lk70, lk48, lk50, lk51, lk72]
      have e : idxOf p l = i := idxOf_at hall hx hb
      rw [e]
      exact ⟨.refl _, [], by simp⟩
    · simp (maxSteps := 2000000) only [go_sem, reduceIte, Nat.reduceEqDiff, Int.reduceNeg, List.replicate_succ, lk43, lk70, lk48, lk50, lk51, lk72, wr_succ hlt hfit]
      refine ⟨i + 1, ⟨hlt, upto_succ hall hx hb⟩, by omega, ?_⟩
      refine ent_weaken [] (by simp) rfl (Nat.le_refl _) hH rfl ?_
      simp (maxSteps := 2000000) only [go_sem, reduceIte, Nat.reduceEqDiff, List.replicate_succ, lk43, lk70, lk48, lk50, lk51, lk72, hcaps]
  · have hi' : i = l.length := by simp at h; omega
    have e : idxOf p l = -1 := idxOf_none (fun j x hj hx => hall j x (by omega) hx)
    simp (maxSteps := 2000000) only [go_sem, reduceIte, Nat.reduceEqDiff, Int.reduceNeg, List.replicate_succ, lk43, lk70, lk48, lk50, lk51, lk72]
    rw [e]
    exact ⟨.refl _, [], by simp⟩
set_option maxHeartbeats 1000000 in
theorem has49 (l : List Int) (g : Nat) (caps : List C) (p : Int → Bool) (H : List AB) (hH : H.all (AB.low H.length) = true) (hcaps : C.lowL H.length caps = true)
    (hp : ∀ x ∈ l, ACall Try.prog g (I x :: caps.map .c) H (one (B (p x)) H)) : ACall Try.prog 49 [ints l, .c (.fn (.func g) caps)] H (one (B (l.any p)) H) := by
  refine acall_at (X := tx) (nt := 9) (rs := [.tmp 4]) Try.func49 rfl rfl rfl rfl mo (by kernel_rfl) rfl hH (fun hf => ?_)
  simp (maxSteps := 2000000) only [go_sem, reduceIte, Nat.reduceEqDiff, List.replicate_succ, lk43, lk70, lk48, lk50, lk51, lk72]
  refine aops_at (idx71 l g caps p H hH hcaps hp) rfl rfl (by first | exact wk_refls _ | (repeat constructor)) ?_
  simp (maxSteps := 2000000) only [go_sem, reduceIte, Nat.reduceEqDiff, List.replicate_succ, lk43, lk70, lk48, lk50, lk51, lk72]
  rw [idxOf_any]
  exact ⟨.refl _, [], by simp⟩
set_option maxHeartbeats 1000000 in
theorem idx76 (l : List Rg) (g : Nat) (caps : List C) (p : Rg → Bool) (H : List AB) (hH : H.all (AB.low H.length) = true) (hcaps : C.lowL H.length caps = true)
    (hp : ∀ x ∈ l, ACall Try.prog g (rgV x :: caps.map .c) H (one (B (p x)) H)) : ACall Try.prog 76 [rgs l, .c (.fn (.func g) caps)] H (one (I (idxOf p l)) H) := by
  refine acall_at (X := tx) (nt := 19) (rs := [.tmp 4]) Try.func76 rfl rfl rfl rfl mo (by kernel_rfl) rfl hH (fun hf => ?_)
  have hfit : l.length ≤ 140737488355328 := fit_rgs (hf (rgs l) (by simp))
  simp (maxSteps := 2000000) only [go_sem, reduceIte, Nat.reduceEqDiff, Int.reduceNeg, List.replicate_succ, lk43, lk70, lk48, lk50, lk51, lk72, rgs, rgD]
  refine go_loop (fun i : Nat => { slots := [(0, rgs l), (1, .c (.fn (.func g) caps)), (7, I l.length), (8, I i)], heap := H, marks := [] }) (fun i => i ≤ l.length ∧ ∀ j x, j < i → l[j]? = some x → p x = false) (fun i => l.length - i) 0 mo (by kernel_rfl) ?_ ⟨Nat.zero_le _, by intro j r h; omega⟩ ?_
  · refine ent_weaken [] (by simp) rfl (Nat.le_refl _) hH rfl ?_
    simp (maxSteps := 2000000) only [go_sem, reduceIte, Nat.reduceEqDiff, List.replicate_succ, lk43, lk70, lk48, lk50, lk51, lk72, hcaps, rgs, rgD]
    all_goals first | exact .refl _ | exact ⟨.refl _, .refl _⟩ | exact ⟨.refl _, .refl _, .refl _⟩ | exact ⟨.refl _, _, rfl⟩ | exact ⟨_, rfl⟩ | exact ⟨.refl _, [], by simp⟩ | exact ⟨[], by simp⟩
  rintro i ⟨hi, hall⟩
  simp (maxSteps := 2000000) only [go_sem, reduceIte, Nat.reduceEqDiff, Int.reduceNeg, List.replicate_succ, lk43, lk70, lk48, lk50, lk51, lk72, rgs, rgD]
  refine go_if (fun h => ?_) (fun h => ?_)
  · have hlt : i < l.length := by simpa using h
    obtain ⟨x, hx⟩ := get_of_lt hlt
    have hpx := hp x (List.mem_of_getElem? hx)
    simp only [rgV, rgC] at hpx
    simp (maxSteps := 2000000) only [go_sem, reduceIte, Nat.reduceEqDiff, Nat.reduceAdd, Int.reduceNeg, List.replicate_succ, lk43, lk70, lk48, lk50, lk51, lk72, hx, rgs, rgD]
    refine ⟨by simp [hlt], ?_⟩
    refine aops_at (hpx) rfl rfl (by first | exact wk_refls _ | (repeat constructor)) ?_
    simp (maxSteps := 2000000) only [go_sem, reduceIte, Nat.reduceEqDiff, Int.reduceNeg, List.replicate_succ, lk43, lk70, lk48, lk50, lk51, lk72]
    refine go_if (fun hb => ?_) (fun hb => ?_)
    · simp (maxSteps := 2000000) only [go_sem, reduceIte, Nat.reduceEqDiff, Int.reduceNeg, List.replicate_succ, lk43, lk70, lk48, lk50, lk51, lk72]
      have e : idxOf p l = i := idxOf_at hall hx hb
      rw [e]
      exact ⟨.refl _, [], by simp⟩
    · simp (maxSteps := 2000000) only [go_sem, reduceIte, Nat.reduceEqDiff, Int.reduceNeg, List.replicate_succ, lk43, lk70, lk48, lk50, lk51, lk72, wr_succ hlt hfit]
      refine ⟨i + 1, ⟨hlt, upto_succ hall hx hb⟩, by omega, ?_⟩
      refine ent_weaken [] (by simp) rfl (Nat.le_refl _) hH rfl ?_
      simp (maxSteps := 2000000) only [go_sem, reduceIte, Nat.reduceEqDiff, List.replicate_succ, lk43, lk70, lk48, lk50, lk51, lk72, hcaps]
  · have hi' : i = l.length := by simp at h; omega
    have e : idxOf p l = -1 := idxOf_none (fun j x hj hx => hall j x (by omega) hx)
    simp (maxSteps := 2000000) only [go_sem, reduceIte, Nat.reduceEqDiff, Int.reduceNeg, List.replicate_succ, lk43, lk70, lk48, lk50, lk51, lk72]
    rw [e]
    exact ⟨.refl _, [], by simp⟩
set_option maxHeartbeats 1000000 in
theorem has69 (l : List Rg) (g : Nat) (caps : List C) (p : Rg → Bool) (H : List AB) (hH : H.all (AB.low H.length) = true) (hcaps : C.lowL H.length caps = true)
    (hp : ∀ x ∈ l, ACall Try.prog g (rgV x :: caps.map .c) H (one (B (p x)) H)) : ACall Try.prog 69 [rgs l, .c (.fn (.func g) caps)] H (one (B (l.any p)) H) := by
  refine acall_at (X := tx) (nt := 9) (rs := [.tmp 4]) Try.func69 rfl rfl rfl rfl mo (by kernel_rfl) rfl hH (fun hf => ?_)
  simp (maxSteps := 2000000) only [go_sem, reduceIte, Nat.reduceEqDiff, List.replicate_succ, lk43, lk70, lk48, lk50, lk51, lk72]
  refine aops_at (idx76 l g caps p H hH hcaps hp) rfl rfl (by first | exact wk_refls _ | (repeat constructor)) ?_
  simp (maxSteps := 2000000) only [go_sem, reduceIte, Nat.reduceEqDiff, List.replicate_succ, lk43, lk70, lk48, lk50, lk51, lk72]
  rw [idxOf_any]
  exact ⟨.refl _, [], by simp⟩
set_option maxHeartbeats 1000000 in
theorem idx77 (l : List Bool) (b : Bool) : Pure Try.prog 77 [bools l, B b] (I (idxOf (fun x => x == b) l)) := by
  refine pure_wk (X := tx) (nt := 19) (rs := [.tmp 4]) Try.func77 rfl rfl rfl rfl mo (by kernel_rfl) rfl rfl (fun hf => ?_)
  have hfit : l.length ≤ 140737488355328 := fit_bools (hf (bools l) (by simp))
  simp (maxSteps := 2000000) only [go_sem, reduceIte, Nat.reduceEqDiff, Int.reduceNeg, List.replicate_succ, lk43, lk70, lk48, lk50, lk51, lk72, bools, bD]
  refine go_loop (fun i : Nat => { slots := [(0, bools l), (1, B b), (7, I l.length), (8, I i)], heap := [], marks := [] }) (fun i => i ≤ l.length ∧ ∀ j x, j < i → l[j]? = some x → (x == b) = false) (fun i => l.length - i) 0 mo (by kernel_rfl) ?_ ⟨Nat.zero_le _, by intro j r h; omega⟩ ?_
  · refine ent_weaken [] rfl rfl (Nat.zero_le _) rfl rfl ?_
    simp (maxSteps := 2000000) only [go_sem, reduceIte, Nat.reduceEqDiff, List.replicate_succ, lk43, lk70, lk48, lk50, lk51, lk72, bools, bD]
    all_goals first | exact .refl _ | exact ⟨.refl _, .refl _⟩ | exact ⟨.refl _, .refl _, .refl _⟩ | exact ⟨.refl _, _, rfl⟩ | exact ⟨_, rfl⟩ | exact ⟨.refl _, [], by simp⟩ | exact ⟨[], by simp⟩
  rintro i ⟨hi, hall⟩
  simp (maxSteps := 2000000) only [go_sem, reduceIte, Nat.reduceEqDiff, Int.reduceNeg, List.replicate_succ, lk43, lk70, lk48, lk50, lk51, lk72, bools, bD]
  refine go_if (fun h => ?_) (fun h => ?_)
  · have hlt : i < l.length := by simpa using h
    obtain ⟨x, hx⟩ := get_of_lt hlt
    simp (maxSteps := 2000000) only [go_sem, reduceIte, Nat.reduceEqDiff, Int.reduceNeg, List.replicate_succ, lk43, lk70, lk48, lk50, lk51, lk72, hx, nn, hlt, bD]
    refine ⟨by simp [hlt], ?_⟩
    cases hb : (x == b) with
    | true =>
      have e : idxOf (fun x => x == b) l = i := idxOf_at hall hx hb
      have hb2 : x = b := by simpa using hb
      subst hb2
      simp (maxSteps := 2000000) only [go_sem, reduceIte, Nat.reduceEqDiff, Int.reduceNeg, List.replicate_succ, lk43, lk70, lk48, lk50, lk51, lk72, e, beq_self_eq_true]
      all_goals first | exact .refl _ | exact ⟨.refl _, .refl _⟩ | exact ⟨.refl _, .refl _, .refl _⟩ | exact ⟨.refl _, _, rfl⟩ | exact ⟨_, rfl⟩ | exact ⟨.refl _, [], by simp⟩ | exact ⟨[], by simp⟩
    | false =>
      have hb3 : (b == x) = false := by rw [← hb]; cases x <;> cases b <;> rfl
      have hb2 : ¬ b = x := by simpa using hb3
      simp (maxSteps := 2000000) only [go_sem, reduceIte, Nat.reduceEqDiff, Int.reduceNeg, List.replicate_succ, lk43, lk70, lk48, lk50, lk51, lk72, hb3, wr_succ hlt hfit]
      refine ⟨i + 1, ⟨hlt, upto_succ hall hx hb⟩, by omega, ?_⟩
      refine ent_weaken [] rfl rfl (Nat.zero_le _) rfl rfl ?_
      simp (maxSteps := 2000000) only [go_sem, reduceIte, Nat.reduceEqDiff, List.replicate_succ, lk43, lk70, lk48, lk50, lk51, lk72]
  · have hi' : i = l.length := by simp at h; omega
    have e : idxOf (fun x => x == b) l = -1 := idxOf_none (fun j x hj hx => hall j x (by omega) hx)
    simp (maxSteps := 2000000) only [go_sem, reduceIte, Nat.reduceEqDiff, Int.reduceNeg, List.replicate_succ, lk43, lk70, lk48, lk50, lk51, lk72, e]
theorem has72 (l : List Bool) (b : Bool) : Pure Try.prog 72 [bools l, B b] (B (l.any fun x => x == b)) := by
  refine pure_wkE (bad := []) (kp := kp72) (X := tx) (nt := 9) (rs := [.tmp 4]) Try.func72 rfl rfl rfl rfl mo (by kernel_rfl) rfl rfl (fun hf => ?_)
  simp (maxSteps := 2000000) only [go_sem, reduceIte, Nat.reduceEqDiff, Nat.reduceAdd, List.replicate_succ, lk43, lk70, lk48, lk50, lk51, lk72]
  refine aops_pure' (idx77 l b) rfl rfl (by first | exact wk_refls _ | (repeat constructor)) ?_
  simp (maxSteps := 2000000) only [go_sem, reduceIte, Nat.reduceEqDiff, List.replicate_succ, lk43, lk70, lk48, lk50, lk51, lk72]
  rw [idxOf_any]
  exact .refl _
theorem rg43 (a b : Int) : Pure Try.prog 43 [I a, I b] (rgV ⟨a, b⟩) := by
  refine pure_wkE (bad := []) (kp := kp43) (X := tx) (nt := 8) (rs := [.cell 4 40]) Try.func43 rfl rfl rfl rfl mo (by kernel_rfl) rfl rfl (fun hf => ?_)
  simp (maxSteps := 2000000) only [go_sem, reduceIte, Nat.reduceEqDiff, Nat.reduceAdd, Nat.reduceLeDiff, Nat.reduceBEq, List.replicate_succ, lk43, lk70, lk48, lk50, lk51, lk72, rgV, rgC]
theorem bad70 (top : Int) (r : Rg) : ACall Try.prog 70 [rgV r, .c (.ptr 0 0)] [.cells [.d (.int .i64 top)]] (one (B (!rgB top r)) [.cells [.d (.int .i64 top)]]) := by
  refine acall_atE (bad := []) (kp := kp70) (X := tx) (nt := 20) (rs := [.tmp 3]) Try.func70 rfl rfl rfl rfl mo (by kernel_rfl) rfl rfl (fun hf => ?_)
  by_cases h1 : r.lo < 0
  · have e : rgB top r = false := by simp [rgB, h1]
    simp (maxSteps := 2000000) only [go_sem, reduceIte, Nat.reduceEqDiff, Nat.reduceAdd, Nat.reduceLeDiff, Nat.reduceBEq, List.replicate_succ, lk43, lk70, lk48, lk50, lk51, lk72, rgV, rgC, h1, e]
    all_goals first | exact .refl _ | exact ⟨.refl _, .refl _⟩ | exact ⟨.refl _, .refl _, .refl _⟩ | exact ⟨.refl _, _, rfl⟩ | exact ⟨_, rfl⟩ | exact ⟨.refl _, [], by simp⟩ | exact ⟨[], by simp⟩
  · by_cases h2 : r.hi < r.lo
    · have e : rgB top r = false := by simp [rgB, h2]
      simp (maxSteps := 2000000) only [go_sem, reduceIte, Nat.reduceEqDiff, Nat.reduceAdd, Nat.reduceLeDiff, Nat.reduceBEq, List.replicate_succ, lk43, lk70, lk48, lk50, lk51, lk72, rgV, rgC, h1, h2, e]
      all_goals first | exact .refl _ | exact ⟨.refl _, .refl _⟩ | exact ⟨.refl _, .refl _, .refl _⟩ | exact ⟨.refl _, _, rfl⟩ | exact ⟨_, rfl⟩ | exact ⟨.refl _, [], by simp⟩ | exact ⟨[], by simp⟩
    · have e : rgB top r = !decide (top < r.hi) := by simp [rgB, h1, h2]
      simp (maxSteps := 2000000) only [go_sem, reduceIte, Nat.reduceEqDiff, Nat.reduceAdd, Nat.reduceLeDiff, Nat.reduceBEq, List.replicate_succ, lk43, lk70, lk48, lk50, lk51, lk72, rgV, rgC, h1, h2, e, Bool.not_not]
      all_goals first | exact .refl _ | exact ⟨.refl _, .refl _⟩ | exact ⟨.refl _, .refl _, .refl _⟩ | exact ⟨.refl _, _, rfl⟩ | exact ⟨_, rfl⟩ | exact ⟨.refl _, [], by simp⟩ | exact ⟨[], by simp⟩
theorem within48 (top : Int) (l : List Rg) : Pure Try.prog 48 [I top, rgs l] (B (l.all (rgB top))) := by
  refine pure_wkE (bad := []) (kp := kp48) (X := tx) (nt := 9) (rs := [.tmp 4]) Try.func48 rfl rfl rfl rfl mo (by kernel_rfl) rfl rfl (fun hf => ?_)
  simp (maxSteps := 2000000) only [go_sem, reduceIte, Nat.reduceEqDiff, Nat.reduceAdd, List.replicate_succ, lk43, lk70, lk48, lk50, lk51, lk72, rgs]
  refine aops_at (has69 l 70 [.ptr 0 0] (fun r => !rgB top r) [.cells [.d (.int .i64 top)]] rfl rfl (fun x _ => bad70 top x)) rfl rfl (by first | exact wk_refls _ | (repeat constructor)) ?_
  simp (maxSteps := 2000000) only [go_sem, reduceIte, Nat.reduceEqDiff, List.replicate_succ, lk43, lk70, lk48, lk50, lk51, lk72]
  rw [show l.any (fun r => !rgB top r) = !l.all (rgB top) by rw [List.not_all_eq_any_not], Bool.not_not]
  all_goals first | exact .refl _ | exact ⟨.refl _, .refl _⟩ | exact ⟨.refl _, .refl _, .refl _⟩ | exact ⟨.refl _, _, rfl⟩ | exact ⟨_, rfl⟩ | exact ⟨.refl _, [], by simp⟩ | exact ⟨[], by simp⟩
theorem badw50 (w : Int) : Pure Try.prog 50 [I w] (B (badW w)) := by
  refine pure_wkE (bad := []) (kp := kp50) (X := tx) (nt := 9) (rs := [.tmp 2]) Try.func50 rfl rfl rfl rfl mo (by kernel_rfl) rfl rfl (fun hf => ?_)
  by_cases h : w < 0
  · simp (maxSteps := 2000000) only [go_sem, reduceIte, Nat.reduceEqDiff, Nat.reduceAdd, List.replicate_succ, lk43, lk70, lk48, lk50, lk51, lk72, h, badW]
  · simp (maxSteps := 2000000) only [go_sem, reduceIte, Nat.reduceEqDiff, Nat.reduceAdd, List.replicate_succ, lk43, lk70, lk48, lk50, lk51, lk72, h, badW]
theorem within51 (top : Int) (r : Rg) : Pure Try.prog 51 [rgV r, I top] (B (rgB top r)) := by
  refine pure_wkE (bad := []) (kp := kp51) (X := tx) (nt := 21) (rs := [.tmp 4]) Try.func51 rfl rfl rfl rfl mo (by kernel_rfl) rfl rfl (fun hf => ?_)
  by_cases h1 : r.lo < 0
  · have e : rgB top r = false := by simp [rgB, h1]
    have h1' : ¬ 0 ≤ r.lo := by omega
    simp (maxSteps := 2000000) only [go_sem, reduceIte, Nat.reduceEqDiff, Nat.reduceAdd, Nat.reduceLeDiff, Nat.reduceBEq, List.replicate_succ, lk43, lk70, lk48, lk50, lk51, lk72, rgV, rgC, h1', e]
  · have h1' : 0 ≤ r.lo := by omega
    by_cases h2 : r.hi < r.lo
    · have e : rgB top r = false := by simp [rgB, h2]
      have h2' : ¬ r.lo ≤ r.hi := by omega
      simp (maxSteps := 2000000) only [go_sem, reduceIte, Nat.reduceEqDiff, Nat.reduceAdd, Nat.reduceLeDiff, Nat.reduceBEq, List.replicate_succ, lk43, lk70, lk48, lk50, lk51, lk72, rgV, rgC, h1', h2', e]
    · have e : rgB top r = decide (r.hi ≤ top) := by rw [Bool.eq_iff_iff, rgB_iff, decide_eq_true_eq]; omega
      have h2' : r.lo ≤ r.hi := by omega
      simp (maxSteps := 2000000) only [go_sem, reduceIte, Nat.reduceEqDiff, Nat.reduceAdd, Nat.reduceLeDiff, Nat.reduceBEq, List.replicate_succ, lk43, lk70, lk48, lk50, lk51, lk72, rgV, rgC, h1', h2', e]
end Go.Proofs.Ytliamojogmlgjaa
