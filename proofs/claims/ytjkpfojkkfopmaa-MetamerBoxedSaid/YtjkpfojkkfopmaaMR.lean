/- Metamers: the data, and the small functions of chapter 4. -/
import Derived.Test.YtjkpfojkkfopmaaMTab
import Derived.Test.YtjkpfojkkfopmaaMTabG
import Derived.Test.YtjkpfojkkfopmaaMK
set_option linter.unusedSimpArgs false
set_option linter.unusedVariables false
set_option maxRecDepth 100000
namespace Go.Proofs.Ytjkpfojkkfopmaa
open Go Go.Abs Go.Proofs

theorem mo : tx.P.follows .mixedOrders = true := by kernel_rfl
def iD (n : Int) : List D := [.int .i64 n]
def ints (l : List Int) : V := .c (.d (.sl (l.map iD)))
theorem fit_ints {l : List Int} (h : FitV (ints l)) : l.length ≤ 140737488355328 := by have h : Fit _ := h; have := h.len; simpa [lim] using this
theorem wr_succ {i n : Nat} (h : i < n) (hn : n ≤ 140737488355328) : wr .i64 ((i : Int) + 1) = ((i + 1 : Nat) : Int) := by rw [wr_i64] <;> omega
theorem get_of_lt {α : Type} {l : List α} {i : Nat} (h : i < l.length) : ∃ x, l[i]? = some x := ⟨l[i], by simp [h]⟩
theorem take_succ_eq {α : Type} {l : List α} {i : Nat} {x : α} (h : l[i]? = some x) : l.take (i + 1) = l.take i ++ [x] := by
  rw [List.take_add_one, h]; rfl
theorem any_of_get {α : Type} {l : List α} {p : α → Bool} {i : Nat} {x : α} (h : l[i]? = some x) (hp : p x = true) : l.any p = true := List.any_eq_true.2 ⟨x, List.mem_of_getElem? h, hp⟩
theorem any_none {α : Type} {l : List α} {p : α → Bool} (h : ∀ (j : Nat) x, j < l.length → l[j]? = some x → p x = false) : l.any p = false := by
  rw [List.any_eq_false]
  intro x hx
  obtain ⟨j, hj⟩ := List.getElem?_of_mem hx
  rw [h j x (List.getElem?_eq_some_iff.1 hj).1 hj]; simp
theorem upto_succ {α : Type} {l : List α} {P : α → Prop} {i : Nat} {x : α} (h : ∀ (j : Nat) y, j < i → l[j]? = some y → P y) (hx : l[i]? = some x) (hp : P x) : ∀ (j : Nat) y, j < i + 1 → l[j]? = some y → P y := fun j y hj hy => by
  rcases Nat.lt_succ_iff_lt_or_eq.1 hj with h1 | h1
  · exact h j y h1 hy
  · subst h1; rw [hx] at hy; cases hy; exact hp
def idxOf {α : Type} (p : α → Bool) : List α → Int
  | [] => -1
  | x :: l => if p x then 0 else if idxOf p l < 0 then -1 else idxOf p l + 1
theorem idxOf_at {α : Type} {p : α → Bool} : ∀ {l : List α} {i : Nat} {x : α}, (∀ j y, j < i → l[j]? = some y → p y = false) → l[i]? = some x → p x = true → idxOf p l = i
  | y :: l, 0, x, _, hx, hp => by simp at hx; subst hx; simp [idxOf, hp]
  | y :: l, i + 1, x, h, hx, hp => by
    have h0 := h 0 y (by omega) rfl
    have ih := idxOf_at (l := l) (i := i) (fun j z hj hz => h (j + 1) z (by omega) (by simpa using hz)) (by simpa using hx) hp
    simp only [idxOf, h0, ih]
    simp; omega
theorem idxOf_none {α : Type} {p : α → Bool} : ∀ {l : List α}, (∀ (j : Nat) y, j < l.length → l[j]? = some y → p y = false) → idxOf p l = -1
  | [], _ => rfl
  | y :: l, h => by
    have h0 := h 0 y (by simp) rfl
    have ih := idxOf_none (l := l) (fun j z hj hz => h (j + 1) z (by simpa using hj) (by simpa using hz))
    simp [idxOf, h0, ih]
theorem idxOf_nonneg {α : Type} {p : α → Bool} : ∀ (l : List α), 0 ≤ idxOf p l ↔ l.any p = true
  | [] => by simp [idxOf]
  | y :: l => by
    have ih := idxOf_nonneg (p := p) l
    by_cases hy : p y = true
    · simp [idxOf, hy]
    · simp only [idxOf, hy, List.any_cons, Bool.false_or, if_false, Bool.false_eq_true, ← ih, eq_self]
      split <;> omega
theorem idxOf_any {α : Type} {p : α → Bool} (l : List α) : decide (0 ≤ idxOf p l) = l.any p := by
  rw [Bool.eq_iff_iff, decide_eq_true_eq, idxOf_nonneg]


/-- A range, a case, a truth, a palette. -/
structure Rg where
  lo : Int
  hi : Int
def rgD (r : Rg) : List D := [.int .i64 r.lo, .int .i64 r.hi]
def rgC (r : Rg) : List C := [.d (.int .i64 r.lo), .d (.int .i64 r.hi)]
def rgV (r : Rg) : V := .agg (rgC r)
def rowR (l : List Rg) : List D := [.sl (l.map rgD)]
def rowI (l : List Int) : List D := [.sl (l.map iD)]
def rgs (l : List Rg) : V := .c (.d (.sl (l.map rgD)))
def rgss (l : List (List Rg)) : V := .c (.d (.sl (l.map rowR)))
def intss (l : List (List Int)) : V := .c (.d (.sl (l.map rowI)))
structure Cs where
  eye : List (List Rg)
  lamp : List Rg
def csC (c : Cs) : List C := [.d (.sl (c.eye.map rowR)), .d (.sl (c.lamp.map rgD))]
def csV (c : Cs) : V := .agg (csC c)
structure Tr where
  eye : List (List Int)
  lamp : List Int
def trC (x : Tr) : List C := [.d (.sl (x.eye.map rowI)), .d (.sl (x.lamp.map iD))]
def trV (x : Tr) : V := .agg (trC x)
structure Pal where
  pig : List (List Int)
  err : Int
def palC (p : Pal) : List C := [.d (.sl (p.pig.map rowI)), .d (.int .i64 p.err)]
def palV (p : Pal) : V := .agg (palC p)
theorem fit_sl {l : List (List D)} (h : FitV (.c (.d (.sl l)))) : l.length ≤ 140737488355328 := by have h : Fit _ := h; have := h.len; simpa [lim] using this
theorem fit_rgs {l : List Rg} (h : FitV (rgs l)) : l.length ≤ 140737488355328 := by simpa using fit_sl h
theorem fit_rgss {l : List (List Rg)} (h : FitV (rgss l)) : l.length ≤ 140737488355328 := by simpa using fit_sl h
theorem fit_intss {l : List (List Int)} (h : FitV (intss l)) : l.length ≤ 140737488355328 := by simpa using fit_sl h
theorem fit_cs {c : Cs} (h : FitV (csV c)) : c.eye.length ≤ 140737488355328 ∧ c.lamp.length ≤ 140737488355328 := by
  have h1 : Fit _ := h (.d (.sl (c.eye.map rowR))) (by simp [csC])
  have h2 : Fit _ := h (.d (.sl (c.lamp.map rgD))) (by simp [csC])
  have := h1.len; have := h2.len; simp [lim] at *; omega
theorem fit_tr {c : Tr} (h : FitV (trV c)) : c.eye.length ≤ 140737488355328 ∧ c.lamp.length ≤ 140737488355328 := by
  have h1 : Fit _ := h (.d (.sl (c.eye.map rowI))) (by simp [trC])
  have h2 : Fit _ := h (.d (.sl (c.lamp.map iD))) (by simp [trC])
  have := h1.len; have := h2.len; simp [lim] at *; omega
theorem fit_pal {c : Pal} (h : FitV (palV c)) : c.pig.length ≤ 140737488355328 := by
  have h1 : Fit _ := h (.d (.sl (c.pig.map rowI))) (by simp [palC])
  have := h1.len; simpa [lim] using this
theorem lowL_d (n : Nat) (l : List D) : C.lowL n (l.map .d) = true := by induction l with | nil => rfl | cons a l ih => simp [C.lowL, C.low, ih]
theorem toDs_d (l : List D) : toDs (l.map C.d) = some l := by
  induction l with
  | nil => rfl
  | cons a l ih => simp [toDs, toD, ih]

set_option maxHeartbeats 1000000 in
theorem idx91 (l : List Int) (g : Nat) (caps : List C) (p : Int → Bool) (H : List AB) (hH : H.all (AB.low H.length) = true) (hcaps : C.lowL H.length caps = true)
    (hp : ∀ x ∈ l, ACall Try.prog g (I x :: caps.map .c) H (one (B (p x)) H)) : ACall Try.prog 91 [ints l, .c (.fn (.func g) caps)] H (one (I (idxOf p l)) H) := by
  refine acall_at (X := tx) (nt := 19) (rs := [.tmp 4]) Try.func91 rfl rfl rfl rfl mo (by kernel_rfl) rfl hH (fun hf => ?_)
  have hfit : l.length ≤ 140737488355328 := fit_ints (hf (ints l) (by simp))
  simp only [go_sem, reduceIte, Nat.reduceEqDiff, Int.reduceNeg, ints, iD]
  refine go_loop (fun i : Nat => { slots := [(0, ints l), (1, .c (.fn (.func g) caps)), (7, I l.length), (8, I i)], heap := H, marks := [] }) (fun i => i ≤ l.length ∧ ∀ j x, j < i → l[j]? = some x → p x = false) (fun i => l.length - i) 0 mo (by kernel_rfl) ?_ ⟨Nat.zero_le _, by intro j r h; omega⟩ ?_
  · refine ent_weaken [] (by simp) rfl (Nat.le_refl _) hH rfl ?_
    simp only [go_sem, reduceIte, Nat.reduceEqDiff, hcaps, ints, iD]
    exact .refl _
  rintro i ⟨hi, hall⟩
  simp only [go_sem, reduceIte, Nat.reduceEqDiff, Int.reduceNeg, ints, iD]
  refine go_if (fun h => ?_) (fun h => ?_)
  · have hlt : i < l.length := by simpa using h
    obtain ⟨x, hx⟩ := get_of_lt hlt
    have hpx := hp x (List.mem_of_getElem? hx)
    simp only [I] at hpx
    simp only [go_sem, reduceIte, Nat.reduceEqDiff, Int.reduceNeg, hx, ints, iD]
    refine ⟨by simp [hlt], ?_⟩
    refine aops_at (hpx) rfl rfl (by first | exact wk_refls _ | (repeat constructor)) ?_
    simp only [go_sem, reduceIte, Nat.reduceEqDiff, Int.reduceNeg]
    refine go_if (fun hb => ?_) (fun hb => ?_)
    · simp only [go_sem, reduceIte, Nat.reduceEqDiff, Int.reduceNeg]
      have e : idxOf p l = i := idxOf_at hall hx hb
      rw [e]
      exact ⟨.refl _, [], by simp⟩
    · simp only [go_sem, reduceIte, Nat.reduceEqDiff, Int.reduceNeg, wr_succ hlt hfit]
      refine ⟨i + 1, ⟨hlt, upto_succ hall hx hb⟩, by omega, ?_⟩
      refine ent_weaken [] (by simp) rfl (Nat.le_refl _) hH rfl ?_
      simp only [go_sem, reduceIte, Nat.reduceEqDiff, hcaps]
  · have hi' : i = l.length := by simp at h; omega
    have e : idxOf p l = -1 := idxOf_none (fun j x hj hx => hall j x (by omega) hx)
    simp only [go_sem, reduceIte, Nat.reduceEqDiff, Int.reduceNeg]
    rw [e]
    exact ⟨.refl _, [], by simp⟩
set_option maxHeartbeats 1000000 in
theorem has87 (l : List Int) (g : Nat) (caps : List C) (p : Int → Bool) (H : List AB) (hH : H.all (AB.low H.length) = true) (hcaps : C.lowL H.length caps = true)
    (hp : ∀ x ∈ l, ACall Try.prog g (I x :: caps.map .c) H (one (B (p x)) H)) : ACall Try.prog 87 [ints l, .c (.fn (.func g) caps)] H (one (B (l.any p)) H) := by
  refine acall_at (X := tx) (nt := 9) (rs := [.tmp 4]) Try.func87 rfl rfl rfl rfl mo (by kernel_rfl) rfl hH (fun hf => ?_)
  simp only [go_sem, reduceIte, Nat.reduceEqDiff]
  refine aops_at (idx91 l g caps p H hH hcaps hp) rfl rfl (by first | exact wk_refls _ | (repeat constructor)) ?_
  simp only [go_sem, reduceIte, Nat.reduceEqDiff]
  rw [idxOf_any]
  exact ⟨.refl _, [], by simp⟩

set_option maxHeartbeats 1000000 in
theorem idx89 (l : List Rg) (g : Nat) (caps : List C) (p : Rg → Bool) (H : List AB) (hH : H.all (AB.low H.length) = true) (hcaps : C.lowL H.length caps = true)
    (hp : ∀ x ∈ l, ACall Try.prog g (rgV x :: caps.map .c) H (one (B (p x)) H)) : ACall Try.prog 89 [rgs l, .c (.fn (.func g) caps)] H (one (I (idxOf p l)) H) := by
  refine acall_at (X := tx) (nt := 19) (rs := [.tmp 4]) Try.func89 rfl rfl rfl rfl mo (by kernel_rfl) rfl hH (fun hf => ?_)
  have hfit : l.length ≤ 140737488355328 := fit_rgs (hf (rgs l) (by simp))
  simp only [go_sem, reduceIte, Nat.reduceEqDiff, Int.reduceNeg, rgs, rgD]
  refine go_loop (fun i : Nat => { slots := [(0, rgs l), (1, .c (.fn (.func g) caps)), (7, I l.length), (8, I i)], heap := H, marks := [] }) (fun i => i ≤ l.length ∧ ∀ j x, j < i → l[j]? = some x → p x = false) (fun i => l.length - i) 0 mo (by kernel_rfl) ?_ ⟨Nat.zero_le _, by intro j r h; omega⟩ ?_
  · refine ent_weaken [] (by simp) rfl (Nat.le_refl _) hH rfl ?_
    simp only [go_sem, reduceIte, Nat.reduceEqDiff, hcaps, rgs, rgD]
    exact .refl _
  rintro i ⟨hi, hall⟩
  simp only [go_sem, reduceIte, Nat.reduceEqDiff, Int.reduceNeg, rgs, rgD]
  refine go_if (fun h => ?_) (fun h => ?_)
  · have hlt : i < l.length := by simpa using h
    obtain ⟨x, hx⟩ := get_of_lt hlt
    have hpx := hp x (List.mem_of_getElem? hx)
    simp only [rgV, rgC] at hpx
    simp only [go_sem, reduceIte, Nat.reduceEqDiff, Nat.reduceAdd, Int.reduceNeg, hx, rgs, rgD]
    refine ⟨by simp [hlt], ?_⟩
    refine aops_at (hpx) rfl rfl (by first | exact wk_refls _ | (repeat constructor)) ?_
    simp only [go_sem, reduceIte, Nat.reduceEqDiff, Int.reduceNeg]
    refine go_if (fun hb => ?_) (fun hb => ?_)
    · simp only [go_sem, reduceIte, Nat.reduceEqDiff, Int.reduceNeg]
      have e : idxOf p l = i := idxOf_at hall hx hb
      rw [e]
      exact ⟨.refl _, [], by simp⟩
    · simp only [go_sem, reduceIte, Nat.reduceEqDiff, Int.reduceNeg, wr_succ hlt hfit]
      refine ⟨i + 1, ⟨hlt, upto_succ hall hx hb⟩, by omega, ?_⟩
      refine ent_weaken [] (by simp) rfl (Nat.le_refl _) hH rfl ?_
      simp only [go_sem, reduceIte, Nat.reduceEqDiff, hcaps]
  · have hi' : i = l.length := by simp at h; omega
    have e : idxOf p l = -1 := idxOf_none (fun j x hj hx => hall j x (by omega) hx)
    simp only [go_sem, reduceIte, Nat.reduceEqDiff, Int.reduceNeg]
    rw [e]
    exact ⟨.refl _, [], by simp⟩
set_option maxHeartbeats 1000000 in
theorem has83 (l : List Rg) (g : Nat) (caps : List C) (p : Rg → Bool) (H : List AB) (hH : H.all (AB.low H.length) = true) (hcaps : C.lowL H.length caps = true)
    (hp : ∀ x ∈ l, ACall Try.prog g (rgV x :: caps.map .c) H (one (B (p x)) H)) : ACall Try.prog 83 [rgs l, .c (.fn (.func g) caps)] H (one (B (l.any p)) H) := by
  refine acall_at (X := tx) (nt := 9) (rs := [.tmp 4]) Try.func83 rfl rfl rfl rfl mo (by kernel_rfl) rfl hH (fun hf => ?_)
  simp only [go_sem, reduceIte, Nat.reduceEqDiff]
  refine aops_at (idx89 l g caps p H hH hcaps hp) rfl rfl (by first | exact wk_refls _ | (repeat constructor)) ?_
  simp only [go_sem, reduceIte, Nat.reduceEqDiff]
  rw [idxOf_any]
  exact ⟨.refl _, [], by simp⟩

set_option maxHeartbeats 1000000 in
theorem idx82 (l : List (List Rg)) (g : Nat) (caps : List C) (p : (List Rg) → Bool) (H : List AB) (hH : H.all (AB.low H.length) = true) (hcaps : C.lowL H.length caps = true)
    (hp : ∀ x ∈ l, ACall Try.prog g (rgs x :: caps.map .c) H (one (B (p x)) H)) : ACall Try.prog 82 [rgss l, .c (.fn (.func g) caps)] H (one (I (idxOf p l)) H) := by
  refine acall_at (X := tx) (nt := 19) (rs := [.tmp 4]) Try.func82 rfl rfl rfl rfl mo (by kernel_rfl) rfl hH (fun hf => ?_)
  have hfit : l.length ≤ 140737488355328 := fit_rgss (hf (rgss l) (by simp))
  simp only [go_sem, reduceIte, Nat.reduceEqDiff, Int.reduceNeg, rgss, rowR]
  refine go_loop (fun i : Nat => { slots := [(0, rgss l), (1, .c (.fn (.func g) caps)), (7, I l.length), (8, I i)], heap := H, marks := [] }) (fun i => i ≤ l.length ∧ ∀ j x, j < i → l[j]? = some x → p x = false) (fun i => l.length - i) 0 mo (by kernel_rfl) ?_ ⟨Nat.zero_le _, by intro j r h; omega⟩ ?_
  · refine ent_weaken [] (by simp) rfl (Nat.le_refl _) hH rfl ?_
    simp only [go_sem, reduceIte, Nat.reduceEqDiff, hcaps, rgss, rowR]
    exact .refl _
  rintro i ⟨hi, hall⟩
  simp only [go_sem, reduceIte, Nat.reduceEqDiff, Int.reduceNeg, rgss, rowR]
  refine go_if (fun h => ?_) (fun h => ?_)
  · have hlt : i < l.length := by simpa using h
    obtain ⟨x, hx⟩ := get_of_lt hlt
    have hpx := hp x (List.mem_of_getElem? hx)
    simp only [rgs] at hpx
    simp only [go_sem, reduceIte, Nat.reduceEqDiff, Int.reduceNeg, hx, rgss, rowR]
    refine ⟨by simp [hlt], ?_⟩
    refine aops_at (hpx) rfl rfl (by first | exact wk_refls _ | (repeat constructor)) ?_
    simp only [go_sem, reduceIte, Nat.reduceEqDiff, Int.reduceNeg]
    refine go_if (fun hb => ?_) (fun hb => ?_)
    · simp only [go_sem, reduceIte, Nat.reduceEqDiff, Int.reduceNeg]
      have e : idxOf p l = i := idxOf_at hall hx hb
      rw [e]
      exact ⟨.refl _, [], by simp⟩
    · simp only [go_sem, reduceIte, Nat.reduceEqDiff, Int.reduceNeg, wr_succ hlt hfit]
      refine ⟨i + 1, ⟨hlt, upto_succ hall hx hb⟩, by omega, ?_⟩
      refine ent_weaken [] (by simp) rfl (Nat.le_refl _) hH rfl ?_
      simp only [go_sem, reduceIte, Nat.reduceEqDiff, hcaps]
  · have hi' : i = l.length := by simp at h; omega
    have e : idxOf p l = -1 := idxOf_none (fun j x hj hx => hall j x (by omega) hx)
    simp only [go_sem, reduceIte, Nat.reduceEqDiff, Int.reduceNeg]
    rw [e]
    exact ⟨.refl _, [], by simp⟩
set_option maxHeartbeats 1000000 in
theorem has60 (l : List (List Rg)) (g : Nat) (caps : List C) (p : (List Rg) → Bool) (H : List AB) (hH : H.all (AB.low H.length) = true) (hcaps : C.lowL H.length caps = true)
    (hp : ∀ x ∈ l, ACall Try.prog g (rgs x :: caps.map .c) H (one (B (p x)) H)) : ACall Try.prog 60 [rgss l, .c (.fn (.func g) caps)] H (one (B (l.any p)) H) := by
  refine acall_at (X := tx) (nt := 9) (rs := [.tmp 4]) Try.func60 rfl rfl rfl rfl mo (by kernel_rfl) rfl hH (fun hf => ?_)
  simp only [go_sem, reduceIte, Nat.reduceEqDiff]
  refine aops_at (idx82 l g caps p H hH hcaps hp) rfl rfl (by first | exact wk_refls _ | (repeat constructor)) ?_
  simp only [go_sem, reduceIte, Nat.reduceEqDiff]
  rw [idxOf_any]
  exact ⟨.refl _, [], by simp⟩

set_option maxHeartbeats 1000000 in
theorem idx86 (l : List (List Int)) (g : Nat) (caps : List C) (p : (List Int) → Bool) (H : List AB) (hH : H.all (AB.low H.length) = true) (hcaps : C.lowL H.length caps = true)
    (hp : ∀ x ∈ l, ACall Try.prog g (ints x :: caps.map .c) H (one (B (p x)) H)) : ACall Try.prog 86 [intss l, .c (.fn (.func g) caps)] H (one (I (idxOf p l)) H) := by
  refine acall_at (X := tx) (nt := 19) (rs := [.tmp 4]) Try.func86 rfl rfl rfl rfl mo (by kernel_rfl) rfl hH (fun hf => ?_)
  have hfit : l.length ≤ 140737488355328 := fit_intss (hf (intss l) (by simp))
  simp only [go_sem, reduceIte, Nat.reduceEqDiff, Int.reduceNeg, intss, rowI]
  refine go_loop (fun i : Nat => { slots := [(0, intss l), (1, .c (.fn (.func g) caps)), (7, I l.length), (8, I i)], heap := H, marks := [] }) (fun i => i ≤ l.length ∧ ∀ j x, j < i → l[j]? = some x → p x = false) (fun i => l.length - i) 0 mo (by kernel_rfl) ?_ ⟨Nat.zero_le _, by intro j r h; omega⟩ ?_
  · refine ent_weaken [] (by simp) rfl (Nat.le_refl _) hH rfl ?_
    simp only [go_sem, reduceIte, Nat.reduceEqDiff, hcaps, intss, rowI]
    exact .refl _
  rintro i ⟨hi, hall⟩
  simp only [go_sem, reduceIte, Nat.reduceEqDiff, Int.reduceNeg, intss, rowI]
  refine go_if (fun h => ?_) (fun h => ?_)
  · have hlt : i < l.length := by simpa using h
    obtain ⟨x, hx⟩ := get_of_lt hlt
    have hpx := hp x (List.mem_of_getElem? hx)
    simp only [ints] at hpx
    simp only [go_sem, reduceIte, Nat.reduceEqDiff, Int.reduceNeg, hx, intss, rowI]
    refine ⟨by simp [hlt], ?_⟩
    refine aops_at (hpx) rfl rfl (by first | exact wk_refls _ | (repeat constructor)) ?_
    simp only [go_sem, reduceIte, Nat.reduceEqDiff, Int.reduceNeg]
    refine go_if (fun hb => ?_) (fun hb => ?_)
    · simp only [go_sem, reduceIte, Nat.reduceEqDiff, Int.reduceNeg]
      have e : idxOf p l = i := idxOf_at hall hx hb
      rw [e]
      exact ⟨.refl _, [], by simp⟩
    · simp only [go_sem, reduceIte, Nat.reduceEqDiff, Int.reduceNeg, wr_succ hlt hfit]
      refine ⟨i + 1, ⟨hlt, upto_succ hall hx hb⟩, by omega, ?_⟩
      refine ent_weaken [] (by simp) rfl (Nat.le_refl _) hH rfl ?_
      simp only [go_sem, reduceIte, Nat.reduceEqDiff, hcaps]
  · have hi' : i = l.length := by simp at h; omega
    have e : idxOf p l = -1 := idxOf_none (fun j x hj hx => hall j x (by omega) hx)
    simp only [go_sem, reduceIte, Nat.reduceEqDiff, Int.reduceNeg]
    rw [e]
    exact ⟨.refl _, [], by simp⟩
set_option maxHeartbeats 1000000 in
theorem has71 (l : List (List Int)) (g : Nat) (caps : List C) (p : (List Int) → Bool) (H : List AB) (hH : H.all (AB.low H.length) = true) (hcaps : C.lowL H.length caps = true)
    (hp : ∀ x ∈ l, ACall Try.prog g (ints x :: caps.map .c) H (one (B (p x)) H)) : ACall Try.prog 71 [intss l, .c (.fn (.func g) caps)] H (one (B (l.any p)) H) := by
  refine acall_at (X := tx) (nt := 9) (rs := [.tmp 4]) Try.func71 rfl rfl rfl rfl mo (by kernel_rfl) rfl hH (fun hf => ?_)
  simp only [go_sem, reduceIte, Nat.reduceEqDiff]
  refine aops_at (idx86 l g caps p H hH hcaps hp) rfl rfl (by first | exact wk_refls _ | (repeat constructor)) ?_
  simp only [go_sem, reduceIte, Nat.reduceEqDiff]
  rw [idxOf_any]
  exact ⟨.refl _, [], by simp⟩

def Hw (lo hi : Int) : List AB := [.cells [.d (.int .i64 lo)], .cells [.d (.int .i64 hi)]]
theorem chk88 (lo hi x : Int) : ACall Try.prog 88 [I x, .c (.ptr 0 0), .c (.ptr 1 0)] (Hw lo hi) (one (B (decide (x < lo) || decide (hi < x))) (Hw lo hi)) := by
  refine acall_at (X := tx) (nt := 13) (rs := [.tmp 4]) Try.func88 rfl rfl rfl rfl mo (by kernel_rfl) rfl rfl (fun hf => ?_)
  by_cases h : x < lo
  · simp only [go_sem, reduceIte, Nat.reduceEqDiff, Nat.reduceAdd, Hw, h]
    all_goals first | exact .refl _ | exact ⟨.refl _, .refl _⟩ | exact ⟨.refl _, .refl _, .refl _⟩ | exact ⟨.refl _, _, rfl⟩ | exact ⟨_, rfl⟩ | exact ⟨.refl _, [], by simp⟩ | exact ⟨[], by simp⟩
  · simp only [go_sem, reduceIte, Nat.reduceEqDiff, Nat.reduceAdd, Hw, h]
    all_goals first | exact .refl _ | exact ⟨.refl _, .refl _⟩ | exact ⟨.refl _, .refl _, .refl _⟩ | exact ⟨.refl _, _, rfl⟩ | exact ⟨_, rfl⟩ | exact ⟨.refl _, [], by simp⟩ | exact ⟨[], by simp⟩
/-- Numbers from one to another one. -/
def inR (lo hi : Int) (l : List Int) : Bool := !l.any (fun n => decide (n < lo) || decide (hi < n))
theorem inR_iff (lo hi : Int) (l : List Int) : inR lo hi l = true ↔ ∀ x ∈ l, lo ≤ x ∧ x ≤ hi := by
  simp [inR]
theorem inR1 (lo hi x : Int) : inR lo hi [x] = decide (lo ≤ x ∧ x ≤ hi) := by
  rw [Bool.eq_iff_iff]; simp [inR]
set_option maxHeartbeats 1000000 in
theorem within73 (lo hi : Int) (l : List Int) : Pure Try.prog 73 [I lo, I hi, ints l] (B (inR lo hi l)) := by
  refine pure_wk (X := tx) (nt := 11) (rs := [.tmp 6]) Try.func73 rfl rfl rfl rfl mo (by kernel_rfl) rfl rfl (fun hf => ?_)
  simp only [go_sem, reduceIte, Nat.reduceEqDiff, Nat.reduceAdd, ints]
  refine aops_at (has87 l 88 [.ptr 0 0, .ptr 1 0] (fun n => decide (n < lo) || decide (hi < n)) (Hw lo hi) rfl rfl (fun x _ => chk88 lo hi x)) rfl rfl (by first | exact wk_refls _ | (repeat constructor)) ?_
  simp only [go_sem, reduceIte, Nat.reduceEqDiff, inR]
/-- A range is valid. -/
def rgOk (top : Int) (r : Rg) : Bool := decide (0 ≤ r.lo ∧ r.lo ≤ r.hi ∧ r.hi ≤ top)
set_option maxHeartbeats 1000000 in
theorem bad84 (top : Int) (r : Rg) : ACall Try.prog 84 [rgV r, .c (.ptr 0 0)] [.cells [.d (.int .i64 top)]] (one (B (!rgOk top r)) [.cells [.d (.int .i64 top)]]) := by
  refine acall_at (X := tx) (nt := 19) (rs := [.tmp 3]) Try.func84 rfl rfl rfl rfl mo (by kernel_rfl) rfl rfl (fun hf => ?_)
  by_cases h : r.hi < r.lo
  · have e : rgOk top r = false := by simp [rgOk]; omega
    simp only [go_sem, reduceIte, Nat.reduceEqDiff, Nat.reduceAdd, Nat.reduceLeDiff, Nat.reduceBEq, rgV, rgC, h, e]
    all_goals first | exact .refl _ | exact ⟨.refl _, .refl _⟩ | exact ⟨.refl _, .refl _, .refl _⟩ | exact ⟨.refl _, _, rfl⟩ | exact ⟨_, rfl⟩ | exact ⟨.refl _, [], by simp⟩ | exact ⟨[], by simp⟩
  · simp only [go_sem, reduceIte, Nat.reduceEqDiff, Nat.reduceAdd, Nat.reduceLeDiff, Nat.reduceBEq, Nat.reduceMul, rgV, rgC, h]
    refine aops_pure' (within73 0 top [r.lo, r.hi]) rfl rfl (by first | exact wk_refls _ | (repeat constructor)) ?_
    have e : inR 0 top [r.lo, r.hi] = rgOk top r := by rw [Bool.eq_iff_iff]; simp [inR, rgOk]; omega
    rw [e]
    simp only [go_sem, reduceIte, Nat.reduceEqDiff]
    all_goals first | exact .refl _ | exact ⟨.refl _, .refl _⟩ | exact ⟨.refl _, .refl _, .refl _⟩ | exact ⟨.refl _, _, rfl⟩ | exact ⟨_, rfl⟩ | exact ⟨.refl _, [], by simp⟩ | exact ⟨[], by simp⟩
set_option maxHeartbeats 1000000 in
theorem known62 (top : Int) (l : List Rg) : Pure Try.prog 62 [I top, rgs l] (B (l.all (rgOk top))) := by
  refine pure_wk (X := tx) (nt := 9) (rs := [.tmp 4]) Try.func62 rfl rfl rfl rfl mo (by kernel_rfl) rfl rfl (fun hf => ?_)
  simp only [go_sem, reduceIte, Nat.reduceEqDiff, rgs]
  refine aops_at (has83 l 84 [.ptr 0 0] (fun r => !rgOk top r) [.cells [.d (.int .i64 top)]] rfl rfl (fun x _ => bad84 top x)) rfl rfl (by first | exact wk_refls _ | (repeat constructor)) ?_
  simp only [go_sem, reduceIte, Nat.reduceEqDiff]
  rw [show l.any (fun r => !rgOk top r) = !l.all (rgOk top) by rw [List.not_all_eq_any_not], Bool.not_not]
  all_goals first | exact .refl _ | exact ⟨.refl _, .refl _⟩ | exact ⟨.refl _, .refl _, .refl _⟩ | exact ⟨.refl _, _, rfl⟩ | exact ⟨_, rfl⟩ | exact ⟨.refl _, [], by simp⟩ | exact ⟨[], by simp⟩
theorem valid63 (top : Int) (r : Rg) : Pure Try.prog 63 [rgV r, I top] (B (rgOk top r)) := by
  refine pure_wk (X := tx) (nt := 21) (rs := [.tmp 4]) Try.func63 rfl rfl rfl rfl mo (by kernel_rfl) rfl rfl (fun hf => ?_)
  by_cases h1 : 0 ≤ r.lo
  · by_cases h2 : r.lo ≤ r.hi
    · have e : rgOk top r = decide (r.hi ≤ top) := by simp [rgOk, h1, h2]
      simp only [go_sem, reduceIte, Nat.reduceEqDiff, Nat.reduceAdd, Nat.reduceLeDiff, Nat.reduceBEq, rgV, rgC, h1, h2, e]
    · have e : rgOk top r = false := by simp [rgOk]; omega
      simp only [go_sem, reduceIte, Nat.reduceEqDiff, Nat.reduceAdd, Nat.reduceLeDiff, Nat.reduceBEq, rgV, rgC, h1, h2, e]
  · have e : rgOk top r = false := by simp [rgOk]; omega
    simp only [go_sem, reduceIte, Nat.reduceEqDiff, Nat.reduceAdd, Nat.reduceLeDiff, Nat.reduceBEq, rgV, rgC, h1, e]
/-- A row has another length. -/
theorem len61 (n : Int) (l : List Rg) (H : List AB) (id : Nat) (hid : H[id]? = some (.cells [.d (.int .i64 n)])) (hH : H.all (AB.low H.length) = true) : ACall Try.prog 61 [rgs l, .c (.ptr id 0)] H (one (B (!decide ((l.length : Int) = n))) H) := by
  refine acall_at (X := tx) (nt := 8) (rs := [.tmp 3]) Try.func61 rfl rfl rfl rfl mo (by kernel_rfl) ?_ hH (fun hf => ?_)
  · simp [V.low, C.low, rgs, V.lowL, (List.getElem?_eq_some_iff.1 hid).1]
  simp only [go_sem, reduceIte, Nat.reduceEqDiff, rgs, hid]
  all_goals first | exact .refl _ | exact ⟨.refl _, .refl _⟩ | exact ⟨.refl _, .refl _, .refl _⟩ | exact ⟨.refl _, _, rfl⟩ | exact ⟨_, rfl⟩ | exact ⟨.refl _, [], by simp⟩ | exact ⟨[], by simp⟩
theorem len79 (n : Int) (l : List Int) (H : List AB) (id : Nat) (hid : H[id]? = some (.cells [.d (.int .i64 n)])) (hH : H.all (AB.low H.length) = true) : ACall Try.prog 79 [ints l, .c (.ptr id 0)] H (one (B (!decide ((l.length : Int) = n))) H) := by
  refine acall_at (X := tx) (nt := 8) (rs := [.tmp 3]) Try.func79 rfl rfl rfl rfl mo (by kernel_rfl) ?_ hH (fun hf => ?_)
  · simp [V.low, C.low, ints, V.lowL, (List.getElem?_eq_some_iff.1 hid).1]
  simp only [go_sem, reduceIte, Nat.reduceEqDiff, ints, hid]
  all_goals first | exact .refl _ | exact ⟨.refl _, .refl _⟩ | exact ⟨.refl _, .refl _, .refl _⟩ | exact ⟨.refl _, _, rfl⟩ | exact ⟨_, rfl⟩ | exact ⟨.refl _, [], by simp⟩ | exact ⟨[], by simp⟩
theorem len72 (n : Int) (l : List Int) (H : List AB) (id : Nat) (hid : H[id]? = some (.cells [.d (.int .i64 n)])) (hH : H.all (AB.low H.length) = true) : ACall Try.prog 72 [ints l, .c (.ptr id 0)] H (one (B (!decide ((l.length : Int) = n))) H) := by
  refine acall_at (X := tx) (nt := 8) (rs := [.tmp 3]) Try.func72 rfl rfl rfl rfl mo (by kernel_rfl) ?_ hH (fun hf => ?_)
  · simp [V.low, C.low, ints, V.lowL, (List.getElem?_eq_some_iff.1 hid).1]
  simp only [go_sem, reduceIte, Nat.reduceEqDiff, ints, hid]
  all_goals first | exact .refl _ | exact ⟨.refl _, .refl _⟩ | exact ⟨.refl _, .refl _, .refl _⟩ | exact ⟨.refl _, _, rfl⟩ | exact ⟨_, rfl⟩ | exact ⟨.refl _, [], by simp⟩ | exact ⟨[], by simp⟩
theorem chip74 (l : List Int) : Pure Try.prog 74 [ints l] (B (!inR 0 1000 l)) := by
  refine pure_wk (X := tx) (nt := 6) (rs := [.tmp 2]) Try.func74 rfl rfl rfl rfl mo (by kernel_rfl) rfl rfl (fun hf => ?_)
  simp only [go_sem, reduceIte, Nat.reduceEqDiff, ints]
  refine aops_pure' (within73 0 1000 l) rfl rfl (by first | exact wk_refls _ | (repeat constructor)) ?_
  simp only [go_sem, reduceIte, Nat.reduceEqDiff]
end Go.Proofs.Ytjkpfojkkfopmaa
/- Metamers: sizes, equal lists, nearness, valid cases, chips and truths. -/
set_option linter.unusedSimpArgs false
set_option linter.unusedVariables false
set_option maxRecDepth 100000
namespace Go.Proofs.Ytjkpfojkkfopmaa
open Go Go.Abs Go.Proofs
def kp13 : List (Nat × List Nat) := [(0, [1]), (1, [1, 13]), (2, [2]), (3, [1, 3]), (4, [1, 3, 18]), (5, [1, 3]), (6, [1, 3, 27]), (7, [2]), (8, [2])]
theorem lk13 : lookK kp13 0 = some [1] ∧ lookK kp13 1 = some [1, 13] ∧ lookK kp13 2 = some [2] ∧ lookK kp13 3 = some [1, 3] ∧ lookK kp13 4 = some [1, 3, 18] ∧ lookK kp13 5 = some [1, 3] ∧ lookK kp13 6 = some [1, 3, 27] ∧ lookK kp13 7 = some [2] ∧ lookK kp13 8 = some [2] := ⟨rfl, rfl, rfl, rfl, rfl, rfl, rfl, rfl, rfl⟩
def kp14 : List (Nat × List Nat) := [(0, [1]), (1, [1, 13]), (2, [2]), (3, [1, 3]), (4, [1, 3, 18]), (5, [1, 3]), (6, [1, 3, 27]), (7, [2]), (8, [2])]
theorem lk14 : lookK kp14 0 = some [1] ∧ lookK kp14 1 = some [1, 13] ∧ lookK kp14 2 = some [2] ∧ lookK kp14 3 = some [1, 3] ∧ lookK kp14 4 = some [1, 3, 18] ∧ lookK kp14 5 = some [1, 3] ∧ lookK kp14 6 = some [1, 3, 27] ∧ lookK kp14 7 = some [2] ∧ lookK kp14 8 = some [2] := ⟨rfl, rfl, rfl, rfl, rfl, rfl, rfl, rfl, rfl⟩
def kp32 : List (Nat × List Nat) := [(0, [1, 2]), (1, [2, 22]), (2, [4]), (3, [2, 5]), (4, [2, 5, 27]), (5, [2, 5]), (6, [2, 5, 36]), (7, [4]), (8, [4])]
theorem lk32 : lookK kp32 0 = some [1, 2] ∧ lookK kp32 1 = some [2, 22] ∧ lookK kp32 2 = some [4] ∧ lookK kp32 3 = some [2, 5] ∧ lookK kp32 4 = some [2, 5, 27] ∧ lookK kp32 5 = some [2, 5] ∧ lookK kp32 6 = some [2, 5, 36] ∧ lookK kp32 7 = some [4] ∧ lookK kp32 8 = some [4] := ⟨rfl, rfl, rfl, rfl, rfl, rfl, rfl, rfl, rfl⟩
def kp22 : List (Nat × List Nat) := [(0, [0, 1]), (1, [0, 1, 10]), (2, [4]), (3, [0, 1, 5]), (4, [0, 1, 5, 14]), (5, [0, 1, 5]), (6, [0, 1, 5, 25]), (7, [4]), (8, [4])]
theorem lk22 : lookK kp22 0 = some [0, 1] ∧ lookK kp22 1 = some [0, 1, 10] ∧ lookK kp22 2 = some [4] ∧ lookK kp22 3 = some [0, 1, 5] ∧ lookK kp22 4 = some [0, 1, 5, 14] ∧ lookK kp22 5 = some [0, 1, 5] ∧ lookK kp22 6 = some [0, 1, 5, 25] ∧ lookK kp22 7 = some [4] ∧ lookK kp22 8 = some [4] := ⟨rfl, rfl, rfl, rfl, rfl, rfl, rfl, rfl, rfl⟩
def kp23 : List (Nat × List Nat) := [(0, [0, 1]), (1, [0, 1, 10]), (2, [4]), (3, [0, 1, 5]), (4, [0, 1, 5, 14]), (5, [0, 1, 5]), (6, [0, 1, 5, 25]), (7, [4]), (8, [4])]
theorem lk23 : lookK kp23 0 = some [0, 1] ∧ lookK kp23 1 = some [0, 1, 10] ∧ lookK kp23 2 = some [4] ∧ lookK kp23 3 = some [0, 1, 5] ∧ lookK kp23 4 = some [0, 1, 5, 14] ∧ lookK kp23 5 = some [0, 1, 5] ∧ lookK kp23 6 = some [0, 1, 5, 25] ∧ lookK kp23 7 = some [4] ∧ lookK kp23 8 = some [4] := ⟨rfl, rfl, rfl, rfl, rfl, rfl, rfl, rfl, rfl⟩
def kp39 : List (Nat × List Nat) := [(0, [0, 1]), (1, [0, 1, 10]), (2, [4]), (3, [0, 1, 5]), (4, [0, 1, 5, 14]), (5, [0, 1, 5]), (6, [0, 1, 5, 25]), (7, [4]), (8, [4])]
theorem lk39 : lookK kp39 0 = some [0, 1] ∧ lookK kp39 1 = some [0, 1, 10] ∧ lookK kp39 2 = some [4] ∧ lookK kp39 3 = some [0, 1, 5] ∧ lookK kp39 4 = some [0, 1, 5, 14] ∧ lookK kp39 5 = some [0, 1, 5] ∧ lookK kp39 6 = some [0, 1, 5, 25] ∧ lookK kp39 7 = some [4] ∧ lookK kp39 8 = some [4] := ⟨rfl, rfl, rfl, rfl, rfl, rfl, rfl, rfl, rfl⟩
def kp70 : List (Nat × List Nat) := [(0, [0, 1, 2]), (1, [1, 2, 9, 10, 11]), (2, [1, 2, 9, 10, 11, 12]), (3, [1, 2, 7, 8, 9, 10, 11]), (4, [1, 2, 9, 10, 11, 33]), (5, [6]), (6, [1, 2, 9, 10, 11]), (7, [6])]
theorem lk70 : lookK kp70 0 = some [0, 1, 2] ∧ lookK kp70 1 = some [1, 2, 9, 10, 11] ∧ lookK kp70 2 = some [1, 2, 9, 10, 11, 12] ∧ lookK kp70 3 = some [1, 2, 7, 8, 9, 10, 11] ∧ lookK kp70 4 = some [1, 2, 9, 10, 11, 33] ∧ lookK kp70 5 = some [6] ∧ lookK kp70 6 = some [1, 2, 9, 10, 11] ∧ lookK kp70 7 = some [6] := ⟨rfl, rfl, rfl, rfl, rfl, rfl, rfl, rfl⟩
def kp48 : List (Nat × List Nat) := [(0, [0, 1, 2]), (1, [0, 1, 2, 7]), (2, [0, 1, 2, 7, 11]), (3, [0, 1, 2, 7]), (4, [0, 1, 2, 7, 37]), (5, [6]), (6, [6])]
theorem lk48 : lookK kp48 0 = some [0, 1, 2] ∧ lookK kp48 1 = some [0, 1, 2, 7] ∧ lookK kp48 2 = some [0, 1, 2, 7, 11] ∧ lookK kp48 3 = some [0, 1, 2, 7] ∧ lookK kp48 4 = some [0, 1, 2, 7, 37] ∧ lookK kp48 5 = some [6] ∧ lookK kp48 6 = some [6] := ⟨rfl, rfl, rfl, rfl, rfl, rfl, rfl⟩

theorem bnd {i n : Nat} (h : i < n) : (decide ((0 : Int) ≤ (i : Int)) && decide ((i : Int) < (n : Int))) = true := by simp; omega
instance : DecidableEq Rg := fun a b => if h : a.lo = b.lo ∧ a.hi = b.hi then isTrue (by cases a; cases b; simp_all) else isFalse (fun e => h (by rw [e]; exact ⟨rfl, rfl⟩))
theorem Rg.ext_iff' (a b : Rg) : a = b ↔ a.lo = b.lo ∧ a.hi = b.hi := by
  constructor
  · intro e; rw [e]; exact ⟨rfl, rfl⟩
  · cases a; cases b; simp

def greatB (c : Cs) : Bool := decide (12 < c.lamp.length) || decide (6 < c.eye.length) || c.eye.any (fun r => decide (12 < r.length))
set_option maxHeartbeats 1000000 in
theorem great13 (c : Cs) : Pure Try.prog 13 [csV c] (B (greatB c)) := by
  refine pure_wkE (bad := []) (kp := kp13) (X := tx) (nt := 28) (rs := [.tmp 2]) Try.func13 rfl rfl rfl rfl mo (by kernel_rfl) rfl rfl (fun hf => ?_)
  by_cases h1 : 12 < c.lamp.length
  · have h1' : (12 : Int) < c.lamp.length := by omega
    have e : greatB c = true := by simp [greatB, h1]
    simp (maxSteps := 2000000) only [go_sem, reduceIte, Nat.reduceEqDiff, Nat.reduceAdd, Nat.reduceBEq, lk13, lk14, lk32, lk22, lk23, lk39, lk70, lk48, csV, csC, h1', e]
  have h1' : ¬ (12 : Int) < c.lamp.length := by omega
  by_cases h2 : 6 < c.eye.length
  · have h2' : (6 : Int) < c.eye.length := by omega
    have e : greatB c = true := by simp [greatB, h2]
    simp (maxSteps := 2000000) only [go_sem, reduceIte, Nat.reduceEqDiff, Nat.reduceAdd, Nat.reduceLeDiff, Nat.reduceBEq, lk13, lk14, lk32, lk22, lk23, lk39, lk70, lk48, csV, csC, h1', h2', e]
  have h2' : ¬ (6 : Int) < c.eye.length := by omega
  simp (maxSteps := 2000000) only [go_sem, reduceIte, Nat.reduceEqDiff, Nat.reduceAdd, Nat.reduceLeDiff, Nat.reduceBEq, lk13, lk14, lk32, lk22, lk23, lk39, lk70, lk48, csV, csC, h1', h2']
  refine goE_loop (bad := []) (kp := kp13) (fun i : Nat => { slots := [(1, .c (.ptr 0 0)), (3, I i)], heap := [.cells (csC c)], marks := [] }) (fun i => i ≤ c.eye.length ∧ ∀ j x, j < i → c.eye[j]? = some x → decide (12 < x.length) = false) (fun i => c.eye.length - i) 0 mo (by kernel_rfl) ?_ ⟨Nat.zero_le _, by intro j r h; omega⟩ ?_
  · refine ent_weaken [] rfl rfl (Nat.zero_le _) rfl rfl ?_
    simp (maxSteps := 2000000) only [go_sem, reduceIte, Nat.reduceEqDiff, Nat.reduceLT, lk13, lk14, lk32, lk22, lk23, lk39, lk70, lk48, csC]
    all_goals first | exact .refl _ | exact ⟨.refl _, .refl _⟩ | exact ⟨.refl _, .refl _, .refl _⟩ | exact ⟨.refl _, _, rfl⟩ | exact ⟨_, rfl⟩ | exact ⟨.refl _, [], by simp⟩ | exact ⟨[], by simp⟩
  rintro i ⟨hi, hall⟩
  simp (maxSteps := 2000000) only [go_sem, reduceIte, Nat.reduceEqDiff, Nat.reduceAdd, Nat.reduceLeDiff, Nat.reduceBEq, lk13, lk14, lk32, lk22, lk23, lk39, lk70, lk48, csC]
  refine goE_if (fun h => ?_) (fun h => ?_)
  · have hlt : i < c.eye.length := by simpa using h
    obtain ⟨x, hx⟩ := get_of_lt hlt
    simp (maxSteps := 2000000) only [go_sem, reduceIte, Nat.reduceEqDiff, Nat.reduceAdd, Nat.reduceLeDiff, Nat.reduceBEq, lk13, lk14, lk32, lk22, lk23, lk39, lk70, lk48, hx, rowR, bnd hlt]
    refine goE_if (fun h => ?_) (fun h => ?_)
    · have e : greatB c = true := by
        have := any_of_get (p := fun r : List Rg => decide (12 < r.length)) hx (by simp at h ⊢; omega)
        simp [greatB, this]
      simp (maxSteps := 2000000) only [go_sem, reduceIte, Nat.reduceEqDiff, Nat.reduceAdd, lk13, lk14, lk32, lk22, lk23, lk39, lk70, lk48, e]
    · simp (maxSteps := 2000000) only [go_sem, reduceIte, Nat.reduceEqDiff, Nat.reduceAdd, lk13, lk14, lk32, lk22, lk23, lk39, lk70, lk48, wr_succ hlt (by omega)]
      refine ⟨i + 1, ⟨hlt, upto_succ hall hx (by simp at h ⊢; omega)⟩, by omega, ?_⟩
      refine ent_weaken [] rfl rfl (Nat.zero_le _) rfl rfl ?_
      simp (maxSteps := 2000000) only [go_sem, reduceIte, Nat.reduceEqDiff, Nat.reduceLT, lk13, lk14, lk32, lk22, lk23, lk39, lk70, lk48]
  · have hi' : i = c.eye.length := by simp at h; omega
    have e : greatB c = false := by
      have := any_none (p := fun r : List Rg => decide (12 < r.length)) (fun j x hj hx => hall j x (by omega) hx)
      simp only [greatB, this, h1, h2, decide_false, Bool.or_self]
    simp (maxSteps := 2000000) only [go_sem, reduceIte, Nat.reduceEqDiff, Nat.reduceAdd, lk13, lk14, lk32, lk22, lk23, lk39, lk70, lk48, e]

def wideB (c : Tr) : Bool := decide (12 < c.lamp.length) || decide (6 < c.eye.length) || c.eye.any (fun r => decide (12 < r.length))
set_option maxHeartbeats 1000000 in
theorem great14 (c : Tr) : Pure Try.prog 14 [trV c] (B (wideB c)) := by
  refine pure_wkE (bad := []) (kp := kp14) (X := tx) (nt := 28) (rs := [.tmp 2]) Try.func14 rfl rfl rfl rfl mo (by kernel_rfl) rfl rfl (fun hf => ?_)
  by_cases h1 : 12 < c.lamp.length
  · have h1' : (12 : Int) < c.lamp.length := by omega
    have e : wideB c = true := by simp [wideB, h1]
    simp (maxSteps := 2000000) only [go_sem, reduceIte, Nat.reduceEqDiff, Nat.reduceAdd, Nat.reduceBEq, lk13, lk14, lk32, lk22, lk23, lk39, lk70, lk48, trV, trC, h1', e]
  have h1' : ¬ (12 : Int) < c.lamp.length := by omega
  by_cases h2 : 6 < c.eye.length
  · have h2' : (6 : Int) < c.eye.length := by omega
    have e : wideB c = true := by simp [wideB, h2]
    simp (maxSteps := 2000000) only [go_sem, reduceIte, Nat.reduceEqDiff, Nat.reduceAdd, Nat.reduceLeDiff, Nat.reduceBEq, lk13, lk14, lk32, lk22, lk23, lk39, lk70, lk48, trV, trC, h1', h2', e]
  have h2' : ¬ (6 : Int) < c.eye.length := by omega
  simp (maxSteps := 2000000) only [go_sem, reduceIte, Nat.reduceEqDiff, Nat.reduceAdd, Nat.reduceLeDiff, Nat.reduceBEq, lk13, lk14, lk32, lk22, lk23, lk39, lk70, lk48, trV, trC, h1', h2']
  refine goE_loop (bad := []) (kp := kp14) (fun i : Nat => { slots := [(1, .c (.ptr 0 0)), (3, I i)], heap := [.cells (trC c)], marks := [] }) (fun i => i ≤ c.eye.length ∧ ∀ j x, j < i → c.eye[j]? = some x → decide (12 < x.length) = false) (fun i => c.eye.length - i) 0 mo (by kernel_rfl) ?_ ⟨Nat.zero_le _, by intro j r h; omega⟩ ?_
  · refine ent_weaken [] rfl rfl (Nat.zero_le _) rfl rfl ?_
    simp (maxSteps := 2000000) only [go_sem, reduceIte, Nat.reduceEqDiff, Nat.reduceLT, lk13, lk14, lk32, lk22, lk23, lk39, lk70, lk48, trC]
    all_goals first | exact .refl _ | exact ⟨.refl _, .refl _⟩ | exact ⟨.refl _, .refl _, .refl _⟩ | exact ⟨.refl _, _, rfl⟩ | exact ⟨_, rfl⟩ | exact ⟨.refl _, [], by simp⟩ | exact ⟨[], by simp⟩
  rintro i ⟨hi, hall⟩
  simp (maxSteps := 2000000) only [go_sem, reduceIte, Nat.reduceEqDiff, Nat.reduceAdd, Nat.reduceLeDiff, Nat.reduceBEq, lk13, lk14, lk32, lk22, lk23, lk39, lk70, lk48, trC]
  refine goE_if (fun h => ?_) (fun h => ?_)
  · have hlt : i < c.eye.length := by simpa using h
    obtain ⟨x, hx⟩ := get_of_lt hlt
    simp (maxSteps := 2000000) only [go_sem, reduceIte, Nat.reduceEqDiff, Nat.reduceAdd, Nat.reduceLeDiff, Nat.reduceBEq, lk13, lk14, lk32, lk22, lk23, lk39, lk70, lk48, hx, rowI, bnd hlt]
    refine goE_if (fun h => ?_) (fun h => ?_)
    · have e : wideB c = true := by
        have := any_of_get (p := fun r : List Int => decide (12 < r.length)) hx (by simp at h ⊢; omega)
        simp [wideB, this]
      simp (maxSteps := 2000000) only [go_sem, reduceIte, Nat.reduceEqDiff, Nat.reduceAdd, lk13, lk14, lk32, lk22, lk23, lk39, lk70, lk48, e]
    · simp (maxSteps := 2000000) only [go_sem, reduceIte, Nat.reduceEqDiff, Nat.reduceAdd, lk13, lk14, lk32, lk22, lk23, lk39, lk70, lk48, wr_succ hlt (by omega)]
      refine ⟨i + 1, ⟨hlt, upto_succ hall hx (by simp at h ⊢; omega)⟩, by omega, ?_⟩
      refine ent_weaken [] rfl rfl (Nat.zero_le _) rfl rfl ?_
      simp (maxSteps := 2000000) only [go_sem, reduceIte, Nat.reduceEqDiff, Nat.reduceLT, lk13, lk14, lk32, lk22, lk23, lk39, lk70, lk48]
  · have hi' : i = c.eye.length := by simp at h; omega
    have e : wideB c = false := by
      have := any_none (p := fun r : List Int => decide (12 < r.length)) (fun j x hj hx => hall j x (by omega) hx)
      simp only [wideB, this, h1, h2, decide_false, Bool.or_self]
    simp (maxSteps := 2000000) only [go_sem, reduceIte, Nat.reduceEqDiff, Nat.reduceAdd, lk13, lk14, lk32, lk22, lk23, lk39, lk70, lk48, e]

def broadB (p : Pal) (most : Int) : Bool := decide (most < p.pig.length ∧ p.pig.length ≤ 12) || decide (16 < p.pig.length) || p.pig.any (fun r => decide (12 < r.length))
set_option maxHeartbeats 1000000 in
theorem broad32 (p : Pal) (most : Int) : Pure Try.prog 32 [palV p, I most] (B (broadB p most)) := by
  refine pure_wkE (bad := []) (kp := kp32) (X := tx) (nt := 37) (rs := [.tmp 4]) Try.func32 rfl rfl rfl rfl mo (by kernel_rfl) rfl rfl (fun hf => ?_)
  by_cases h2 : 16 < p.pig.length
  · have h2' : (16 : Int) < p.pig.length := by omega
    have h3' : ¬ (p.pig.length : Int) ≤ 12 := by omega
    have e : broadB p most = true := by simp [broadB, h2]
    by_cases h1 : most < p.pig.length
    · simp (maxSteps := 2000000) only [go_sem, reduceIte, Nat.reduceEqDiff, Nat.reduceAdd, Nat.reduceLeDiff, Nat.reduceBEq, lk13, lk14, lk32, lk22, lk23, lk39, lk70, lk48, palV, palC, h1, h2', h3', e]
    · simp (maxSteps := 2000000) only [go_sem, reduceIte, Nat.reduceEqDiff, Nat.reduceAdd, Nat.reduceLeDiff, Nat.reduceBEq, lk13, lk14, lk32, lk22, lk23, lk39, lk70, lk48, palV, palC, h1, h2', h3', e]
  have h2' : ¬ (16 : Int) < p.pig.length := by omega
  by_cases hb : most < p.pig.length ∧ p.pig.length ≤ 12
  · have h1 := hb.1
    have h3' : (p.pig.length : Int) ≤ 12 := by omega
    have e : broadB p most = true := by simp [broadB, hb]
    simp (maxSteps := 2000000) only [go_sem, reduceIte, Nat.reduceEqDiff, Nat.reduceAdd, Nat.reduceLeDiff, Nat.reduceBEq, lk13, lk14, lk32, lk22, lk23, lk39, lk70, lk48, palV, palC, h1, h2', h3', e]
  have hb' : (most < p.pig.length ∧ ¬ (p.pig.length : Int) ≤ 12) ∨ ¬ most < p.pig.length := by omega
  rcases hb' with ⟨h1, h3'⟩ | h1
  · simp (maxSteps := 2000000) only [go_sem, reduceIte, Nat.reduceEqDiff, Nat.reduceAdd, Nat.reduceLeDiff, Nat.reduceBEq, lk13, lk14, lk32, lk22, lk23, lk39, lk70, lk48, palV, palC, h1, h2', h3']
    refine goE_loop (bad := []) (kp := kp32) (fun i : Nat => { slots := [(2, .c (.ptr 0 0)), (5, I i)], heap := [.cells (palC p)], marks := [] }) (fun i => i ≤ p.pig.length ∧ ∀ j x, j < i → p.pig[j]? = some x → decide (12 < x.length) = false) (fun i => p.pig.length - i) 0 mo (by kernel_rfl) ?_ ⟨Nat.zero_le _, by intro j r h; omega⟩ ?_
    · refine ent_weaken [] rfl rfl (Nat.zero_le _) rfl rfl ?_
      simp (maxSteps := 2000000) only [go_sem, reduceIte, Nat.reduceEqDiff, Nat.reduceLT, lk13, lk14, lk32, lk22, lk23, lk39, lk70, lk48, palC]
      all_goals first | exact .refl _ | exact ⟨.refl _, .refl _⟩ | exact ⟨.refl _, .refl _, .refl _⟩ | exact ⟨.refl _, _, rfl⟩ | exact ⟨_, rfl⟩ | exact ⟨.refl _, [], by simp⟩ | exact ⟨[], by simp⟩
    rintro i ⟨hi, hall⟩
    simp (maxSteps := 2000000) only [go_sem, reduceIte, Nat.reduceEqDiff, Nat.reduceAdd, Nat.reduceLeDiff, Nat.reduceBEq, lk13, lk14, lk32, lk22, lk23, lk39, lk70, lk48, palC]
    refine goE_if (fun h => ?_) (fun h => ?_)
    · have hlt : i < p.pig.length := by simpa using h
      obtain ⟨x, hx⟩ := get_of_lt hlt
      simp (maxSteps := 2000000) only [go_sem, reduceIte, Nat.reduceEqDiff, Nat.reduceAdd, Nat.reduceLeDiff, Nat.reduceBEq, lk13, lk14, lk32, lk22, lk23, lk39, lk70, lk48, hx, rowI, bnd hlt]
      refine goE_if (fun h => ?_) (fun h => ?_)
      · have e : broadB p most = true := by
          have := any_of_get (p := fun r : List Int => decide (12 < r.length)) hx (by simp at h ⊢; omega)
          simp [broadB, this]
        simp (maxSteps := 2000000) only [go_sem, reduceIte, Nat.reduceEqDiff, Nat.reduceAdd, lk13, lk14, lk32, lk22, lk23, lk39, lk70, lk48, e]
      · simp (maxSteps := 2000000) only [go_sem, reduceIte, Nat.reduceEqDiff, Nat.reduceAdd, lk13, lk14, lk32, lk22, lk23, lk39, lk70, lk48, wr_succ hlt (by omega)]
        refine ⟨i + 1, ⟨hlt, upto_succ hall hx (by simp at h ⊢; omega)⟩, by omega, ?_⟩
        refine ent_weaken [] rfl rfl (Nat.zero_le _) rfl rfl ?_
        simp (maxSteps := 2000000) only [go_sem, reduceIte, Nat.reduceEqDiff, Nat.reduceLT, lk13, lk14, lk32, lk22, lk23, lk39, lk70, lk48]
    · have hi' : i = p.pig.length := by simp at h; omega
      have e : broadB p most = false := by
        have := any_none (p := fun r : List Int => decide (12 < r.length)) (fun j x hj hx => hall j x (by omega) hx)
        simp only [broadB, this, h2, hb, decide_false, Bool.or_self]
      simp (maxSteps := 2000000) only [go_sem, reduceIte, Nat.reduceEqDiff, Nat.reduceAdd, lk13, lk14, lk32, lk22, lk23, lk39, lk70, lk48, e]
  · simp (maxSteps := 2000000) only [go_sem, reduceIte, Nat.reduceEqDiff, Nat.reduceAdd, Nat.reduceLeDiff, Nat.reduceBEq, lk13, lk14, lk32, lk22, lk23, lk39, lk70, lk48, palV, palC, h1, h2']
    refine goE_loop (bad := []) (kp := kp32) (fun i : Nat => { slots := [(2, .c (.ptr 0 0)), (5, I i)], heap := [.cells (palC p)], marks := [] }) (fun i => i ≤ p.pig.length ∧ ∀ j x, j < i → p.pig[j]? = some x → decide (12 < x.length) = false) (fun i => p.pig.length - i) 0 mo (by kernel_rfl) ?_ ⟨Nat.zero_le _, by intro j r h; omega⟩ ?_
    · refine ent_weaken [] rfl rfl (Nat.zero_le _) rfl rfl ?_
      simp (maxSteps := 2000000) only [go_sem, reduceIte, Nat.reduceEqDiff, Nat.reduceLT, lk13, lk14, lk32, lk22, lk23, lk39, lk70, lk48, palC]
      all_goals first | exact .refl _ | exact ⟨.refl _, .refl _⟩ | exact ⟨.refl _, .refl _, .refl _⟩ | exact ⟨.refl _, _, rfl⟩ | exact ⟨_, rfl⟩ | exact ⟨.refl _, [], by simp⟩ | exact ⟨[], by simp⟩
    rintro i ⟨hi, hall⟩
    simp (maxSteps := 2000000) only [go_sem, reduceIte, Nat.reduceEqDiff, Nat.reduceAdd, Nat.reduceLeDiff, Nat.reduceBEq, lk13, lk14, lk32, lk22, lk23, lk39, lk70, lk48, palC]
    refine goE_if (fun h => ?_) (fun h => ?_)
    · have hlt : i < p.pig.length := by simpa using h
      obtain ⟨x, hx⟩ := get_of_lt hlt
      simp (maxSteps := 2000000) only [go_sem, reduceIte, Nat.reduceEqDiff, Nat.reduceAdd, Nat.reduceLeDiff, Nat.reduceBEq, lk13, lk14, lk32, lk22, lk23, lk39, lk70, lk48, hx, rowI, bnd hlt]
      refine goE_if (fun h => ?_) (fun h => ?_)
      · have e : broadB p most = true := by
          have := any_of_get (p := fun r : List Int => decide (12 < r.length)) hx (by simp at h ⊢; omega)
          simp [broadB, this]
        simp (maxSteps := 2000000) only [go_sem, reduceIte, Nat.reduceEqDiff, Nat.reduceAdd, lk13, lk14, lk32, lk22, lk23, lk39, lk70, lk48, e]
      · simp (maxSteps := 2000000) only [go_sem, reduceIte, Nat.reduceEqDiff, Nat.reduceAdd, lk13, lk14, lk32, lk22, lk23, lk39, lk70, lk48, wr_succ hlt (by omega)]
        refine ⟨i + 1, ⟨hlt, upto_succ hall hx (by simp at h ⊢; omega)⟩, by omega, ?_⟩
        refine ent_weaken [] rfl rfl (Nat.zero_le _) rfl rfl ?_
        simp (maxSteps := 2000000) only [go_sem, reduceIte, Nat.reduceEqDiff, Nat.reduceLT, lk13, lk14, lk32, lk22, lk23, lk39, lk70, lk48]
    · have hi' : i = p.pig.length := by simp at h; omega
      have e : broadB p most = false := by
        have := any_none (p := fun r : List Int => decide (12 < r.length)) (fun j x hj hx => hall j x (by omega) hx)
        simp only [broadB, this, h2, hb, decide_false, Bool.or_self]
      simp (maxSteps := 2000000) only [go_sem, reduceIte, Nat.reduceEqDiff, Nat.reduceAdd, lk13, lk14, lk32, lk22, lk23, lk39, lk70, lk48, e]

set_option maxHeartbeats 1000000 in
theorem longs22 (a b : List Int) : Pure Try.prog 22 [ints a, ints b] (B (decide (a = b))) := by
  refine pure_wkE (bad := []) (kp := kp22) (X := tx) (nt := 26) (rs := [.tmp 4]) Try.func22 rfl rfl rfl rfl mo (by kernel_rfl) rfl rfl (fun hf => ?_)
  have ha := fit_ints (hf (ints a) (by simp))
  simp (maxSteps := 2000000) only [go_sem, reduceIte, Nat.reduceEqDiff, Nat.reduceAdd, lk13, lk14, lk32, lk22, lk23, lk39, lk70, lk48, ints]
  refine goE_if (fun h => ?_) (fun h => ?_)
  · have hne : a ≠ b := fun e => by simp [e] at h
    simp (maxSteps := 2000000) only [go_sem, reduceIte, Nat.reduceEqDiff, Nat.reduceAdd, lk13, lk14, lk32, lk22, lk23, lk39, lk70, lk48, hne]
  have hlen : a.length = b.length := by simp at h; omega
  simp (maxSteps := 2000000) only [go_sem, reduceIte, Nat.reduceEqDiff, Nat.reduceAdd, lk13, lk14, lk32, lk22, lk23, lk39, lk70, lk48]
  refine goE_loop (bad := []) (kp := kp22) (fun i : Nat => { slots := [(0, ints a), (1, ints b), (5, I i)], heap := [], marks := [] }) (fun i => i ≤ a.length ∧ a.take i = b.take i) (fun i => a.length - i) 0 mo (by kernel_rfl) ?_ (by simp) ?_
  · refine ent_weaken [] rfl rfl (Nat.zero_le _) rfl rfl ?_
    simp (maxSteps := 2000000) only [go_sem, reduceIte, Nat.reduceEqDiff, lk13, lk14, lk32, lk22, lk23, lk39, lk70, lk48, ints]
    all_goals first | exact .refl _ | exact ⟨.refl _, .refl _⟩ | exact ⟨.refl _, .refl _, .refl _⟩ | exact ⟨.refl _, _, rfl⟩ | exact ⟨_, rfl⟩ | exact ⟨.refl _, [], by simp⟩ | exact ⟨[], by simp⟩
  rintro i ⟨hi, ht⟩
  simp (maxSteps := 2000000) only [go_sem, reduceIte, Nat.reduceEqDiff, Nat.reduceAdd, lk13, lk14, lk32, lk22, lk23, lk39, lk70, lk48, ints]
  refine goE_if (fun h => ?_) (fun h => ?_)
  · have hlt : i < a.length := by simpa using h
    obtain ⟨x, hx⟩ := get_of_lt hlt
    obtain ⟨y, hy⟩ := get_of_lt (hlen ▸ hlt)
    simp (maxSteps := 2000000) only [go_sem, reduceIte, Nat.reduceEqDiff, Nat.reduceAdd, lk13, lk14, lk32, lk22, lk23, lk39, lk70, lk48, hx, hy, iD, bnd hlt, bnd (show i < b.length by omega)]
    refine goE_if (fun hn => ?_) (fun hn => ?_)
    · have hne : a ≠ b := fun e => by subst e; rw [hx] at hy; cases hy; simp at hn
      simp (maxSteps := 2000000) only [go_sem, reduceIte, Nat.reduceEqDiff, Nat.reduceAdd, lk13, lk14, lk32, lk22, lk23, lk39, lk70, lk48, hne]
    · simp (maxSteps := 2000000) only [go_sem, reduceIte, Nat.reduceEqDiff, Nat.reduceAdd, lk13, lk14, lk32, lk22, lk23, lk39, lk70, lk48, wr_succ hlt ha]
      refine ⟨i + 1, ⟨hlt, ?_⟩, by omega, ?_⟩
      · have : x = y := by simpa using hn
        rw [take_succ_eq hx, take_succ_eq hy, ht, this]
      · refine ent_weaken [] rfl rfl (Nat.zero_le _) rfl rfl ?_
        simp (maxSteps := 2000000) only [go_sem, reduceIte, Nat.reduceEqDiff, lk13, lk14, lk32, lk22, lk23, lk39, lk70, lk48]
  · have : i = a.length := by simp at h; omega
    subst this
    rw [List.take_length] at ht
    have e : a = b := by rw [ht, hlen, List.take_length]
    simp (maxSteps := 2000000) only [go_sem, reduceIte, Nat.reduceEqDiff, Nat.reduceAdd, lk13, lk14, lk32, lk22, lk23, lk39, lk70, lk48, e]

set_option maxHeartbeats 1000000 in
theorem ints39 (a b : List Int) : Pure Try.prog 39 [ints a, ints b] (B (decide (a = b))) := by
  refine pure_wkE (bad := []) (kp := kp39) (X := tx) (nt := 26) (rs := [.tmp 4]) Try.func39 rfl rfl rfl rfl mo (by kernel_rfl) rfl rfl (fun hf => ?_)
  have ha := fit_ints (hf (ints a) (by simp))
  simp (maxSteps := 2000000) only [go_sem, reduceIte, Nat.reduceEqDiff, Nat.reduceAdd, lk13, lk14, lk32, lk22, lk23, lk39, lk70, lk48, ints]
  refine goE_if (fun h => ?_) (fun h => ?_)
  · have hne : a ≠ b := fun e => by simp [e] at h
    simp (maxSteps := 2000000) only [go_sem, reduceIte, Nat.reduceEqDiff, Nat.reduceAdd, lk13, lk14, lk32, lk22, lk23, lk39, lk70, lk48, hne]
  have hlen : a.length = b.length := by simp at h; omega
  simp (maxSteps := 2000000) only [go_sem, reduceIte, Nat.reduceEqDiff, Nat.reduceAdd, lk13, lk14, lk32, lk22, lk23, lk39, lk70, lk48]
  refine goE_loop (bad := []) (kp := kp39) (fun i : Nat => { slots := [(0, ints a), (1, ints b), (5, I i)], heap := [], marks := [] }) (fun i => i ≤ a.length ∧ a.take i = b.take i) (fun i => a.length - i) 0 mo (by kernel_rfl) ?_ (by simp) ?_
  · refine ent_weaken [] rfl rfl (Nat.zero_le _) rfl rfl ?_
    simp (maxSteps := 2000000) only [go_sem, reduceIte, Nat.reduceEqDiff, lk13, lk14, lk32, lk22, lk23, lk39, lk70, lk48, ints]
    all_goals first | exact .refl _ | exact ⟨.refl _, .refl _⟩ | exact ⟨.refl _, .refl _, .refl _⟩ | exact ⟨.refl _, _, rfl⟩ | exact ⟨_, rfl⟩ | exact ⟨.refl _, [], by simp⟩ | exact ⟨[], by simp⟩
  rintro i ⟨hi, ht⟩
  simp (maxSteps := 2000000) only [go_sem, reduceIte, Nat.reduceEqDiff, Nat.reduceAdd, lk13, lk14, lk32, lk22, lk23, lk39, lk70, lk48, ints]
  refine goE_if (fun h => ?_) (fun h => ?_)
  · have hlt : i < a.length := by simpa using h
    obtain ⟨x, hx⟩ := get_of_lt hlt
    obtain ⟨y, hy⟩ := get_of_lt (hlen ▸ hlt)
    simp (maxSteps := 2000000) only [go_sem, reduceIte, Nat.reduceEqDiff, Nat.reduceAdd, lk13, lk14, lk32, lk22, lk23, lk39, lk70, lk48, hx, hy, iD, bnd hlt, bnd (show i < b.length by omega)]
    refine goE_if (fun hn => ?_) (fun hn => ?_)
    · have hne : a ≠ b := fun e => by subst e; rw [hx] at hy; cases hy; simp at hn
      simp (maxSteps := 2000000) only [go_sem, reduceIte, Nat.reduceEqDiff, Nat.reduceAdd, lk13, lk14, lk32, lk22, lk23, lk39, lk70, lk48, hne]
    · simp (maxSteps := 2000000) only [go_sem, reduceIte, Nat.reduceEqDiff, Nat.reduceAdd, lk13, lk14, lk32, lk22, lk23, lk39, lk70, lk48, wr_succ hlt ha]
      refine ⟨i + 1, ⟨hlt, ?_⟩, by omega, ?_⟩
      · have : x = y := by simpa using hn
        rw [take_succ_eq hx, take_succ_eq hy, ht, this]
      · refine ent_weaken [] rfl rfl (Nat.zero_le _) rfl rfl ?_
        simp (maxSteps := 2000000) only [go_sem, reduceIte, Nat.reduceEqDiff, lk13, lk14, lk32, lk22, lk23, lk39, lk70, lk48]
  · have : i = a.length := by simp at h; omega
    subst this
    rw [List.take_length] at ht
    have e : a = b := by rw [ht, hlen, List.take_length]
    simp (maxSteps := 2000000) only [go_sem, reduceIte, Nat.reduceEqDiff, Nat.reduceAdd, lk13, lk14, lk32, lk22, lk23, lk39, lk70, lk48, e]

set_option maxHeartbeats 1000000 in
theorem ranges23 (a b : List Rg) : Pure Try.prog 23 [rgs a, rgs b] (B (decide (a = b))) := by
  refine pure_wkE (bad := []) (kp := kp23) (X := tx) (nt := 26) (rs := [.tmp 4]) Try.func23 rfl rfl rfl rfl mo (by kernel_rfl) rfl rfl (fun hf => ?_)
  have ha := fit_rgs (hf (rgs a) (by simp))
  simp (maxSteps := 2000000) only [go_sem, reduceIte, Nat.reduceEqDiff, Nat.reduceAdd, lk13, lk14, lk32, lk22, lk23, lk39, lk70, lk48, rgs]
  refine goE_if (fun h => ?_) (fun h => ?_)
  · have hne : a ≠ b := fun e => by simp [e] at h
    simp (maxSteps := 2000000) only [go_sem, reduceIte, Nat.reduceEqDiff, Nat.reduceAdd, lk13, lk14, lk32, lk22, lk23, lk39, lk70, lk48, hne]
  have hlen : a.length = b.length := by simp at h; omega
  simp (maxSteps := 2000000) only [go_sem, reduceIte, Nat.reduceEqDiff, Nat.reduceAdd, lk13, lk14, lk32, lk22, lk23, lk39, lk70, lk48]
  refine goE_loop (bad := []) (kp := kp23) (fun i : Nat => { slots := [(0, rgs a), (1, rgs b), (5, I i)], heap := [], marks := [] }) (fun i => i ≤ a.length ∧ a.take i = b.take i) (fun i => a.length - i) 0 mo (by kernel_rfl) ?_ (by simp) ?_
  · refine ent_weaken [] rfl rfl (Nat.zero_le _) rfl rfl ?_
    simp (maxSteps := 2000000) only [go_sem, reduceIte, Nat.reduceEqDiff, lk13, lk14, lk32, lk22, lk23, lk39, lk70, lk48, rgs]
    all_goals first | exact .refl _ | exact ⟨.refl _, .refl _⟩ | exact ⟨.refl _, .refl _, .refl _⟩ | exact ⟨.refl _, _, rfl⟩ | exact ⟨_, rfl⟩ | exact ⟨.refl _, [], by simp⟩ | exact ⟨[], by simp⟩
  rintro i ⟨hi, ht⟩
  simp (maxSteps := 2000000) only [go_sem, reduceIte, Nat.reduceEqDiff, Nat.reduceAdd, lk13, lk14, lk32, lk22, lk23, lk39, lk70, lk48, rgs]
  refine goE_if (fun h => ?_) (fun h => ?_)
  · have hlt : i < a.length := by simpa using h
    obtain ⟨x, hx⟩ := get_of_lt hlt
    obtain ⟨y, hy⟩ := get_of_lt (hlen ▸ hlt)
    simp (maxSteps := 2000000) only [go_sem, reduceIte, Nat.reduceEqDiff, Nat.reduceAdd, lk13, lk14, lk32, lk22, lk23, lk39, lk70, lk48, hx, hy, rgD, bnd hlt, bnd (show i < b.length by omega)]
    refine goE_if (fun hn => ?_) (fun hn => ?_)
    · have hne : a ≠ b := fun e => by subst e; rw [hx] at hy; cases hy; simp at hn
      simp (maxSteps := 2000000) only [go_sem, reduceIte, Nat.reduceEqDiff, Nat.reduceAdd, lk13, lk14, lk32, lk22, lk23, lk39, lk70, lk48, hne]
    · simp (maxSteps := 2000000) only [go_sem, reduceIte, Nat.reduceEqDiff, Nat.reduceAdd, lk13, lk14, lk32, lk22, lk23, lk39, lk70, lk48, wr_succ hlt ha]
      refine ⟨i + 1, ⟨hlt, ?_⟩, by omega, ?_⟩
      · have : x = y := by rw [Rg.ext_iff']; simpa using hn
        rw [take_succ_eq hx, take_succ_eq hy, ht, this]
      · refine ent_weaken [] rfl rfl (Nat.zero_le _) rfl rfl ?_
        simp (maxSteps := 2000000) only [go_sem, reduceIte, Nat.reduceEqDiff, lk13, lk14, lk32, lk22, lk23, lk39, lk70, lk48]
  · have : i = a.length := by simp at h; omega
    subst this
    rw [List.take_length] at ht
    have e : a = b := by rw [ht, hlen, List.take_length]
    simp (maxSteps := 2000000) only [go_sem, reduceIte, Nat.reduceEqDiff, Nat.reduceAdd, lk13, lk14, lk32, lk22, lk23, lk39, lk70, lk48, e]

/-- Two spectra differ by at most so much. -/
def farB (m : Int) (z : Int × Int) : Bool := decide (z.1 < z.2 - m) || decide (z.2 + m < z.1)
def nearB (a b : List Int) (m : Int) : Bool := !(a.zip b).any (farB m)
theorem zip_get {a b : List Int} {i : Nat} {x y : Int} (hx : a[i]? = some x) (hy : b[i]? = some y) : (a.zip b)[i]? = some (x, y) := by
  rw [List.getElem?_zip_eq_some]; exact ⟨hx, hy⟩
theorem nearB_bad {a b : List Int} {i : Nat} {x y m : Int} (hx : a[i]? = some x) (hy : b[i]? = some y) (h : farB m (x, y) = true) : nearB a b m = false := by
  have := any_of_get (p := farB m) (zip_get hx hy) h
  simp [nearB, this]
theorem nearB_ok {a b : List Int} {m : Int} (h : ∀ (j : Nat) z, j < a.length → (a.zip b)[j]? = some z → farB m z = false) : nearB a b m = true := by
  have := any_none (p := farB m) (l := a.zip b) (fun j z hj hz => h j z (by simp at hj; omega) hz)
  simp [nearB, this]

set_option maxHeartbeats 2000000 in
theorem near70 (a b : List Int) (m : Int) (hl : a.length ≤ b.length) (hb : ∀ y ∈ b, -1000000 ≤ y ∧ y ≤ 1000000) (hm0 : 0 ≤ m) (hm : m ≤ 1000000) : Pure Try.prog 70 [ints a, ints b, I m] (B (nearB a b m)) := by
  refine pure_wkE (bad := []) (kp := kp70) (X := tx) (nt := 35) (rs := [.tmp 6]) Try.func70 rfl rfl rfl rfl mo (by kernel_rfl) rfl rfl (fun hf => ?_)
  have ha := fit_ints (hf (ints a) (by simp))
  simp (maxSteps := 2000000) only [go_sem, reduceIte, Nat.reduceEqDiff, Nat.reduceAdd, lk13, lk14, lk32, lk22, lk23, lk39, lk70, lk48, ints]
  refine goE_loop (bad := []) (kp := kp70) (fun i : Nat => { slots := [(1, ints b), (2, I m), (9, ints a), (10, I a.length), (11, I i)], heap := [], marks := [] }) (fun i => i ≤ a.length ∧ ∀ j z, j < i → (a.zip b)[j]? = some z → farB m z = false) (fun i => a.length - i) 0 mo (by kernel_rfl) ?_ ⟨Nat.zero_le _, by intro j r h; omega⟩ ?_
  · refine ent_weaken [] rfl rfl (Nat.zero_le _) rfl rfl ?_
    simp (maxSteps := 2000000) only [go_sem, reduceIte, Nat.reduceEqDiff, lk13, lk14, lk32, lk22, lk23, lk39, lk70, lk48, ints]
    all_goals first | exact .refl _ | exact ⟨.refl _, .refl _⟩ | exact ⟨.refl _, .refl _, .refl _⟩ | exact ⟨.refl _, _, rfl⟩ | exact ⟨_, rfl⟩ | exact ⟨.refl _, [], by simp⟩ | exact ⟨[], by simp⟩
  rintro i ⟨hi, hall⟩
  simp (maxSteps := 2000000) only [go_sem, reduceIte, Nat.reduceEqDiff, Nat.reduceAdd, lk13, lk14, lk32, lk22, lk23, lk39, lk70, lk48, ints]
  refine goE_if (fun h => ?_) (fun h => ?_)
  · have hlt : i < a.length := by simpa using h
    obtain ⟨x, hx⟩ := get_of_lt hlt
    obtain ⟨y, hy⟩ := get_of_lt (show i < b.length by omega)
    obtain ⟨y0, y1⟩ := hb y (List.mem_of_getElem? hy)
    have w1 : wr .i64 (y - m) = y - m := by rw [wr_i64] <;> omega
    have w2 : wr .i64 (y + m) = y + m := by rw [wr_i64] <;> omega
    by_cases h1 : x < y - m
    · have e : nearB a b m = false := nearB_bad hx hy (by simp [farB, h1])
      simp (maxSteps := 2000000) only [go_sem, reduceIte, Nat.reduceEqDiff, Nat.reduceAdd, lk13, lk14, lk32, lk22, lk23, lk39, lk70, lk48, hx, hy, iD, w1, w2, h1, bnd hlt, bnd (show i < b.length by omega), e]
    by_cases h2 : y + m < x
    · have e : nearB a b m = false := nearB_bad hx hy (by simp [farB, h2])
      simp (maxSteps := 2000000) only [go_sem, reduceIte, Nat.reduceEqDiff, Nat.reduceAdd, lk13, lk14, lk32, lk22, lk23, lk39, lk70, lk48, hx, hy, iD, w1, w2, h1, h2, bnd hlt, bnd (show i < b.length by omega), e]
    simp (maxSteps := 2000000) only [go_sem, reduceIte, Nat.reduceEqDiff, Nat.reduceAdd, lk13, lk14, lk32, lk22, lk23, lk39, lk70, lk48, hx, hy, iD, w1, w2, h1, h2, bnd hlt, bnd (show i < b.length by omega), wr_succ hlt ha]
    refine ⟨i + 1, ⟨hlt, upto_succ hall (zip_get hx hy) (by simp [farB, h1, h2])⟩, by omega, ?_⟩
    refine ent_weaken [] rfl rfl (Nat.zero_le _) rfl rfl ?_
    simp (maxSteps := 2000000) only [go_sem, reduceIte, Nat.reduceEqDiff, lk13, lk14, lk32, lk22, lk23, lk39, lk70, lk48]
  · have e : nearB a b m = true := nearB_ok (fun j z hj hz => hall j z (by simp at h; omega) hz)
    simp (maxSteps := 2000000) only [go_sem, reduceIte, Nat.reduceEqDiff, Nat.reduceAdd, lk13, lk14, lk32, lk22, lk23, lk39, lk70, lk48, e]

set_option maxHeartbeats 2000000 in
theorem near48 (a b : List Int) (m : Int) (hl : a.length ≤ b.length) (hb : ∀ y ∈ b, -1000000 ≤ y ∧ y ≤ 1000000) (hm0 : 0 ≤ m) (hm : m ≤ 1000000) : Pure Try.prog 48 [ints a, ints b, I m] (B (nearB a b m)) := by
  refine pure_wkE (bad := []) (kp := kp48) (X := tx) (nt := 38) (rs := [.tmp 6]) Try.func48 rfl rfl rfl rfl mo (by kernel_rfl) rfl rfl (fun hf => ?_)
  have ha := fit_ints (hf (ints a) (by simp))
  simp (maxSteps := 2000000) only [go_sem, reduceIte, Nat.reduceEqDiff, Nat.reduceAdd, lk13, lk14, lk32, lk22, lk23, lk39, lk70, lk48, ints]
  refine goE_loop (bad := []) (kp := kp48) (fun i : Nat => { slots := [(0, ints a), (1, ints b), (2, I m), (7, I i)], heap := [], marks := [] }) (fun i => i ≤ a.length ∧ ∀ j z, j < i → (a.zip b)[j]? = some z → farB m z = false) (fun i => a.length - i) 0 mo (by kernel_rfl) ?_ ⟨Nat.zero_le _, by intro j r h; omega⟩ ?_
  · refine ent_weaken [] rfl rfl (Nat.zero_le _) rfl rfl ?_
    simp (maxSteps := 2000000) only [go_sem, reduceIte, Nat.reduceEqDiff, lk13, lk14, lk32, lk22, lk23, lk39, lk70, lk48, ints]
    all_goals first | exact .refl _ | exact ⟨.refl _, .refl _⟩ | exact ⟨.refl _, .refl _, .refl _⟩ | exact ⟨.refl _, _, rfl⟩ | exact ⟨_, rfl⟩ | exact ⟨.refl _, [], by simp⟩ | exact ⟨[], by simp⟩
  rintro i ⟨hi, hall⟩
  simp (maxSteps := 2000000) only [go_sem, reduceIte, Nat.reduceEqDiff, Nat.reduceAdd, lk13, lk14, lk32, lk22, lk23, lk39, lk70, lk48, ints]
  refine goE_if (fun h => ?_) (fun h => ?_)
  · have hlt : i < a.length := by simpa using h
    obtain ⟨x, hx⟩ := get_of_lt hlt
    obtain ⟨y, hy⟩ := get_of_lt (show i < b.length by omega)
    obtain ⟨y0, y1⟩ := hb y (List.mem_of_getElem? hy)
    have w1 : wr .i64 (y - m) = y - m := by rw [wr_i64] <;> omega
    have w2 : wr .i64 (y + m) = y + m := by rw [wr_i64] <;> omega
    by_cases h1 : x < y - m
    · have e : nearB a b m = false := nearB_bad hx hy (by simp [farB, h1])
      simp (maxSteps := 2000000) only [go_sem, reduceIte, Nat.reduceEqDiff, Nat.reduceAdd, lk13, lk14, lk32, lk22, lk23, lk39, lk70, lk48, hx, hy, iD, w1, w2, h1, bnd hlt, bnd (show i < b.length by omega), e]
    by_cases h2 : y + m < x
    · have e : nearB a b m = false := nearB_bad hx hy (by simp [farB, h2])
      simp (maxSteps := 2000000) only [go_sem, reduceIte, Nat.reduceEqDiff, Nat.reduceAdd, lk13, lk14, lk32, lk22, lk23, lk39, lk70, lk48, hx, hy, iD, w1, w2, h1, h2, bnd hlt, bnd (show i < b.length by omega), e]
    simp (maxSteps := 2000000) only [go_sem, reduceIte, Nat.reduceEqDiff, Nat.reduceAdd, lk13, lk14, lk32, lk22, lk23, lk39, lk70, lk48, hx, hy, iD, w1, w2, h1, h2, bnd hlt, bnd (show i < b.length by omega), wr_succ hlt ha]
    refine ⟨i + 1, ⟨hlt, upto_succ hall (zip_get hx hy) (by simp [farB, h1, h2])⟩, by omega, ?_⟩
    refine ent_weaken [] rfl rfl (Nat.zero_le _) rfl rfl ?_
    simp (maxSteps := 2000000) only [go_sem, reduceIte, Nat.reduceEqDiff, lk13, lk14, lk32, lk22, lk23, lk39, lk70, lk48]
  · have e : nearB a b m = true := nearB_ok (fun j z hj hz => hall j z (by simp at h; omega) hz)
    simp (maxSteps := 2000000) only [go_sem, reduceIte, Nat.reduceEqDiff, Nat.reduceAdd, lk13, lk14, lk32, lk22, lk23, lk39, lk70, lk48, e]
end Go.Proofs.Ytjkpfojkkfopmaa
