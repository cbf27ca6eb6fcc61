/- Metamers: the data, and the small functions of chapter 4. -/
import Derived.Test.YtfgdbeijjbijnaaGreatDoorJG16
import Derived.Test.YtfgdbeijjbijnaaGreatDoorJG12
set_option linter.unusedSimpArgs false
set_option linter.unusedVariables false
set_option linter.unusedSimpArgs false
set_option linter.unusedVariables false
set_option maxRecDepth 100000
namespace Go.Proofs.YtfgdbeijjbijnaaGreatDoor.Me
open Go Go.Abs Go.Proofs
attribute [go_sem] aE3 aGI aGJ aEn
theorem mo : tx.P.follows .mixedOrders = true := by kernel_rfl
def iD (n : Int) : List D := [.int .i64 n]
def ints (l : List Int) : V := .c (.d (.sl (l.map iD)))
theorem KP {l : List Int} (h : FL (ints l)) : l.length ≤ 140737488355328 := by have h : Fit _ := h; have := h.len; simpa [lim] using this
theorem Az {i n : Nat} (h : i < n) (hn : n ≤ 140737488355328) : wr .i64 ((i : Int) + 1) = ((i + 1 : Nat) : Int) := by rw [Cl] <;> omega
theorem AD {α : Type} {l : List α} {i : Nat} (h : i < l.length) : ∃ x, l[i]? = some x := ⟨l[i], by simp [h]⟩
theorem Fe {α : Type} {l : List α} {i : Nat} {x : α} (h : l[i]? = some x) : l.take (i + 1) = l.take i ++ [x] := by
 rw [List.take_add_one, h]; rfl
theorem GU {α : Type} {l : List α} {p : α → Bool} {i : Nat} {x : α} (h : l[i]? = some x) (hp : p x = true) : l.any p = true := List.any_eq_true.2 ⟨x, List.mem_of_getElem? h, hp⟩
theorem KQ {α : Type} {l : List α} {p : α → Bool} (h : ∀ (j : Nat) x, j < l.length → l[j]? = some x → p x = false) : l.any p = false := by
 rw [List.any_eq_false]
 intro x hx
 obtain ⟨j, hj⟩ := List.getElem?_of_mem hx
 rw [h j x (List.getElem?_eq_some_iff.1 hj).1 hj]; simp
theorem Bw {α : Type} {l : List α} {P : α → Prop} {i : Nat} {x : α} (h : ∀ (j : Nat) y, j < i → l[j]? = some y → P y) (hx : l[i]? = some x) (hp : P x) : ∀ (j : Nat) y, j < i + 1 → l[j]? = some y → P y := fun j y hj hy => by
 rcases Nat.lt_succ_iff_lt_or_eq.1 hj with h1 | h1
 ·exact h j y h1 hy
 ·subst h1; rw [hx] at hy; cases hy; exact hp
def Bh {α : Type} (p : α → Bool) : List α → Int
 | [] => -1
 | x :: l => if p x then 0 else if Bh p l < 0 then -1 else Bh p l + 1
theorem De {α : Type} {p : α → Bool} : ∀ {l : List α} {i : Nat} {x : α}, (∀ j y, j < i → l[j]? = some y → p y = false) → l[i]? = some x → p x = true → Bh p l = i
 | y :: l, 0, x, _, hx, hp => by simp at hx; subst hx; simp [Bh, hp]
 | y :: l, i + 1, x, h, hx, hp => by
  have h0 := h 0 y (by omega) rfl
  have ih := De (l := l) (i := i) (fun j z hj hz => h (j + 1) z (by omega) (by simpa using hz)) (by simpa using hx) hp
  simp only [Bh, h0, ih]
  simp; omega
theorem Co {α : Type} {p : α → Bool} : ∀ {l : List α}, (∀ (j : Nat) y, j < l.length → l[j]? = some y → p y = false) → Bh p l = -1
 | [], _ => rfl
 | y :: l, h => by
  have h0 := h 0 y (by simp) rfl
  have ih := Co (l := l) (fun j z hj hz => h (j + 1) z (by simpa using hj) (by simpa using hz))
  simp [Bh, h0, ih]
theorem Df {α : Type} {p : α → Bool} : ∀ (l : List α), 0 ≤ Bh p l ↔ l.any p = true
 | [] => by simp [Bh]
 | y :: l => by
  have ih := Df (p := p) l
  by_cases hy : p y = true
  ·simp [Bh, hy]
  ·simp only [Bh, hy, List.any_cons, Bool.false_or, if_false, Bool.false_eq_true, ← ih, eq_self]
   split <;> omega
theorem Dt {α : Type} {p : α → Bool} (l : List α) : decide (0 ≤ Bh p l) = l.any p := by
 rw [Bool.eq_iff_iff, decide_eq_true_eq, Df]
structure Rg where
 lo : Int
 hi : Int
def rgD (r : Rg) : List D := [.int .i64 r.lo, .int .i64 r.hi]
def rgC (r : Rg) : List C := [.d (.int .i64 r.lo), .d (.int .i64 r.hi)]
def rgV (r : Rg) : V := .agg (rgC r)
def rowR (l : List Rg) : List D := [.sl (l.map rgD)]
def Ff (l : List Int) : List D := [.sl (l.map iD)]
def rgs (l : List Rg) : V := .c (.d (.sl (l.map rgD)))
def D2 (l : List (List Rg)) : V := .c (.d (.sl (l.map rowR)))
def Dm (l : List (List Int)) : V := .c (.d (.sl (l.map Ff)))
structure Cs where
 eye : List (List Rg)
 lamp : List Rg
def csC (c : Cs) : List C := [.d (.sl (c.eye.map rowR)), .d (.sl (c.lamp.map rgD))]
def csV (c : Cs) : V := .agg (csC c)
structure Tr where
 eye : List (List Int)
 lamp : List Int
def trC (x : Tr) : List C := [.d (.sl (x.eye.map Ff)), .d (.sl (x.lamp.map iD))]
def trV (x : Tr) : V := .agg (trC x)
structure Pal where
 pig : List (List Int)
 err : Int
def palC (p : Pal) : List C := [.d (.sl (p.pig.map Ff)), .d (.int .i64 p.err)]
def It (p : Pal) : V := .agg (palC p)
theorem Of {l : List (List D)} (h : FL (.c (.d (.sl l)))) : l.length ≤ 140737488355328 := by have h : Fit _ := h; have := h.len; simpa [lim] using this
theorem aEo {l : List Rg} (h : FL (rgs l)) : l.length ≤ 140737488355328 := by simpa using Of h
theorem aBZ {l : List (List Rg)} (h : FL (D2 l)) : l.length ≤ 140737488355328 := by simpa using Of h
theorem MR {l : List (List Int)} (h : FL (Dm l)) : l.length ≤ 140737488355328 := by simpa using Of h
theorem aB0 {c : Cs} (h : FL (csV c)) : c.eye.length ≤ 140737488355328 ∧ c.lamp.length ≤ 140737488355328 := by
 have h1 : Fit _ := h (.d (.sl (c.eye.map rowR))) (by simp [csC])
 have h2 : Fit _ := h (.d (.sl (c.lamp.map rgD))) (by simp [csC])
 have := h1.len; have := h2.len; simp [lim] at *; omega
theorem aB1 {c : Tr} (h : FL (trV c)) : c.eye.length ≤ 140737488355328 ∧ c.lamp.length ≤ 140737488355328 := by
 have h1 : Fit _ := h (.d (.sl (c.eye.map Ff))) (by simp [trC])
 have h2 : Fit _ := h (.d (.sl (c.lamp.map iD))) (by simp [trC])
 have := h1.len; have := h2.len; simp [lim] at *; omega
theorem RF (n : Nat) (l : List D) : C.lowL n (l.map .d) = true := by induction l with | nil => rfl | cons a l ih => simp [C.lowL, C.low, ih]
theorem Iu (l : List D) : DY (l.map C.d) = some l := by
 induction l with
 | nil => rfl
 | cons a l ih => simp [DY, toD, ih]
set_option maxHeartbeats 1000000 in
theorem aOI (l : List Int) (g : Nat) (caps : List C) (p : Int → Bool) (H : List AB) (hH : H.all (AB.low H.length) = true) (hcaps : C.lowL H.length caps = true)
  (hp : ∀ x ∈ l, Ad Tryz.prog g (I x :: caps.map .c) H (one (B (p x)) H)) : Ad Tryz.prog 234 [ints l, .c (.fn (.func g) caps)] H (one (I (Bh p l)) H) := by
 refine BB (X := tx) (nt := 19) (rs := [.tmp 4]) Tryz.func234 rfl rfl rfl rfl mo (by kernel_rfl) rfl hH (fun hf => ?_)
 have hfit : l.length ≤ 140737488355328 := KP (hf (ints l) (by simp))
 simp only [go_sem, reduceIte, Nat.reduceEqDiff, Int.reduceNeg, ints, iD]
 refine go_loop (fun i : Nat => { slots := [(0, ints l), (1, .c (.fn (.func g) caps)), (7, I l.length), (8, I i)], heap := H, marks := [] }) (fun i => i ≤ l.length ∧ ∀ j x, j < i → l[j]? = some x → p x = false) (fun i => l.length - i) 0 mo (by kernel_rfl) ?_ ⟨Nat.zero_le _, by intro j r h; omega⟩ ?_
 ·refine ent_weaken [] (by simp) rfl (Nat.le_refl _) hH rfl ?_
  simp only [go_sem, reduceIte, Nat.reduceEqDiff, hcaps, ints, iD]
  exact .refl _
 rintro i ⟨hi, hall⟩
 simp only [go_sem, reduceIte, Nat.reduceEqDiff, Int.reduceNeg, ints, iD]
 refine go_if (fun h => ?_) (fun h => ?_)
 ·have hlt : i < l.length := by simpa using h
  obtain ⟨x, hx⟩ := AD hlt
  have hpx := hp x (List.mem_of_getElem? hx)
  simp only [I] at hpx
  simp only [go_sem, reduceIte, Nat.reduceEqDiff, Int.reduceNeg, hx, ints, iD]
  refine ⟨by simp [hlt], ?_⟩
  refine Ar (hpx) rfl rfl (by first | exact wk_refls _ | (repeat constructor)) ?_
  simp only [go_sem, reduceIte, Nat.reduceEqDiff, Int.reduceNeg]
  refine go_if (fun hb => ?_) (fun hb => ?_)
  ·simp only [go_sem, reduceIte, Nat.reduceEqDiff, Int.reduceNeg]
   have e : Bh p l = i := De hall hx hb
   rw [e]
   exact ⟨.refl _, [], by simp⟩
  ·simp only [go_sem, reduceIte, Nat.reduceEqDiff, Int.reduceNeg, Az hlt hfit]
   refine ⟨i + 1, ⟨hlt, Bw hall hx hb⟩, by omega, ?_⟩
   refine ent_weaken [] (by simp) rfl (Nat.le_refl _) hH rfl ?_
   simp only [go_sem, reduceIte, Nat.reduceEqDiff, hcaps]
 ·have hi' : i = l.length := by simp at h; omega
  have e : Bh p l = -1 := Co (fun j x hj hx => hall j x (by omega) hx)
  simp only [go_sem, reduceIte, Nat.reduceEqDiff, Int.reduceNeg]
  rw [e]
  exact ⟨.refl _, [], by simp⟩
set_option maxHeartbeats 1000000 in
theorem aOJ (l : List Int) (g : Nat) (caps : List C) (p : Int → Bool) (H : List AB) (hH : H.all (AB.low H.length) = true) (hcaps : C.lowL H.length caps = true)
  (hp : ∀ x ∈ l, Ad Tryz.prog g (I x :: caps.map .c) H (one (B (p x)) H)) : Ad Tryz.prog 152 [ints l, .c (.fn (.func g) caps)] H (one (B (l.any p)) H) := by
 refine BB (X := tx) (nt := 9) (rs := [.tmp 4]) Tryz.func152 rfl rfl rfl rfl mo (by kernel_rfl) rfl hH (fun hf => ?_)
 simp only [go_sem, reduceIte, Nat.reduceEqDiff]
 refine Ar (aOI l g caps p H hH hcaps hp) rfl rfl (by first | exact wk_refls _ | (repeat constructor)) ?_
 simp only [go_sem, reduceIte, Nat.reduceEqDiff]
 rw [Dt]
 exact ⟨.refl _, [], by simp⟩
set_option maxHeartbeats 1000000 in
theorem aOK (l : List Rg) (g : Nat) (caps : List C) (p : Rg → Bool) (H : List AB) (hH : H.all (AB.low H.length) = true) (hcaps : C.lowL H.length caps = true)
  (hp : ∀ x ∈ l, Ad Tryz.prog g (rgV x :: caps.map .c) H (one (B (p x)) H)) : Ad Tryz.prog 309 [rgs l, .c (.fn (.func g) caps)] H (one (I (Bh p l)) H) := by
 refine BB (X := tx) (nt := 19) (rs := [.tmp 4]) Tryz.func309 rfl rfl rfl rfl mo (by kernel_rfl) rfl hH (fun hf => ?_)
 have hfit : l.length ≤ 140737488355328 := aEo (hf (rgs l) (by simp))
 simp only [go_sem, reduceIte, Nat.reduceEqDiff, Int.reduceNeg, rgs, rgD]
 refine go_loop (fun i : Nat => { slots := [(0, rgs l), (1, .c (.fn (.func g) caps)), (7, I l.length), (8, I i)], heap := H, marks := [] }) (fun i => i ≤ l.length ∧ ∀ j x, j < i → l[j]? = some x → p x = false) (fun i => l.length - i) 0 mo (by kernel_rfl) ?_ ⟨Nat.zero_le _, by intro j r h; omega⟩ ?_
 ·refine ent_weaken [] (by simp) rfl (Nat.le_refl _) hH rfl ?_
  simp only [go_sem, reduceIte, Nat.reduceEqDiff, hcaps, rgs, rgD]
  exact .refl _
 rintro i ⟨hi, hall⟩
 simp only [go_sem, reduceIte, Nat.reduceEqDiff, Int.reduceNeg, rgs, rgD]
 refine go_if (fun h => ?_) (fun h => ?_)
 ·have hlt : i < l.length := by simpa using h
  obtain ⟨x, hx⟩ := AD hlt
  have hpx := hp x (List.mem_of_getElem? hx)
  simp only [rgV, rgC] at hpx
  simp only [go_sem, reduceIte, Nat.reduceEqDiff, Nat.reduceAdd, Int.reduceNeg, hx, rgs, rgD]
  refine ⟨by simp [hlt], ?_⟩
  refine Ar (hpx) rfl rfl (by first | exact wk_refls _ | (repeat constructor)) ?_
  simp only [go_sem, reduceIte, Nat.reduceEqDiff, Int.reduceNeg]
  refine go_if (fun hb => ?_) (fun hb => ?_)
  ·simp only [go_sem, reduceIte, Nat.reduceEqDiff, Int.reduceNeg]
   have e : Bh p l = i := De hall hx hb
   rw [e]
   exact ⟨.refl _, [], by simp⟩
  ·simp only [go_sem, reduceIte, Nat.reduceEqDiff, Int.reduceNeg, Az hlt hfit]
   refine ⟨i + 1, ⟨hlt, Bw hall hx hb⟩, by omega, ?_⟩
   refine ent_weaken [] (by simp) rfl (Nat.le_refl _) hH rfl ?_
   simp only [go_sem, reduceIte, Nat.reduceEqDiff, hcaps]
 ·have hi' : i = l.length := by simp at h; omega
  have e : Bh p l = -1 := Co (fun j x hj hx => hall j x (by omega) hx)
  simp only [go_sem, reduceIte, Nat.reduceEqDiff, Int.reduceNeg]
  rw [e]
  exact ⟨.refl _, [], by simp⟩
set_option maxHeartbeats 1000000 in
theorem aOL (l : List Rg) (g : Nat) (caps : List C) (p : Rg → Bool) (H : List AB) (hH : H.all (AB.low H.length) = true) (hcaps : C.lowL H.length caps = true)
  (hp : ∀ x ∈ l, Ad Tryz.prog g (rgV x :: caps.map .c) H (one (B (p x)) H)) : Ad Tryz.prog 232 [rgs l, .c (.fn (.func g) caps)] H (one (B (l.any p)) H) := by
 refine BB (X := tx) (nt := 9) (rs := [.tmp 4]) Tryz.func232 rfl rfl rfl rfl mo (by kernel_rfl) rfl hH (fun hf => ?_)
 simp only [go_sem, reduceIte, Nat.reduceEqDiff]
 refine Ar (aOK l g caps p H hH hcaps hp) rfl rfl (by first | exact wk_refls _ | (repeat constructor)) ?_
 simp only [go_sem, reduceIte, Nat.reduceEqDiff]
 rw [Dt]
 exact ⟨.refl _, [], by simp⟩
set_option maxHeartbeats 1000000 in
theorem aOM (l : List (List Rg)) (g : Nat) (caps : List C) (p : (List Rg) → Bool) (H : List AB) (hH : H.all (AB.low H.length) = true) (hcaps : C.lowL H.length caps = true)
  (hp : ∀ x ∈ l, Ad Tryz.prog g (rgs x :: caps.map .c) H (one (B (p x)) H)) : Ad Tryz.prog 299 [D2 l, .c (.fn (.func g) caps)] H (one (I (Bh p l)) H) := by
 refine BB (X := tx) (nt := 19) (rs := [.tmp 4]) Tryz.func299 rfl rfl rfl rfl mo (by kernel_rfl) rfl hH (fun hf => ?_)
 have hfit : l.length ≤ 140737488355328 := aBZ (hf (D2 l) (by simp))
 simp only [go_sem, reduceIte, Nat.reduceEqDiff, Int.reduceNeg, D2, rowR]
 refine go_loop (fun i : Nat => { slots := [(0, D2 l), (1, .c (.fn (.func g) caps)), (7, I l.length), (8, I i)], heap := H, marks := [] }) (fun i => i ≤ l.length ∧ ∀ j x, j < i → l[j]? = some x → p x = false) (fun i => l.length - i) 0 mo (by kernel_rfl) ?_ ⟨Nat.zero_le _, by intro j r h; omega⟩ ?_
 ·refine ent_weaken [] (by simp) rfl (Nat.le_refl _) hH rfl ?_
  simp only [go_sem, reduceIte, Nat.reduceEqDiff, hcaps, D2, rowR]
  exact .refl _
 rintro i ⟨hi, hall⟩
 simp only [go_sem, reduceIte, Nat.reduceEqDiff, Int.reduceNeg, D2, rowR]
 refine go_if (fun h => ?_) (fun h => ?_)
 ·have hlt : i < l.length := by simpa using h
  obtain ⟨x, hx⟩ := AD hlt
  have hpx := hp x (List.mem_of_getElem? hx)
  simp only [rgs] at hpx
  simp only [go_sem, reduceIte, Nat.reduceEqDiff, Int.reduceNeg, hx, D2, rowR]
  refine ⟨by simp [hlt], ?_⟩
  refine Ar (hpx) rfl rfl (by first | exact wk_refls _ | (repeat constructor)) ?_
  simp only [go_sem, reduceIte, Nat.reduceEqDiff, Int.reduceNeg]
  refine go_if (fun hb => ?_) (fun hb => ?_)
  ·simp only [go_sem, reduceIte, Nat.reduceEqDiff, Int.reduceNeg]
   have e : Bh p l = i := De hall hx hb
   rw [e]
   exact ⟨.refl _, [], by simp⟩
  ·simp only [go_sem, reduceIte, Nat.reduceEqDiff, Int.reduceNeg, Az hlt hfit]
   refine ⟨i + 1, ⟨hlt, Bw hall hx hb⟩, by omega, ?_⟩
   refine ent_weaken [] (by simp) rfl (Nat.le_refl _) hH rfl ?_
   simp only [go_sem, reduceIte, Nat.reduceEqDiff, hcaps]
 ·have hi' : i = l.length := by simp at h; omega
  have e : Bh p l = -1 := Co (fun j x hj hx => hall j x (by omega) hx)
  simp only [go_sem, reduceIte, Nat.reduceEqDiff, Int.reduceNeg]
  rw [e]
  exact ⟨.refl _, [], by simp⟩
set_option maxHeartbeats 1000000 in
theorem aE4 (l : List (List Rg)) (g : Nat) (caps : List C) (p : (List Rg) → Bool) (H : List AB) (hH : H.all (AB.low H.length) = true) (hcaps : C.lowL H.length caps = true)
  (hp : ∀ x ∈ l, Ad Tryz.prog g (rgs x :: caps.map .c) H (one (B (p x)) H)) : Ad Tryz.prog 209 [D2 l, .c (.fn (.func g) caps)] H (one (B (l.any p)) H) := by
 refine BB (X := tx) (nt := 9) (rs := [.tmp 4]) Tryz.func209 rfl rfl rfl rfl mo (by kernel_rfl) rfl hH (fun hf => ?_)
 simp only [go_sem, reduceIte, Nat.reduceEqDiff]
 refine Ar (aOM l g caps p H hH hcaps hp) rfl rfl (by first | exact wk_refls _ | (repeat constructor)) ?_
 simp only [go_sem, reduceIte, Nat.reduceEqDiff]
 rw [Dt]
 exact ⟨.refl _, [], by simp⟩
set_option maxHeartbeats 1000000 in
theorem aON (l : List (List Int)) (g : Nat) (caps : List C) (p : (List Int) → Bool) (H : List AB) (hH : H.all (AB.low H.length) = true) (hcaps : C.lowL H.length caps = true)
  (hp : ∀ x ∈ l, Ad Tryz.prog g (ints x :: caps.map .c) H (one (B (p x)) H)) : Ad Tryz.prog 212 [Dm l, .c (.fn (.func g) caps)] H (one (I (Bh p l)) H) := by
 refine BB (X := tx) (nt := 19) (rs := [.tmp 4]) Tryz.func212 rfl rfl rfl rfl mo (by kernel_rfl) rfl hH (fun hf => ?_)
 have hfit : l.length ≤ 140737488355328 := MR (hf (Dm l) (by simp))
 simp only [go_sem, reduceIte, Nat.reduceEqDiff, Int.reduceNeg, Dm, Ff]
 refine go_loop (fun i : Nat => { slots := [(0, Dm l), (1, .c (.fn (.func g) caps)), (7, I l.length), (8, I i)], heap := H, marks := [] }) (fun i => i ≤ l.length ∧ ∀ j x, j < i → l[j]? = some x → p x = false) (fun i => l.length - i) 0 mo (by kernel_rfl) ?_ ⟨Nat.zero_le _, by intro j r h; omega⟩ ?_
 ·refine ent_weaken [] (by simp) rfl (Nat.le_refl _) hH rfl ?_
  simp only [go_sem, reduceIte, Nat.reduceEqDiff, hcaps, Dm, Ff]
  exact .refl _
 rintro i ⟨hi, hall⟩
 simp only [go_sem, reduceIte, Nat.reduceEqDiff, Int.reduceNeg, Dm, Ff]
 refine go_if (fun h => ?_) (fun h => ?_)
 ·have hlt : i < l.length := by simpa using h
  obtain ⟨x, hx⟩ := AD hlt
  have hpx := hp x (List.mem_of_getElem? hx)
  simp only [ints] at hpx
  simp only [go_sem, reduceIte, Nat.reduceEqDiff, Int.reduceNeg, hx, Dm, Ff]
  refine ⟨by simp [hlt], ?_⟩
  refine Ar (hpx) rfl rfl (by first | exact wk_refls _ | (repeat constructor)) ?_
  simp only [go_sem, reduceIte, Nat.reduceEqDiff, Int.reduceNeg]
  refine go_if (fun hb => ?_) (fun hb => ?_)
  ·simp only [go_sem, reduceIte, Nat.reduceEqDiff, Int.reduceNeg]
   have e : Bh p l = i := De hall hx hb
   rw [e]
   exact ⟨.refl _, [], by simp⟩
  ·simp only [go_sem, reduceIte, Nat.reduceEqDiff, Int.reduceNeg, Az hlt hfit]
   refine ⟨i + 1, ⟨hlt, Bw hall hx hb⟩, by omega, ?_⟩
   refine ent_weaken [] (by simp) rfl (Nat.le_refl _) hH rfl ?_
   simp only [go_sem, reduceIte, Nat.reduceEqDiff, hcaps]
 ·have hi' : i = l.length := by simp at h; omega
  have e : Bh p l = -1 := Co (fun j x hj hx => hall j x (by omega) hx)
  simp only [go_sem, reduceIte, Nat.reduceEqDiff, Int.reduceNeg]
  rw [e]
  exact ⟨.refl _, [], by simp⟩
set_option maxHeartbeats 1000000 in
theorem aOO (l : List (List Int)) (g : Nat) (caps : List C) (p : (List Int) → Bool) (H : List AB) (hH : H.all (AB.low H.length) = true) (hcaps : C.lowL H.length caps = true)
  (hp : ∀ x ∈ l, Ad Tryz.prog g (ints x :: caps.map .c) H (one (B (p x)) H)) : Ad Tryz.prog 123 [Dm l, .c (.fn (.func g) caps)] H (one (B (l.any p)) H) := by
 refine BB (X := tx) (nt := 9) (rs := [.tmp 4]) Tryz.func123 rfl rfl rfl rfl mo (by kernel_rfl) rfl hH (fun hf => ?_)
 simp only [go_sem, reduceIte, Nat.reduceEqDiff]
 refine Ar (aON l g caps p H hH hcaps hp) rfl rfl (by first | exact wk_refls _ | (repeat constructor)) ?_
 simp only [go_sem, reduceIte, Nat.reduceEqDiff]
 rw [Dt]
 exact ⟨.refl _, [], by simp⟩
def Hw (lo hi : Int) : List AB := [.cells [.d (.int .i64 lo)], .cells [.d (.int .i64 hi)]]
theorem aOP (lo hi x : Int) : Ad Tryz.prog 213 [I x, .c (.ptr 0 0), .c (.ptr 1 0)] (Hw lo hi) (one (B (decide (x < lo) || decide (hi < x))) (Hw lo hi)) := by
 refine BB (X := tx) (nt := 13) (rs := [.tmp 4]) Tryz.func213 rfl rfl rfl rfl mo (by kernel_rfl) rfl rfl (fun hf => ?_)
 by_cases h : x < lo
 ·simp only [go_sem, reduceIte, Nat.reduceEqDiff, Nat.reduceAdd, Hw, h]
  all_goals first | exact .refl _ | exact ⟨.refl _, .refl _⟩ | exact ⟨.refl _, .refl _, .refl _⟩ | exact ⟨.refl _, _, rfl⟩ | exact ⟨_, rfl⟩ | exact ⟨.refl _, [], by simp⟩ | exact ⟨[], by simp⟩
 ·simp only [go_sem, reduceIte, Nat.reduceEqDiff, Nat.reduceAdd, Hw, h]
  all_goals first | exact .refl _ | exact ⟨.refl _, .refl _⟩ | exact ⟨.refl _, .refl _, .refl _⟩ | exact ⟨.refl _, _, rfl⟩ | exact ⟨_, rfl⟩ | exact ⟨.refl _, [], by simp⟩ | exact ⟨[], by simp⟩
def inR (lo hi : Int) (l : List Int) : Bool := !l.any (fun n => decide (n < lo) || decide (hi < n))
theorem Tj (lo hi : Int) (l : List Int) : inR lo hi l = true ↔ ∀ x ∈ l, lo ≤ x ∧ x ≤ hi := by
 simp [inR]
theorem inR1 (lo hi x : Int) : inR lo hi [x] = decide (lo ≤ x ∧ x ≤ hi) := by
 rw [Bool.eq_iff_iff]; simp [inR]
set_option maxHeartbeats 1000000 in
theorem HH (lo hi : Int) (l : List Int) : AF Tryz.prog 125 [I lo, I hi, ints l] (B (inR lo hi l)) := by
 refine JO (X := tx) (nt := 11) (rs := [.tmp 6]) Tryz.func125 rfl rfl rfl rfl mo (by kernel_rfl) rfl rfl (fun hf => ?_)
 simp only [go_sem, reduceIte, Nat.reduceEqDiff, Nat.reduceAdd, ints]
 refine Ar (aOJ l 213 [.ptr 0 0, .ptr 1 0] (fun n => decide (n < lo) || decide (hi < n)) (Hw lo hi) rfl rfl (fun x _ => aOP lo hi x)) rfl rfl (by first | exact wk_refls _ | (repeat constructor)) ?_
 simp only [go_sem, reduceIte, Nat.reduceEqDiff, inR]
def Cg (top : Int) (r : Rg) : Bool := decide (0 ≤ r.lo ∧ r.lo ≤ r.hi ∧ r.hi ≤ top)
set_option maxHeartbeats 1000000 in
theorem aOQ (top : Int) (r : Rg) : Ad Tryz.prog 300 [rgV r, .c (.ptr 0 0)] [.cells [.d (.int .i64 top)]] (one (B (!Cg top r)) [.cells [.d (.int .i64 top)]]) := by
 refine BB (X := tx) (nt := 19) (rs := [.tmp 3]) Tryz.func300 rfl rfl rfl rfl mo (by kernel_rfl) rfl rfl (fun hf => ?_)
 by_cases h : r.hi < r.lo
 ·have e : Cg top r = false := by simp [Cg]; omega
  simp only [go_sem, reduceIte, Nat.reduceEqDiff, Nat.reduceAdd, Nat.reduceLeDiff, Nat.reduceBEq, rgV, rgC, h, e]
  all_goals first | exact .refl _ | exact ⟨.refl _, .refl _⟩ | exact ⟨.refl _, .refl _, .refl _⟩ | exact ⟨.refl _, _, rfl⟩ | exact ⟨_, rfl⟩ | exact ⟨.refl _, [], by simp⟩ | exact ⟨[], by simp⟩
 ·simp only [go_sem, reduceIte, Nat.reduceEqDiff, Nat.reduceAdd, Nat.reduceLeDiff, Nat.reduceBEq, Nat.reduceMul, rgV, rgC, h]
  refine Ac (HH 0 top [r.lo, r.hi]) rfl rfl (by first | exact wk_refls _ | (repeat constructor)) ?_
  have e : inR 0 top [r.lo, r.hi] = Cg top r := by rw [Bool.eq_iff_iff]; simp [inR, Cg]; omega
  rw [e]
  simp only [go_sem, reduceIte, Nat.reduceEqDiff]
  all_goals first | exact .refl _ | exact ⟨.refl _, .refl _⟩ | exact ⟨.refl _, .refl _, .refl _⟩ | exact ⟨.refl _, _, rfl⟩ | exact ⟨_, rfl⟩ | exact ⟨.refl _, [], by simp⟩ | exact ⟨[], by simp⟩
set_option maxHeartbeats 1000000 in
theorem Tk (top : Int) (l : List Rg) : AF Tryz.prog 211 [I top, rgs l] (B (l.all (Cg top))) := by
 refine JO (X := tx) (nt := 9) (rs := [.tmp 4]) Tryz.func211 rfl rfl rfl rfl mo (by kernel_rfl) rfl rfl (fun hf => ?_)
 simp only [go_sem, reduceIte, Nat.reduceEqDiff, rgs]
 refine Ar (aOL l 300 [.ptr 0 0] (fun r => !Cg top r) [.cells [.d (.int .i64 top)]] rfl rfl (fun x _ => aOQ top x)) rfl rfl (by first | exact wk_refls _ | (repeat constructor)) ?_
 simp only [go_sem, reduceIte, Nat.reduceEqDiff]
 rw [show l.any (fun r => !Cg top r) = !l.all (Cg top) by rw [List.not_all_eq_any_not], Bool.not_not]
 all_goals first | exact .refl _ | exact ⟨.refl _, .refl _⟩ | exact ⟨.refl _, .refl _, .refl _⟩ | exact ⟨.refl _, _, rfl⟩ | exact ⟨_, rfl⟩ | exact ⟨.refl _, [], by simp⟩ | exact ⟨[], by simp⟩
theorem Tl (top : Int) (r : Rg) : AF Tryz.prog 91 [rgV r, I top] (B (Cg top r)) := by
 refine JO (X := tx) (nt := 21) (rs := [.tmp 4]) Tryz.func91 rfl rfl rfl rfl mo (by kernel_rfl) rfl rfl (fun hf => ?_)
 by_cases h1 : 0 ≤ r.lo
 ·by_cases h2 : r.lo ≤ r.hi
  ·have e : Cg top r = decide (r.hi ≤ top) := by simp [Cg, h1, h2]
   simp only [go_sem, reduceIte, Nat.reduceEqDiff, Nat.reduceAdd, Nat.reduceLeDiff, Nat.reduceBEq, rgV, rgC, h1, h2, e]
  ·have e : Cg top r = false := by simp [Cg]; omega
   simp only [go_sem, reduceIte, Nat.reduceEqDiff, Nat.reduceAdd, Nat.reduceLeDiff, Nat.reduceBEq, rgV, rgC, h1, h2, e]
 ·have e : Cg top r = false := by simp [Cg]; omega
  simp only [go_sem, reduceIte, Nat.reduceEqDiff, Nat.reduceAdd, Nat.reduceLeDiff, Nat.reduceBEq, rgV, rgC, h1, e]
theorem aOR (n : Int) (l : List Rg) (H : List AB) (id : Nat) (hid : H[id]? = some (.cells [.d (.int .i64 n)])) (hH : H.all (AB.low H.length) = true) : Ad Tryz.prog 210 [rgs l, .c (.ptr id 0)] H (one (B (!decide ((l.length : Int) = n))) H) := by
 refine BB (X := tx) (nt := 8) (rs := [.tmp 3]) Tryz.func210 rfl rfl rfl rfl mo (by kernel_rfl) ?_ hH (fun hf => ?_)
 ·simp [V.low, C.low, rgs, V.lowL, (List.getElem?_eq_some_iff.1 hid).1]
 simp only [go_sem, reduceIte, Nat.reduceEqDiff, rgs, hid]
 all_goals first | exact .refl _ | exact ⟨.refl _, .refl _⟩ | exact ⟨.refl _, .refl _, .refl _⟩ | exact ⟨.refl _, _, rfl⟩ | exact ⟨_, rfl⟩ | exact ⟨.refl _, [], by simp⟩ | exact ⟨[], by simp⟩
theorem aOS (n : Int) (l : List Int) (H : List AB) (id : Nat) (hid : H[id]? = some (.cells [.d (.int .i64 n)])) (hH : H.all (AB.low H.length) = true) : Ad Tryz.prog 124 [ints l, .c (.ptr id 0)] H (one (B (!decide ((l.length : Int) = n))) H) := by
 refine BB (X := tx) (nt := 8) (rs := [.tmp 3]) Tryz.func124 rfl rfl rfl rfl mo (by kernel_rfl) ?_ hH (fun hf => ?_)
 ·simp [V.low, C.low, ints, V.lowL, (List.getElem?_eq_some_iff.1 hid).1]
 simp only [go_sem, reduceIte, Nat.reduceEqDiff, ints, hid]
 all_goals first | exact .refl _ | exact ⟨.refl _, .refl _⟩ | exact ⟨.refl _, .refl _, .refl _⟩ | exact ⟨.refl _, _, rfl⟩ | exact ⟨_, rfl⟩ | exact ⟨.refl _, [], by simp⟩ | exact ⟨[], by simp⟩
end Go.Proofs.YtfgdbeijjbijnaaGreatDoor.Me
set_option linter.unusedSimpArgs false
set_option linter.unusedVariables false
set_option maxRecDepth 100000
namespace Go.Proofs.YtfgdbeijjbijnaaGreatDoor.Me
open Go Go.Abs Go.Proofs
theorem bnd {i n : Nat} (h : i < n) : (decide ((0 : Int) ≤ (i : Int)) && decide ((i : Int) < (n : Int))) = true := by simp; omega
instance : DecidableEq Rg := fun a b => if h : a.lo = b.lo ∧ a.hi = b.hi then isTrue (by cases a; cases b; simp_all) else isFalse (fun e => h (by rw [e]; exact ⟨rfl, rfl⟩))
end Go.Proofs.YtfgdbeijjbijnaaGreatDoor.Me
set_option linter.unusedSimpArgs false
set_option linter.unusedVariables false
set_option maxRecDepth 100000
namespace Go.Proofs.YtfgdbeijjbijnaaGreatDoor.Me
open Go Go.Abs Go.Proofs
def DM : List (Nat × List Nat) := [(0, [1]), (1, [1, 3]), (2, [1, 3, 15]), (3, [2]), (4, [1, 25]), (5, [2]), (6, [1, 4]), (7, [4, 30, 31, 32]), (8, [4, 30, 31, 32, 33]), (9, [4, 6, 30, 31, 32]), (10, [4, 30, 31, 32]), (11, [4, 30, 31, 32]), (12, [43]), (13, [2]), (14, [2])]
theorem At : lookK DM 0 = some [1] ∧ lookK DM 1 = some [1, 3] ∧ lookK DM 2 = some [1, 3, 15] ∧ lookK DM 3 = some [2] ∧ lookK DM 4 = some [1, 25] ∧ lookK DM 5 = some [2] ∧ lookK DM 6 = some [1, 4] ∧ lookK DM 7 = some [4, 30, 31, 32] ∧ lookK DM 8 = some [4, 30, 31, 32, 33] ∧ lookK DM 9 = some [4, 6, 30, 31, 32] ∧ lookK DM 10 = some [4, 30, 31, 32] ∧ lookK DM 11 = some [4, 30, 31, 32] ∧ lookK DM 12 = some [43] ∧ lookK DM 13 = some [2] ∧ lookK DM 14 = some [2] := ⟨rfl, rfl, rfl, rfl, rfl, rfl, rfl, rfl, rfl, rfl, rfl, rfl, rfl, rfl, rfl⟩
def DN : List (Nat × List Nat) := [(0, [1]), (1, [1, 3]), (2, [1, 3, 15]), (3, [2]), (4, [1, 3, 19]), (5, [2]), (6, [1, 3, 4]), (7, [1, 3, 4, 21]), (8, [1, 3, 4]), (9, [1, 3, 4, 31]), (10, [2]), (11, [1, 3, 5]), (12, [1, 3, 5, 34]), (13, [1, 3, 5]), (14, [1, 3, 5, 43]), (15, [2]), (16, [1, 3, 5, 6]), (17, [1, 3, 5, 6, 45]), (18, [1, 3, 5, 6]), (19, [1, 3, 5, 6, 57]), (20, [2]), (21, [2])]
theorem AM : lookK DN 0 = some [1] ∧ lookK DN 1 = some [1, 3] ∧ lookK DN 2 = some [1, 3, 15] ∧ lookK DN 3 = some [2] ∧ lookK DN 4 = some [1, 3, 19] ∧ lookK DN 5 = some [2] ∧ lookK DN 6 = some [1, 3, 4] ∧ lookK DN 7 = some [1, 3, 4, 21] ∧ lookK DN 8 = some [1, 3, 4] ∧ lookK DN 9 = some [1, 3, 4, 31] ∧ lookK DN 10 = some [2] ∧ lookK DN 11 = some [1, 3, 5] ∧ lookK DN 12 = some [1, 3, 5, 34] ∧ lookK DN 13 = some [1, 3, 5] ∧ lookK DN 14 = some [1, 3, 5, 43] ∧ lookK DN 15 = some [2] ∧ lookK DN 16 = some [1, 3, 5, 6] ∧ lookK DN 17 = some [1, 3, 5, 6, 45] ∧ lookK DN 18 = some [1, 3, 5, 6] ∧ lookK DN 19 = some [1, 3, 5, 6, 57] ∧ lookK DN 20 = some [2] ∧ lookK DN 21 = some [2] := ⟨rfl, rfl, rfl, rfl, rfl, rfl, rfl, rfl, rfl, rfl, rfl, rfl, rfl, rfl, rfl, rfl, rfl, rfl, rfl, rfl, rfl, rfl⟩
def KR : List (Nat × List Nat) := [(0, [1, 2]), (1, [1, 11]), (2, [4]), (3, [1, 5]), (4, [1, 5, 15]), (5, [1, 5]), (6, [1, 5, 29]), (7, [4]), (8, [4])]
theorem AN : lookK KR 0 = some [1, 2] ∧ lookK KR 1 = some [1, 11] ∧ lookK KR 2 = some [4] ∧ lookK KR 3 = some [1, 5] ∧ lookK KR 4 = some [1, 5, 15] ∧ lookK KR 5 = some [1, 5] ∧ lookK KR 6 = some [1, 5, 29] ∧ lookK KR 7 = some [4] ∧ lookK KR 8 = some [4] := ⟨rfl, rfl, rfl, rfl, rfl, rfl, rfl, rfl, rfl⟩
def kp8 : List (Nat × List Nat) := [(0, [1, 2, 3]), (1, [1, 2, 3, 9]), (2, [6]), (3, [1, 2, 3, 15]), (4, [6]), (5, [6])]
theorem lk8 : lookK kp8 0 = some [1, 2, 3] ∧ lookK kp8 1 = some [1, 2, 3, 9] ∧ lookK kp8 2 = some [6] ∧ lookK kp8 3 = some [1, 2, 3, 15] ∧ lookK kp8 4 = some [6] ∧ lookK kp8 5 = some [6] := ⟨rfl, rfl, rfl, rfl, rfl, rfl⟩
def KS : List (Nat × List Nat) := [(0, [1, 2]), (1, [1, 5]), (2, [4]), (3, [13]), (4, [4]), (5, [4])]
theorem Au : lookK KS 0 = some [1, 2] ∧ lookK KS 1 = some [1, 5] ∧ lookK KS 2 = some [4] ∧ lookK KS 3 = some [13] ∧ lookK KS 4 = some [4] ∧ lookK KS 5 = some [4] := ⟨rfl, rfl, rfl, rfl, rfl, rfl⟩
def Gn : List (Nat × List Nat) := [(0, [1, 2, 4]), (1, [1, 2, 4, 6]), (2, [1, 4, 6, 7]), (3, [1, 4, 6, 7, 17]), (4, [4, 5]), (5, [1, 4, 6, 8]), (6, [4, 6, 8, 22, 23, 24]), (7, [4, 6, 8, 22, 23, 24, 25]), (8, [4, 6, 8, 10, 22, 23, 24]), (9, [4, 6, 8, 11, 22, 23, 24]), (10, [4, 6, 8, 11, 22, 23, 24, 32]), (11, [4, 5]), (12, [4, 6, 8, 22, 23, 24]), (13, [4, 5])]
theorem AO : lookK Gn 0 = some [1, 2, 4] ∧ lookK Gn 1 = some [1, 2, 4, 6] ∧ lookK Gn 2 = some [1, 4, 6, 7] ∧ lookK Gn 3 = some [1, 4, 6, 7, 17] ∧ lookK Gn 4 = some [4, 5] ∧ lookK Gn 5 = some [1, 4, 6, 8] ∧ lookK Gn 6 = some [4, 6, 8, 22, 23, 24] ∧ lookK Gn 7 = some [4, 6, 8, 22, 23, 24, 25] ∧ lookK Gn 8 = some [4, 6, 8, 10, 22, 23, 24] ∧ lookK Gn 9 = some [4, 6, 8, 11, 22, 23, 24] ∧ lookK Gn 10 = some [4, 6, 8, 11, 22, 23, 24, 32] ∧ lookK Gn 11 = some [4, 5] ∧ lookK Gn 12 = some [4, 6, 8, 22, 23, 24] ∧ lookK Gn 13 = some [4, 5] := ⟨rfl, rfl, rfl, rfl, rfl, rfl, rfl, rfl, rfl, rfl, rfl, rfl, rfl, rfl⟩
def Du (c : Cs) : Bool := decide (c.eye.length = 3) && c.eye.all (fun r => decide (r.length = c.lamp.length))
def HI (c : Cs) : Bool := c.lamp.all (Cg 100) && c.eye.all (fun r => r.all (Cg 100))
def okCase (c : Cs) : Int := if c.lamp.length = 0 ∨ 8 < c.lamp.length then 6 else if Du c then (if HI c then 0 else 2) else 15
structure OkC (c : Cs) : Prop where
 n1 : 0 < c.lamp.length
 n8 : c.lamp.length ≤ 8
 e3 : c.eye.length = 3
 er : ∀ r ∈ c.eye, r.length = c.lamp.length
 lr : ∀ r ∈ c.lamp, Cg 100 r = true
 rr : ∀ l ∈ c.eye, ∀ r ∈ l, Cg 100 r = true
theorem Dv (c : Cs) : Du c = true ↔ c.eye.length = 3 ∧ ∀ r ∈ c.eye, r.length = c.lamp.length := by
 simp [Du]
theorem D4 (c : Cs) : HI c = true ↔ (∀ r ∈ c.lamp, Cg 100 r = true) ∧ ∀ l ∈ c.eye, ∀ r ∈ l, Cg 100 r = true := by
 simp [HI]
theorem Fg (c : Cs) : okCase c = 0 ↔ OkC c := by
 unfold okCase
 constructor
 ·intro h
  by_cases h1 : c.lamp.length = 0 ∨ 8 < c.lamp.length
  ·rw [if_pos h1] at h; cases h
  rw [if_neg h1] at h
  by_cases h2 : Du c = true
  ·rw [if_pos h2] at h
   by_cases h3 : HI c = true
   ·exact ⟨by omega, by omega, ((Dv c).1 h2).1, ((Dv c).1 h2).2, ((D4 c).1 h3).1, ((D4 c).1 h3).2⟩
   ·rw [if_neg h3] at h; cases h
  ·rw [if_neg h2] at h; cases h
 ·intro h
  have h1 : ¬ (c.lamp.length = 0 ∨ 8 < c.lamp.length) := by have := h.n1; have := h.n8; omega
  have h2 := (Dv c).2 ⟨h.e3, h.er⟩
  have h3 := (D4 c).2 ⟨h.lr, h.rr⟩
  rw [if_neg h1, if_pos h2, if_pos h3]
theorem nn (i : Nat) : (0 ≤ (i : Int)) = True := by simp
theorem HJ {c : Cs} (h : c.lamp.length = 0 ∨ 8 < c.lamp.length) : okCase c = 6 := by simp only [okCase, if_pos h]
theorem Gg {c : Cs} (h : ¬ (c.lamp.length = 0 ∨ 8 < c.lamp.length)) (h2 : Du c = false) : okCase c = 15 := by simp only [okCase, if_neg h, h2, Bool.false_eq_true, if_false]
theorem PC {c : Cs} (h : ¬ (c.lamp.length = 0 ∨ 8 < c.lamp.length)) (h2 : Du c = true) : okCase c = if HI c then 0 else 2 := by simp only [okCase, if_neg h, if_pos h2]
theorem Gw {α : Type} {l : List α} {p : α → Bool} {i : Nat} {x : α} (h : l[i]? = some x) : (l.take (i + 1)).all p = ((l.take i).all p && p x) := by
 rw [Fe h, List.all_append]; simp
theorem PD {α : Type} {l : List α} {p : α → Bool} {i : Nat} (h : l.length ≤ i) : (l.take i).all p = l.all p := by rw [List.take_of_length_le h]
set_option maxHeartbeats 4000000 in
theorem PE (c : Cs) : AF Tryz.prog 119 [csV c] (I (okCase c)) := by
 refine pure_wkE (bad := []) (kp := DM) (X := tx) (nt := 44) (rs := [.tmp 2]) Tryz.func119 rfl rfl rfl rfl mo (by kernel_rfl) rfl rfl (fun hf => ?_)
 have hfit := aB0 (hf (csV c) (by simp))
 by_cases h0 : c.lamp.length = 0
 ·have h0' : (c.lamp.length : Int) = 0 := by omega
  have e := HJ (Or.inl h0)
  simp (maxSteps := 2000000) only [go_sem, reduceIte, Nat.reduceEqDiff, Nat.reduceAdd, Nat.reduceBEq, At, AM, AN, lk8, Au, AO, csV, csC, h0', e]
 have h0' : ¬ (c.lamp.length : Int) = 0 := by omega
 by_cases h8 : 8 < c.lamp.length
 ·have h8' : (8 : Int) < c.lamp.length := by omega
  have e := HJ (Or.inr h8)
  simp (maxSteps := 2000000) only [go_sem, reduceIte, Nat.reduceEqDiff, Nat.reduceAdd, Nat.reduceBEq, At, AM, AN, lk8, Au, AO, csV, csC, h0', h8', e]
 have h8' : ¬ (8 : Int) < c.lamp.length := by omega
 have hn : ¬ (c.lamp.length = 0 ∨ 8 < c.lamp.length) := by omega
 by_cases h3 : c.eye.length = 3
 case neg =>
  have h3' : ¬ (c.eye.length : Int) = 3 := by omega
  have e := Gg hn (by simp [Du, h3])
  simp (maxSteps := 2000000) only [go_sem, reduceIte, Nat.reduceEqDiff, Nat.reduceAdd, Nat.reduceLeDiff, Nat.reduceBEq, At, AM, AN, lk8, Au, AO, csV, csC, h0', h8', h3', e]
 have h3' : (c.eye.length : Int) = 3 := by omega
 simp (maxSteps := 2000000) only [go_sem, reduceIte, Nat.reduceEqDiff, Nat.reduceAdd, Nat.reduceLeDiff, Nat.reduceBEq, At, AM, AN, lk8, Au, AO, csV, csC, h0', h8', h3']
 refine Ar (aE4 c.eye 210 [.ptr 1 0] (fun r => !decide ((r.length : Int) = c.lamp.length)) [.cells (csC c), .cells [.d (.int .i64 c.lamp.length)]] rfl rfl (fun x _ => aOR c.lamp.length x _ 1 rfl rfl)) rfl rfl (by first | exact wk_refls _ | (repeat constructor)) ?_
 simp (maxSteps := 2000000) only [go_sem, reduceIte, Nat.reduceEqDiff, At, AM, AN, lk8, Au, AO, csC]
 have eany : c.eye.any (fun r => !decide ((r.length : Int) = c.lamp.length)) = !Du c := by
  rw [Bool.eq_iff_iff]; simp [Du, h3]; constructor <;> (rintro ⟨x, hx, h⟩; exact ⟨x, hx, by omega⟩)
 rw [eany]
 cases hl : Du c with
 | false =>
  have e := Gg hn hl
  simp (maxSteps := 2000000) only [go_sem, reduceIte, Nat.reduceEqDiff, Nat.reduceAdd, At, AM, AN, lk8, Au, AO, e]
 | true =>
 have e := PC hn hl
 simp (maxSteps := 2000000) only [go_sem, reduceIte, Nat.reduceEqDiff, Nat.reduceAdd, Nat.reduceBEq, At, AM, AN, lk8, Au, AO, csC]
 refine Ac (Tk 100 c.lamp) rfl rfl (by first | exact wk_refls _ | (repeat constructor)) ?_
 simp (maxSteps := 2000000) only [go_sem, reduceIte, Nat.reduceEqDiff, Nat.reduceAdd, Nat.reduceLeDiff, Nat.reduceBEq, At, AM, AN, lk8, Au, AO, csC]
 refine goE_loop (bad := []) (kp := DM) (fun i : Nat => { slots := [(4, B (c.lamp.all (Cg 100) && (c.eye.take i).all (fun r => r.all (Cg 100)))), (30, D2 c.eye), (31, I c.eye.length), (32, I i)], heap := [], marks := [] }) (fun i => i ≤ c.eye.length) (fun i => c.eye.length - i) 0 mo (by kernel_rfl) ?_ (Nat.zero_le _) ?_
 ·refine ent_weaken [.cells (csC c), .cells [.d (.int .i64 c.lamp.length)]] rfl rfl (Nat.zero_le _) rfl rfl ?_
  simp (maxSteps := 2000000) only [go_sem, reduceIte, Nat.reduceEqDiff, At, AM, AN, lk8, Au, AO, List.take_zero, List.all_nil, Bool.and_true, h3', D2]
  all_goals first | exact .refl _ | exact ⟨.refl _, .refl _⟩ | exact ⟨.refl _, .refl _, .refl _⟩ | exact ⟨.refl _, _, rfl⟩ | exact ⟨_, rfl⟩ | exact ⟨.refl _, [], by simp⟩ | exact ⟨[], by simp⟩
 rintro i hi
 simp (maxSteps := 2000000) only [go_sem, reduceIte, Nat.reduceEqDiff, Nat.reduceAdd, At, AM, AN, lk8, Au, AO, D2]
 refine goE_if (fun h => ?_) (fun h => ?_)
 ·have hlt : i < c.eye.length := by simpa using h
  obtain ⟨x, hx⟩ := AD hlt
  cases hg : (c.lamp.all (Cg 100) && (c.eye.take i).all (fun r => r.all (Cg 100))) with
  | true =>
   simp (maxSteps := 2000000) only [go_sem, reduceIte, Nat.reduceEqDiff, Nat.reduceAdd, At, AM, AN, lk8, Au, AO, hx, rowR, bnd hlt]
   refine Ac (Tk 100 x) rfl rfl (by first | exact wk_refls _ | (repeat constructor)) ?_
   simp (maxSteps := 2000000) only [go_sem, reduceIte, Nat.reduceEqDiff, At, AM, AN, lk8, Au, AO, Az hlt hfit.1]
   refine ⟨i + 1, hlt, by omega, ?_⟩
   refine ent_weaken [] rfl rfl (Nat.zero_le _) rfl rfl ?_
   have e2 := Gw (p := fun r : List Rg => r.all (Cg 100)) hx
   rw [e2, ← Bool.and_assoc, hg]
   simp (maxSteps := 2000000) only [go_sem, reduceIte, Nat.reduceEqDiff, At, AM, AN, lk8, Au, AO]
  | false =>
   simp (maxSteps := 2000000) only [go_sem, reduceIte, Nat.reduceEqDiff, Nat.reduceAdd, At, AM, AN, lk8, Au, AO, hx, rowR, bnd hlt, Az hlt hfit.1]
   refine ⟨i + 1, hlt, by omega, ?_⟩
   refine ent_weaken [] rfl rfl (Nat.zero_le _) rfl rfl ?_
   have e2 := Gw (p := fun r : List Rg => r.all (Cg 100)) hx
   rw [e2, ← Bool.and_assoc, hg]
   simp (maxSteps := 2000000) only [go_sem, reduceIte, Nat.reduceEqDiff, At, AM, AN, lk8, Au, AO]
 ·have hi2 : c.eye.length ≤ i := by simpa using h
  rw [PD hi2]
  have e3 : (c.lamp.all (Cg 100) && c.eye.all (fun r => r.all (Cg 100))) = HI c := rfl
  rw [e3]
  cases hr : HI c with
  | true =>
   have e4 : okCase c = 0 := by rw [e, hr]; rfl
   simp (maxSteps := 2000000) only [go_sem, reduceIte, Nat.reduceEqDiff, Nat.reduceAdd, At, AM, AN, lk8, Au, AO, e4]
  | false =>
   have e4 : okCase c = 2 := by rw [e, hr]; rfl
   simp (maxSteps := 2000000) only [go_sem, reduceIte, Nat.reduceEqDiff, Nat.reduceAdd, At, AM, AN, lk8, Au, AO, e4]
theorem RG {c : Cs} {i : Nat} {x : List Rg} (hx : c.eye[i]? = some x) (h : ¬ x.length = c.lamp.length) : Du c = false := by
 rw [← Bool.not_eq_true, Dv]; rintro ⟨_, h2⟩; exact h (h2 x (List.mem_of_getElem? hx))
theorem RH {c : Cs} {i : Nat} {x : Rg} (hx : c.lamp[i]? = some x) (h : Cg 100 x = false) : HI c = false := by
 rw [← Bool.not_eq_true, D4]; rintro ⟨h2, _⟩; rw [h2 x (List.mem_of_getElem? hx)] at h; cases h
theorem Ug {c : Cs} {i j : Nat} {l : List Rg} {x : Rg} (hl : c.eye[i]? = some l) (hx : l[j]? = some x) (h : Cg 100 x = false) : HI c = false := by
 rw [← Bool.not_eq_true, D4]; rintro ⟨_, h2⟩; rw [h2 l (List.mem_of_getElem? hl) x (List.mem_of_getElem? hx)] at h; cases h
set_option maxHeartbeats 4000000 in
theorem checkCase21 (c : Cs) : AF Tryz.prog 39 [csV c] (I (okCase c)) := by
 refine pure_wkE (bad := []) (kp := DN) (X := tx) (nt := 58) (rs := [.tmp 2]) Tryz.func39 rfl rfl rfl rfl mo (by kernel_rfl) rfl rfl (fun hf => ?_)
 have hfit := aB0 (hf (csV c) (by simp))
 by_cases h0 : c.lamp.length = 0
 ·have h0' : (c.lamp.length : Int) < 1 := by omega
  have e := HJ (Or.inl h0)
  simp (maxSteps := 2000000) only [go_sem, reduceIte, Nat.reduceEqDiff, Nat.reduceAdd, Nat.reduceBEq, At, AM, AN, lk8, Au, AO, csV, csC, h0', e]
 have h0' : ¬ (c.lamp.length : Int) < 1 := by omega
 by_cases h8 : 8 < c.lamp.length
 ·have h8' : (8 : Int) < c.lamp.length := by omega
  have e := HJ (Or.inr h8)
  simp (maxSteps := 2000000) only [go_sem, reduceIte, Nat.reduceEqDiff, Nat.reduceAdd, Nat.reduceBEq, At, AM, AN, lk8, Au, AO, csV, csC, h0', h8', e]
 have h8' : ¬ (8 : Int) < c.lamp.length := by omega
 have hn : ¬ (c.lamp.length = 0 ∨ 8 < c.lamp.length) := by omega
 by_cases h3 : c.eye.length = 3
 case neg =>
  have h3' : ¬ (c.eye.length : Int) = 3 := by omega
  have e := Gg hn (by simp [Du, h3])
  simp (maxSteps := 2000000) only [go_sem, reduceIte, Nat.reduceEqDiff, Nat.reduceAdd, Nat.reduceLeDiff, Nat.reduceBEq, At, AM, AN, lk8, Au, AO, csV, csC, h0', h8', h3', e]
 have h3' : (c.eye.length : Int) = 3 := by omega
 simp (maxSteps := 2000000) only [go_sem, reduceIte, Nat.reduceEqDiff, Nat.reduceAdd, Nat.reduceLeDiff, Nat.reduceBEq, At, AM, AN, lk8, Au, AO, csV, csC, h0', h8', h3']
 refine goE_loop (bad := []) (kp := DN) (fun i : Nat => { slots := [(1, .c (.ptr 0 0)), (3, I c.lamp.length), (4, I i)], heap := [.cells (csC c)], marks := [] }) (fun i => i ≤ 3 ∧ ∀ j x, j < i → c.eye[j]? = some x → x.length = c.lamp.length) (fun i => 3 - i) 0 mo (by kernel_rfl) ?_ ⟨Nat.zero_le _, by intro j r h; omega⟩ ?_
 ·refine ent_weaken [] rfl rfl (Nat.zero_le _) rfl rfl ?_
  simp (maxSteps := 2000000) only [go_sem, reduceIte, Nat.reduceEqDiff, Nat.reduceLT, At, AM, AN, lk8, Au, AO, csC]
  all_goals first | exact .refl _ | exact ⟨.refl _, .refl _⟩ | exact ⟨.refl _, .refl _, .refl _⟩ | exact ⟨.refl _, _, rfl⟩ | exact ⟨_, rfl⟩ | exact ⟨.refl _, [], by simp⟩ | exact ⟨[], by simp⟩
 rintro i ⟨hi, hall⟩
 simp (maxSteps := 2000000) only [go_sem, reduceIte, Nat.reduceEqDiff, Nat.reduceAdd, At, AM, AN, lk8, Au, AO, csC]
 by_cases hlt : i < 3
 ·have hlt' : (i : Int) < 3 := by omega
  obtain ⟨x, hx⟩ := AD (show i < c.eye.length by omega)
  simp (maxSteps := 2000000) only [go_sem, reduceIte, Nat.reduceEqDiff, Nat.reduceAdd, Nat.reduceLeDiff, Nat.reduceBEq, At, AM, AN, lk8, Au, AO, hx, rowR, bnd (show i < c.eye.length by omega), hlt']
  by_cases hxl : x.length = c.lamp.length
  ·have hxl' : (x.length : Int) = c.lamp.length := by omega
   have w : wr .i64 ((i : Int) + 1) = ((i + 1 : Nat) : Int) := Az hlt (by omega)
   simp (maxSteps := 2000000) only [go_sem, reduceIte, Nat.reduceEqDiff, Nat.reduceAdd, At, AM, AN, lk8, Au, AO, hxl', w]
   refine ⟨i + 1, ⟨hlt, Bw hall hx hxl⟩, by omega, ?_⟩
   refine ent_weaken [] rfl rfl (Nat.zero_le _) rfl rfl ?_
   simp (maxSteps := 2000000) only [go_sem, reduceIte, Nat.reduceEqDiff, Nat.reduceLT, At, AM, AN, lk8, Au, AO]
  ·have hxl' : ¬ (x.length : Int) = c.lamp.length := by omega
   have e := Gg hn (RG hx hxl)
   simp (maxSteps := 2000000) only [go_sem, reduceIte, Nat.reduceEqDiff, Nat.reduceAdd, At, AM, AN, lk8, Au, AO, hxl', e]
 have hlt' : ¬ (i : Int) < 3 := by omega
 have hl : Du c = true := (Dv c).2 ⟨h3, fun r hr => by
  obtain ⟨j, hj⟩ := List.getElem?_of_mem hr
  exact hall j r (by have := (List.getElem?_eq_some_iff.1 hj).1; omega) hj⟩
 have e := PC hn hl
 have her := ((Dv c).1 hl).2
 clear hall
 simp (maxSteps := 2000000) only [go_sem, reduceIte, Nat.reduceEqDiff, Nat.reduceAdd, At, AM, AN, lk8, Au, AO, hlt']
 refine goE_loop (bad := []) (kp := DN) (fun b : Nat => { slots := [(1, .c (.ptr 0 0)), (3, I c.lamp.length), (5, I b)], heap := [.cells (csC c)], marks := [] }) (fun b => b ≤ c.lamp.length ∧ (∀ j x, j < b → c.lamp[j]? = some x → Cg 100 x = true) ∧ ∀ (l : List Rg), l ∈ c.eye → ∀ (j : Nat) (x : Rg), j < b → l[j]? = some x → Cg 100 x = true) (fun b => c.lamp.length - b) 0 mo (by kernel_rfl) ?_ ⟨Nat.zero_le _, by intro j r h; omega, by intro l _ j r h; omega⟩ ?_
 ·refine ent_weaken [] rfl rfl (Nat.zero_le _) rfl rfl ?_
  simp (maxSteps := 2000000) only [go_sem, reduceIte, Nat.reduceEqDiff, Nat.reduceLT, At, AM, AN, lk8, Au, AO, csC]
  all_goals first | exact .refl _ | exact ⟨.refl _, .refl _⟩ | exact ⟨.refl _, .refl _, .refl _⟩ | exact ⟨.refl _, _, rfl⟩ | exact ⟨_, rfl⟩ | exact ⟨.refl _, [], by simp⟩ | exact ⟨[], by simp⟩
 rintro b ⟨hb, hlb, heb⟩
 simp (maxSteps := 2000000) only [go_sem, reduceIte, Nat.reduceEqDiff, Nat.reduceAdd, At, AM, AN, lk8, Au, AO, csC]
 refine goE_if (fun h => ?_) (fun h => ?_)
 ·have hbl : b < c.lamp.length := by simpa using h
  clear h
  obtain ⟨y, hy⟩ := AD hbl
  simp (maxSteps := 2000000) only [go_sem, reduceIte, Nat.reduceEqDiff, Nat.reduceAdd, Nat.reduceBEq, At, AM, AN, lk8, Au, AO, hy, rgD, bnd hbl]
  refine Ac (Tl 100 y) rfl rfl (by first | exact wk_refls _ | (repeat constructor)) ?_
  simp (maxSteps := 2000000) only [go_sem, reduceIte, Nat.reduceEqDiff, At, AM, AN, lk8, Au, AO]
  cases hyo : Cg 100 y with
  | false =>
   have e4 : okCase c = 2 := by rw [e, RH hy hyo]; rfl
   simp (maxSteps := 2000000) only [go_sem, reduceIte, Nat.reduceEqDiff, Nat.reduceAdd, At, AM, AN, lk8, Au, AO, e4]
  | true =>
  simp (maxSteps := 2000000) only [go_sem, reduceIte, Nat.reduceEqDiff, Nat.reduceAdd, At, AM, AN, lk8, Au, AO]
  refine goE_loop (bad := []) (kp := DN) (fun i : Nat => { slots := [(1, .c (.ptr 0 0)), (3, I c.lamp.length), (5, I b), (6, I i)], heap := [.cells (csC c)], marks := [] }) (fun i => i ≤ 3 ∧ ∀ j l, j < i → c.eye[j]? = some l → ∀ x, l[b]? = some x → Cg 100 x = true) (fun i => 3 - i) 0 mo (by kernel_rfl) ?_ ⟨Nat.zero_le _, by intro j r h; omega⟩ ?_
  ·refine ent_weaken [] rfl rfl (Nat.zero_le _) rfl rfl ?_
   simp (maxSteps := 2000000) only [go_sem, reduceIte, Nat.reduceEqDiff, Nat.reduceLT, At, AM, AN, lk8, Au, AO, csC]
   all_goals first | exact .refl _ | exact ⟨.refl _, .refl _⟩ | exact ⟨.refl _, .refl _, .refl _⟩ | exact ⟨.refl _, _, rfl⟩ | exact ⟨_, rfl⟩ | exact ⟨.refl _, [], by simp⟩ | exact ⟨[], by simp⟩
  rintro i ⟨hi, hall⟩
  simp (maxSteps := 2000000) only [go_sem, reduceIte, Nat.reduceEqDiff, Nat.reduceAdd, At, AM, AN, lk8, Au, AO, csC]
  by_cases hlt : i < 3
  ·have hlt' : (i : Int) < 3 := by omega
   obtain ⟨l, hl2⟩ := AD (show i < c.eye.length by omega)
   have hll := her l (List.mem_of_getElem? hl2)
   obtain ⟨x, hx⟩ := AD (show b < l.length by omega)
   simp (maxSteps := 2000000) only [go_sem, reduceIte, Nat.reduceEqDiff, Nat.reduceAdd, Nat.reduceLeDiff, Nat.reduceBEq, At, AM, AN, lk8, Au, AO, hl2, hx, rowR, rgD, bnd (show i < c.eye.length by omega), bnd (show b < l.length by omega), hlt']
   refine Ac (Tl 100 x) rfl rfl (by first | exact wk_refls _ | (repeat constructor)) ?_
   simp (maxSteps := 2000000) only [go_sem, reduceIte, Nat.reduceEqDiff, At, AM, AN, lk8, Au, AO]
   cases hxo : Cg 100 x with
   | false =>
    have e4 : okCase c = 2 := by rw [e, Ug hl2 hx hxo]; rfl
    simp (maxSteps := 2000000) only [go_sem, reduceIte, Nat.reduceEqDiff, Nat.reduceAdd, At, AM, AN, lk8, Au, AO, e4]
   | true =>
   have w : wr .i64 ((i : Int) + 1) = ((i + 1 : Nat) : Int) := Az hlt (by omega)
   simp (maxSteps := 2000000) only [go_sem, reduceIte, Nat.reduceEqDiff, Nat.reduceAdd, At, AM, AN, lk8, Au, AO, w]
   refine ⟨i + 1, ⟨hlt, Bw (P := fun l : List Rg => ∀ x, l[b]? = some x → Cg 100 x = true) hall hl2 (fun z hz => by rw [hx] at hz; cases hz; exact hxo)⟩, by omega, ?_⟩
   refine ent_weaken [] rfl rfl (Nat.zero_le _) rfl rfl ?_
   simp (maxSteps := 2000000) only [go_sem, reduceIte, Nat.reduceEqDiff, Nat.reduceLT, At, AM, AN, lk8, Au, AO]
  ·have hlt2' : ¬ (i : Int) < 3 := by omega
   have hi3 : i = 3 := by omega
   simp (maxSteps := 2000000) only [go_sem, reduceIte, Nat.reduceEqDiff, Nat.reduceAdd, At, AM, AN, lk8, Au, AO, hlt2', Az hbl hfit.2]
   refine ⟨b + 1, ⟨hbl, Bw hlb hy hyo, fun l hl3 => ?_⟩, by omega, ?_⟩
   ·intro j x hj hx
    rcases Nat.lt_succ_iff_lt_or_eq.1 hj with h1 | h1
    ·exact heb l hl3 j x h1 hx
    ·obtain ⟨k, hk⟩ := List.getElem?_of_mem hl3
     rw [h1] at hx
     exact hall k l (by have := (List.getElem?_eq_some_iff.1 hk).1; omega) hk x hx
   ·refine ent_weaken [] rfl rfl (Nat.zero_le _) rfl rfl ?_
    simp (maxSteps := 2000000) only [go_sem, reduceIte, Nat.reduceEqDiff, Nat.reduceLT, At, AM, AN, lk8, Au, AO]
 ·have hbl : c.lamp.length ≤ b := by simpa using h
  have e4 : okCase c = 0 := by
   rw [e, (D4 c).2 ⟨fun r hr => ?_, fun l hl3 r hr => ?_⟩]; rfl
   ·obtain ⟨j, hj⟩ := List.getElem?_of_mem hr
    exact hlb j r (by have := (List.getElem?_eq_some_iff.1 hj).1; omega) hj
   ·obtain ⟨j, hj⟩ := List.getElem?_of_mem hr
    exact heb l hl3 j r (by have := (List.getElem?_eq_some_iff.1 hj).1; have := her l hl3; omega) hj
  simp (maxSteps := 2000000) only [go_sem, reduceIte, Nat.reduceEqDiff, Nat.reduceAdd, At, AM, AN, lk8, Au, AO, e4]
def AK (c : Cs) (l : List Int) : Int := if l.length = c.lamp.length then (if inR 0 1000 l then 0 else 2) else 15
theorem GV (c : Cs) (l : List Int) : AK c l = 0 ↔ l.length = c.lamp.length ∧ ∀ x ∈ l, 0 ≤ x ∧ x ≤ 1000 := by
 unfold AK
 by_cases h : l.length = c.lamp.length
 ·rw [if_pos h]
  by_cases h2 : inR 0 1000 l = true
  ·simp only [h2, if_true, h, true_and, true_iff]; exact (Tj _ _ _).1 h2
  ·have h3 := h2; rw [Tj] at h3; simp only [h2, h, true_and]; simp only [Bool.false_eq_true, if_false]; constructor
   ·intro h; cases h
   ·intro h; exact absurd h h3
 ·simp [h]
set_option maxHeartbeats 1000000 in
theorem aEp (c : Cs) (l : List Int) : AF Tryz.prog 120 [csV c, ints l] (I (AK c l)) := by
 refine pure_wkE (bad := []) (kp := KS) (X := tx) (nt := 17) (rs := [.tmp 4]) Tryz.func120 rfl rfl rfl rfl mo (by kernel_rfl) rfl rfl (fun hf => ?_)
 by_cases h : l.length = c.lamp.length
 ·have h' : (l.length : Int) = c.lamp.length := by omega
  have e : AK c l = if inR 0 1000 l then 0 else 2 := by simp only [AK, if_pos h]
  simp (maxSteps := 2000000) only [go_sem, reduceIte, Nat.reduceEqDiff, Nat.reduceAdd, Nat.reduceBEq, At, AM, AN, lk8, Au, AO, csV, csC, ints, h']
  refine Ac (HH 0 1000 l) rfl rfl (by first | exact wk_refls _ | (repeat constructor)) ?_
  simp (maxSteps := 2000000) only [go_sem, reduceIte, Nat.reduceEqDiff, At, AM, AN, lk8, Au, AO]
  cases hi : inR 0 1000 l with
  | true =>
   have e4 : AK c l = 0 := by rw [e, hi]; rfl
   simp (maxSteps := 2000000) only [go_sem, reduceIte, Nat.reduceEqDiff, Nat.reduceAdd, At, AM, AN, lk8, Au, AO, e4]
  | false =>
   have e4 : AK c l = 2 := by rw [e, hi]; rfl
   simp (maxSteps := 2000000) only [go_sem, reduceIte, Nat.reduceEqDiff, Nat.reduceAdd, At, AM, AN, lk8, Au, AO, e4]
 ·have h' : ¬ (l.length : Int) = c.lamp.length := by omega
  have e : AK c l = 15 := by simp only [AK, if_neg h]
  simp (maxSteps := 2000000) only [go_sem, reduceIte, Nat.reduceEqDiff, Nat.reduceAdd, Nat.reduceBEq, At, AM, AN, lk8, Au, AO, csV, csC, ints, h', e]
set_option maxHeartbeats 2000000 in
theorem RI (c : Cs) (l : List Int) : AF Tryz.prog 40 [csV c, ints l] (I (AK c l)) := by
 refine pure_wkE (bad := []) (kp := KR) (X := tx) (nt := 30) (rs := [.tmp 4]) Tryz.func40 rfl rfl rfl rfl mo (by kernel_rfl) rfl rfl (fun hf => ?_)
 have hfit := KP (hf (ints l) (by simp))
 by_cases h : l.length = c.lamp.length
 case neg =>
  have h' : ¬ (l.length : Int) = c.lamp.length := by omega
  have e : AK c l = 15 := by simp only [AK, if_neg h]
  simp (maxSteps := 2000000) only [go_sem, reduceIte, Nat.reduceEqDiff, Nat.reduceAdd, Nat.reduceBEq, At, AM, AN, lk8, Au, AO, csV, csC, ints, h', e]
 have h' : (l.length : Int) = c.lamp.length := by omega
 have e : AK c l = if inR 0 1000 l then 0 else 2 := by simp only [AK, if_pos h]
 simp (maxSteps := 2000000) only [go_sem, reduceIte, Nat.reduceEqDiff, Nat.reduceAdd, Nat.reduceBEq, At, AM, AN, lk8, Au, AO, csV, csC, ints, h']
 refine goE_loop (bad := []) (kp := KR) (fun i : Nat => { slots := [(1, ints l), (5, I i)], heap := [], marks := [] }) (fun i => i ≤ l.length ∧ ∀ j x, j < i → l[j]? = some x → (decide (x < 0) || decide (1000 < x)) = false) (fun i => l.length - i) 0 mo (by kernel_rfl) ?_ ⟨Nat.zero_le _, by intro j r h; omega⟩ ?_
 ·refine ent_weaken [.cells (csC c)] rfl rfl (Nat.zero_le _) rfl rfl ?_
  simp (maxSteps := 2000000) only [go_sem, reduceIte, Nat.reduceEqDiff, At, AM, AN, lk8, Au, AO, ints]
  all_goals first | exact .refl _ | exact ⟨.refl _, .refl _⟩ | exact ⟨.refl _, .refl _, .refl _⟩ | exact ⟨.refl _, _, rfl⟩ | exact ⟨_, rfl⟩ | exact ⟨.refl _, [], by simp⟩ | exact ⟨[], by simp⟩
 rintro i ⟨hi, hall⟩
 simp (maxSteps := 2000000) only [go_sem, reduceIte, Nat.reduceEqDiff, Nat.reduceAdd, At, AM, AN, lk8, Au, AO, ints]
 by_cases hlt : i < l.length
 ·have hlt' : (i : Int) < l.length := by omega
  obtain ⟨x, hx⟩ := AD hlt
  by_cases h1 : x < 0
  ·have hin : inR 0 1000 l = false := by
    have := GU (p := fun n : Int => decide (n < 0) || decide (1000 < n)) hx (by simp [h1])
    simp only [inR, this, Bool.not_true]
   have e4 : AK c l = 2 := by rw [e, hin]; rfl
   simp (maxSteps := 2000000) only [go_sem, reduceIte, Nat.reduceEqDiff, Nat.reduceAdd, At, AM, AN, lk8, Au, AO, hlt', hx, iD, nn, h1, e4]
  by_cases h2 : 1000 < x
  ·have hin : inR 0 1000 l = false := by
    have := GU (p := fun n : Int => decide (n < 0) || decide (1000 < n)) hx (by simp [h2])
    simp only [inR, this, Bool.not_true]
   have e4 : AK c l = 2 := by rw [e, hin]; rfl
   simp (maxSteps := 2000000) only [go_sem, reduceIte, Nat.reduceEqDiff, Nat.reduceAdd, At, AM, AN, lk8, Au, AO, hlt', hx, iD, nn, h1, h2, e4]
  simp (maxSteps := 2000000) only [go_sem, reduceIte, Nat.reduceEqDiff, Nat.reduceAdd, At, AM, AN, lk8, Au, AO, hlt', hx, iD, nn, h1, h2, Az hlt hfit]
  refine ⟨i + 1, ⟨hlt, Bw hall hx (by simp [h1, h2])⟩, by omega, ?_⟩
  refine ent_weaken [] rfl rfl (Nat.zero_le _) rfl rfl ?_
  simp (maxSteps := 2000000) only [go_sem, reduceIte, Nat.reduceEqDiff, At, AM, AN, lk8, Au, AO]
 ·have hlt' : ¬ (i : Int) < l.length := by omega
  have hin : inR 0 1000 l = true := by
   have := KQ (l := l) (p := fun n : Int => decide (n < 0) || decide (1000 < n)) (fun j x hj hx => hall j x (by omega) hx)
   simp only [inR, this, Bool.not_false]
  have e4 : AK c l = 0 := by rw [e, hin]; rfl
  simp (maxSteps := 2000000) only [go_sem, reduceIte, Nat.reduceEqDiff, Nat.reduceAdd, At, AM, AN, lk8, Au, AO, hlt', e4]
def okChips (c : Cs) (a b : List Int) : Int := if okCase c = 0 then (if AK c a = 0 then AK c b else AK c a) else okCase c
set_option maxHeartbeats 1000000 in
theorem chips58 (c : Cs) (a b : List Int) : AF Tryz.prog 8 [csV c, ints a, ints b] (I (okChips c a b)) := by
 refine pure_wkE (bad := []) (kp := kp8) (X := tx) (nt := 22) (rs := [.tmp 6]) Tryz.func8 rfl rfl rfl rfl mo (by kernel_rfl) rfl rfl (fun hf => ?_)
 simp (maxSteps := 2000000) only [go_sem, reduceIte, Nat.reduceEqDiff, Nat.reduceAdd, At, AM, AN, lk8, Au, AO, csV, csC, ints]
 refine Ac (checkCase21 c) rfl rfl (by first | exact wk_refls _ | (repeat constructor)) ?_
 by_cases h : okCase c = 0
 ·simp (maxSteps := 2000000) only [go_sem, reduceIte, Nat.reduceEqDiff, Nat.reduceAdd, At, AM, AN, lk8, Au, AO, h, csC]
  refine Ac (RI c a) rfl rfl (by first | exact wk_refls _ | (repeat constructor)) ?_
  by_cases h2 : AK c a = 0
  ·simp (maxSteps := 2000000) only [go_sem, reduceIte, Nat.reduceEqDiff, Nat.reduceAdd, At, AM, AN, lk8, Au, AO, h2, csC]
   refine Ac (RI c b) rfl rfl (by first | exact wk_refls _ | (repeat constructor)) ?_
   have e : okChips c a b = AK c b := by simp only [okChips, h, h2, if_true]
   simp (maxSteps := 2000000) only [go_sem, reduceIte, Nat.reduceEqDiff, At, AM, AN, lk8, Au, AO, e]
  ·simp (maxSteps := 2000000) only [go_sem, reduceIte, Nat.reduceEqDiff, Nat.reduceAdd, At, AM, AN, lk8, Au, AO, h2, csC]
   refine Ac (RI c a) rfl rfl (by first | exact wk_refls _ | (repeat constructor)) ?_
   have e : okChips c a b = AK c a := by simp only [okChips, h, h2, if_true, if_false]
   simp (maxSteps := 2000000) only [go_sem, reduceIte, Nat.reduceEqDiff, At, AM, AN, lk8, Au, AO, e]
 ·simp (maxSteps := 2000000) only [go_sem, reduceIte, Nat.reduceEqDiff, Nat.reduceAdd, At, AM, AN, lk8, Au, AO, h, csC]
  refine Ac (checkCase21 c) rfl rfl (by first | exact wk_refls _ | (repeat constructor)) ?_
  have e : okChips c a b = okCase c := by simp only [okChips, h, if_false]
  simp (maxSteps := 2000000) only [go_sem, reduceIte, Nat.reduceEqDiff, At, AM, AN, lk8, Au, AO, e]
def DT (c : Cs) : List (List Int) → Int
 | [] => 0
 | x :: l => if AK c x = 0 then DT c l else AK c x
def KU (c : Cs) (l : List (List Int)) : Int := if okCase c = 0 then DT c l else okCase c
theorem MS {c : Cs} : ∀ {l : List (List Int)} {i : Nat} {x : List Int}, (∀ (j : Nat) y, j < i → l[j]? = some y → AK c y = 0) → l[i]? = some x → AK c x ≠ 0 → DT c l = AK c x
 | y :: l, 0, x, _, hx, hp => by simp at hx; subst hx; simp only [DT, if_neg hp]
 | y :: l, i + 1, x, h, hx, hp => by
  have h0 := h 0 y (by omega) rfl
  have ih := MS (l := l) (i := i) (fun j z hj hz => h (j + 1) z (by omega) (by simpa using hz)) (by simpa using hx) hp
  simp only [DT, h0, ih, if_true]
theorem IZ {c : Cs} : ∀ {l : List (List Int)}, (∀ (j : Nat) y, j < l.length → l[j]? = some y → AK c y = 0) → DT c l = 0
 | [], _ => rfl
 | y :: l, h => by
  have h0 := h 0 y (by simp) rfl
  have ih := IZ (l := l) (fun j z hj hz => h (j + 1) z (by simpa using hj) (by simpa using hz))
  simp only [DT, h0, ih, if_true]
set_option maxHeartbeats 2000000 in
theorem Tm (c : Cs) (l : List (List Int)) : AF Tryz.prog 45 [csV c, Dm l] (.tup [csV c, I (KU c l)]) := by
 refine pure_wkE (bad := []) (kp := Gn) (X := tx) (nt := 37) (rs := [.cell 4 112, .tmp 5]) Tryz.func45 rfl rfl rfl rfl mo (by kernel_rfl) rfl rfl (fun hf => ?_)
 have hfit := MR (hf (Dm l) (by simp))
 simp (maxSteps := 2000000) only [go_sem, reduceIte, Nat.reduceEqDiff, Nat.reduceAdd, Nat.reduceBEq, At, AM, AN, lk8, Au, AO, csV, csC, Dm]
 refine Ac (PE c) rfl rfl (by first | exact wk_refls _ | (repeat constructor)) ?_
 by_cases h : okCase c = 0
 ·simp (maxSteps := 2000000) only [go_sem, reduceIte, Nat.reduceEqDiff, Nat.reduceAdd, At, AM, AN, lk8, Au, AO, h, csC, List.isEmpty_cons]
  refine goE_loop (bad := []) (kp := Gn) (fun i : Nat => { slots := [(4, .c (.ptr 1 0)), (6, .c (.ptr 2 0)), (8, .c (.ma (.func 120) (csC c))), (22, Dm l), (23, I l.length), (24, I i)], heap := [.cells (csC c), .cells [.full [], .full []], .cells (csC c)], marks := [] }) (fun i => i ≤ l.length ∧ ∀ j x, j < i → l[j]? = some x → AK c x = 0) (fun i => l.length - i) 0 mo (by kernel_rfl) ?_ ⟨Nat.zero_le _, by intro j r h; omega⟩ ?_
  ·refine ent_weaken [] rfl rfl (Nat.zero_le _) rfl rfl ?_
   simp (maxSteps := 2000000) only [go_sem, reduceIte, Nat.reduceEqDiff, Nat.reduceAdd, Nat.reduceLT, At, AM, AN, lk8, Au, AO, csC, Dm]
   all_goals first | exact .refl _ | exact ⟨.refl _, .refl _⟩ | exact ⟨.refl _, .refl _, .refl _⟩ | exact ⟨.refl _, _, rfl⟩ | exact ⟨_, rfl⟩ | exact ⟨.refl _, [], by simp⟩ | exact ⟨[], by simp⟩
  rintro i ⟨hi, hall⟩
  simp (maxSteps := 2000000) only [go_sem, reduceIte, Nat.reduceEqDiff, Nat.reduceAdd, At, AM, AN, lk8, Au, AO, Dm, csC]
  by_cases hlt : i < l.length
  ·have hlt' : (i : Int) < l.length := by omega
   obtain ⟨x, hx⟩ := AD hlt
   simp (maxSteps := 2000000) only [go_sem, reduceIte, Nat.reduceEqDiff, Nat.reduceAdd, At, AM, AN, lk8, Au, AO, hlt', hx, Ff, nn]
   refine Ac (aEp c x) rfl rfl (by first | exact wk_refls _ | (repeat constructor)) ?_
   by_cases h2 : AK c x = 0
   ·simp (maxSteps := 2000000) only [go_sem, reduceIte, Nat.reduceEqDiff, Nat.reduceAdd, At, AM, AN, lk8, Au, AO, h2, Az hlt hfit]
    refine ⟨i + 1, ⟨hlt, Bw hall hx h2⟩, by omega, ?_⟩
    refine ent_weaken [] rfl rfl (Nat.zero_le _) rfl rfl ?_
    simp (maxSteps := 2000000) only [go_sem, reduceIte, Nat.reduceEqDiff, Nat.reduceAdd, Nat.reduceLT, At, AM, AN, lk8, Au, AO, csC]
    all_goals first | exact .refl _ | exact ⟨.refl _, .refl _⟩ | exact ⟨.refl _, .refl _, .refl _⟩ | exact ⟨.refl _, _, rfl⟩ | exact ⟨_, rfl⟩ | exact ⟨.refl _, [], by simp⟩ | exact ⟨[], by simp⟩
   ·have e : KU c l = AK c x := by simp only [KU, h, if_true, MS hall hx h2]
    simp (maxSteps := 2000000) only [go_sem, reduceIte, Nat.reduceEqDiff, Nat.reduceAdd, At, AM, AN, lk8, Au, AO, h2, csC, e]
    all_goals first | exact .refl _ | exact ⟨.refl _, .refl _⟩ | exact ⟨.refl _, .refl _, .refl _⟩ | exact ⟨.refl _, _, rfl⟩ | exact ⟨_, rfl⟩ | exact ⟨.refl _, [], by simp⟩ | exact ⟨[], by simp⟩
  ·have hlt' : ¬ (i : Int) < l.length := by omega
   have e2 := IZ (c := c) (l := l) (fun j y hj hy => hall j y (by omega) hy)
   have e : KU c l = 0 := by simp only [KU, h, if_true, e2]
   simp (maxSteps := 2000000) only [go_sem, reduceIte, Nat.reduceEqDiff, Nat.reduceAdd, At, AM, AN, lk8, Au, AO, hlt', csC, e]
   all_goals first | exact .refl _ | exact ⟨.refl _, .refl _⟩ | exact ⟨.refl _, .refl _, .refl _⟩ | exact ⟨.refl _, _, rfl⟩ | exact ⟨_, rfl⟩ | exact ⟨.refl _, [], by simp⟩ | exact ⟨[], by simp⟩
 ·have e : KU c l = okCase c := by simp only [KU, h, if_false]
  simp (maxSteps := 2000000) only [go_sem, reduceIte, Nat.reduceEqDiff, Nat.reduceAdd, At, AM, AN, lk8, Au, AO, h, csC, e]
end Go.Proofs.YtfgdbeijjbijnaaGreatDoor.Me
