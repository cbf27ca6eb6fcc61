/- Zones: the data, and searches. -/
import Derived.Test.YtfgdbeijjbijnaaGreatDoorHG16
import Derived.Test.YtfgdbeijjbijnaaGreatDoorHG12
import Derived.Test.YtfgdbeijjbijnaaGreatDoorHG21
import Derived.Test.YtfgdbeijjbijnaaGreatDoorHG15
set_option linter.unusedSimpArgs false
set_option linter.unusedVariables false
set_option linter.unusedSimpArgs false
set_option linter.unusedVariables false
set_option maxRecDepth 100000
namespace Go.Proofs.YtfgdbeijjbijnaaGreatDoor.Zo
open Go Go.Abs Go.Proofs
def aDt : List (Nat × List Nat) := [(0, [1, 2]), (1, [3])]
theorem AS : lookK aDt 0 = some [1, 2] ∧ lookK aDt 1 = some [3] := ⟨rfl, rfl⟩
def aDu : List (Nat × List Nat) := [(0, [1, 2]), (1, [4])]
theorem AT : lookK aDu 0 = some [1, 2] ∧ lookK aDu 1 = some [4] := ⟨rfl, rfl⟩
def aDv : List (Nat × List Nat) := [(0, [0]), (1, [2])]
theorem AU : lookK aDv 0 = some [0] ∧ lookK aDv 1 = some [2] := ⟨rfl, rfl⟩
def aDw : List (Nat × List Nat) := [(0, [1, 2]), (1, [4])]
theorem AV : lookK aDw 0 = some [1, 2] ∧ lookK aDw 1 = some [4] := ⟨rfl, rfl⟩
def aDx : List (Nat × List Nat) := [(0, [0, 1]), (1, [4])]
theorem AW : lookK aDx 0 = some [0, 1] ∧ lookK aDx 1 = some [4] := ⟨rfl, rfl⟩
attribute [go_sem] aIM aHI aHJ aFa
theorem mo : Tryz.prog.follows .mixedOrders = true := by kernel_rfl
def iD (n : Int) : List D := [.int .i64 n]
def bD (b : Bool) : List D := [.bool b]
def rgD (r : Rg) : List D := [.int .i64 r.lo, .int .i64 r.hi]
def rgC (r : Rg) : List C := [.d (.int .i64 r.lo), .d (.int .i64 r.hi)]
def rgV (r : Rg) : V := .agg (rgC r)
def ints (l : List Int) : V := .c (.d (.sl (l.map iD)))
def rgs (l : List Rg) : V := .c (.d (.sl (l.map rgD)))
def Et (l : List Bool) : V := .c (.d (.sl (l.map bD)))
def laC (l : La) : List C := [.d (.sl (l.an.map iD)), .d (.sl (l.li.map rgD)), .d (.sl (l.fa.map bD)), .d (.sl (l.we.map iD))]
def laV (l : La) : V := .agg (laC l)
theorem Sm {l : List (List D)} (h : Hj (.c (.d (.sl l)))) : l.length ≤ 140737488355328 := by have h : Fit _ := h; have := h.len; simpa [lim] using this
theorem Fz {l : List Int} (h : Hj (ints l)) : l.length ≤ 140737488355328 := by simpa using Sm h
theorem aFB {l : List Rg} (h : Hj (rgs l)) : l.length ≤ 140737488355328 := by simpa using Sm h
theorem Vi {l : List Bool} (h : Hj (Et l)) : l.length ≤ 140737488355328 := by simpa using Sm h
theorem CO {x : Int} (h : -1000000000000000 ≤ x ∧ x ≤ 1000000000000000) : wr .i64 x = x := by rw [CS] <;> omega
theorem An {i n : Nat} (h : i < n) (hn : n ≤ 140737488355328) : wr .i64 ((i : Int) + 1) = ((i + 1 : Nat) : Int) := by rw [CS] <;> omega
theorem nn (i : Nat) : (0 ≤ (i : Int)) = True := by simp
theorem y0 : ((0 : Nat) : Int) = 0 := rfl
theorem y1 : ((1 : Nat) : Int) = 1 := rfl
theorem y2 : ((2 : Nat) : Int) = 2 := rfl
theorem y3 : ((3 : Nat) : Int) = 3 := rfl
theorem y6 : ((6 : Nat) : Int) = 6 := rfl
theorem y11 : ((11 : Nat) : Int) = 11 := rfl
theorem y91 : ((91 : Nat) : Int) = 91 := rfl
theorem rep1 {α : Type} (x : α) : List.replicate 1 x = [x] := rfl
theorem rep2 {α : Type} (x : α) : List.replicate 2 x = [x, x] := rfl
theorem rep3 {α : Type} (x : α) : List.replicate 3 x = [x, x, x] := rfl
theorem rep4 {α : Type} (x : α) : List.replicate 4 x = [x, x, x, x] := rfl
theorem rep5 {α : Type} (x : α) : List.replicate 5 x = [x, x, x, x, x] := rfl
theorem rep6 {α : Type} (x : α) : List.replicate 6 x = [x, x, x, x, x, x] := rfl
attribute [go_sem] rep1 rep2 rep3 rep4 rep5 rep6 y0 y1 y2 y3 y6 y11 y91
theorem Bm {α : Type} {l : List α} {i : Nat} (h : i < l.length) : ∃ x, l[i]? = some x := ⟨l[i], by simp [h]⟩
theorem CL {α : Type} {l : List α} {P : α → Prop} {i : Nat} {x : α} (h : ∀ (j : Nat) y, j < i → l[j]? = some y → P y) (hx : l[i]? = some x) (hp : P x) : ∀ (j : Nat) y, j < i + 1 → l[j]? = some y → P y := fun j y hj hy => by
 rcases Nat.lt_succ_iff_lt_or_eq.1 hj with h1 | h1
 ·exact h j y h1 hy
 ·subst h1; rw [hx] at hy; cases hy; exact hp
def AZ {α : Type} (p : α → Bool) : List α → Int
 | [] => -1
 | x :: l => if p x then 0 else if AZ p l < 0 then -1 else AZ p l + 1
theorem Dn {α : Type} {p : α → Bool} : ∀ {l : List α} {i : Nat} {x : α}, (∀ j y, j < i → l[j]? = some y → p y = false) → l[i]? = some x → p x = true → AZ p l = i
 | y :: l, 0, x, _, hx, hp => by simp at hx; subst hx; simp [AZ, hp]
 | y :: l, i + 1, x, h, hx, hp => by
  have h0 := h 0 y (by omega) rfl
  have ih := Dn (l := l) (i := i) (fun j z hj hz => h (j + 1) z (by omega) (by simpa using hz)) (by simpa using hx) hp
  simp only [AZ, h0, ih]
  simp; omega
theorem Cd {α : Type} {p : α → Bool} : ∀ {l : List α}, (∀ (j : Nat) y, j < l.length → l[j]? = some y → p y = false) → AZ p l = -1
 | [], _ => rfl
 | y :: l, h => by
  have h0 := h 0 y (by simp) rfl
  have ih := Cd (l := l) (fun j z hj hz => h (j + 1) z (by simpa using hj) (by simpa using hz))
  simp [AZ, h0, ih]
theorem C3 {α : Type} {p : α → Bool} : ∀ (l : List α), 0 ≤ AZ p l ↔ l.any p = true
 | [] => by simp [AZ]
 | y :: l => by
  have ih := C3 (p := p) l
  by_cases hy : p y = true
  ·simp [AZ, hy]
  ·simp only [AZ, hy, List.any_cons, Bool.false_or, if_false, Bool.false_eq_true, ← ih, eq_self]
   split <;> omega
theorem DP {α : Type} {p : α → Bool} (l : List α) : decide (0 ≤ AZ p l) = l.any p := by
 rw [Bool.eq_iff_iff, decide_eq_true_eq, C3]
theorem KB (n : Nat) (l : List D) : C.lowL n (l.map .d) = true := by induction l with | nil => rfl | cons a l ih => simp [C.lowL, C.low, ih]
theorem KC (l : List D) : CR (l.map C.d) = some l := by
 induction l with
 | nil => rfl
 | cons a l ih => simp [CR, toD, ih]
set_option maxHeartbeats 1000000 in
theorem aPY (l : List Int) (g : Nat) (caps : List C) (p : Int → Bool) (H : List AB) (hH : H.all (AB.low H.length) = true) (hcaps : C.lowL H.length caps = true)
  (hp : ∀ x ∈ l, Ae Tryz.prog g (I x :: caps.map .c) H (one (B (p x)) H)) : Ae Tryz.prog 234 [ints l, .c (.fn (.func g) caps)] H (one (I (AZ p l)) H) := by
 refine Cv (X := tx) (nt := 19) (rs := [.tmp 4]) Tryz.func234 rfl rfl rfl rfl mo (by kernel_rfl) rfl hH (fun hf => ?_)
 have hfit : l.length ≤ 140737488355328 := Fz (hf (ints l) (by simp))
 simp (maxSteps := 2000000) only [go_sem, reduceIte, Nat.reduceEqDiff, Int.reduceNeg, AS, AT, AU, AV, AW, ints, iD]
 refine go_loop (fun i : Nat => { slots := [(0, ints l), (1, .c (.fn (.func g) caps)), (7, I l.length), (8, I i)], heap := H, marks := [] }) (fun i => i ≤ l.length ∧ ∀ j x, j < i → l[j]? = some x → p x = false) (fun i => l.length - i) 0 mo (by kernel_rfl) ?_ ⟨Nat.zero_le _, by intro j r h; omega⟩ ?_
 ·refine ent_weaken [] (by simp) rfl (Nat.le_refl _) hH rfl ?_
  simp (maxSteps := 2000000) only [go_sem, reduceIte, Nat.reduceEqDiff, AS, AT, AU, AV, AW, hcaps, ints, iD]
  all_goals first | exact .refl _ | exact ⟨.refl _, .refl _⟩ | exact ⟨.refl _, .refl _, .refl _⟩ | exact ⟨.refl _, _, rfl⟩ | exact ⟨_, rfl⟩ | exact ⟨.refl _, [], by simp⟩ | exact ⟨[], by simp⟩
 rintro i ⟨hi, hall⟩
 simp (maxSteps := 2000000) only [go_sem, reduceIte, Nat.reduceEqDiff, Int.reduceNeg, AS, AT, AU, AV, AW, ints, iD]
 refine go_if (fun h => ?_) (fun h => ?_)
 ·have hlt : i < l.length := by simpa using h
  obtain ⟨x, hx⟩ := Bm hlt
  have hpx := hp x (List.mem_of_getElem? hx)
  simp only [I] at hpx
  simp (maxSteps := 2000000) only [go_sem, reduceIte, Nat.reduceEqDiff, Int.reduceNeg, AS, AT, AU, AV, AW, hx, ints, iD]
  refine ⟨by simp [hlt], ?_⟩
  refine Az (hpx) rfl rfl (by first | exact wk_refls _ | (repeat constructor)) ?_
  simp (maxSteps := 2000000) only [go_sem, reduceIte, Nat.reduceEqDiff, Int.reduceNeg, AS, AT, AU, AV, AW]
  refine go_if (fun hb => ?_) (fun hb => ?_)
  ·simp (maxSteps := 2000000) only [go_sem, reduceIte, Nat.reduceEqDiff, Int.reduceNeg, AS, AT, AU, AV, AW]
   have e : AZ p l = i := Dn hall hx hb
   rw [e]
   exact ⟨.refl _, [], by simp⟩
  ·simp (maxSteps := 2000000) only [go_sem, reduceIte, Nat.reduceEqDiff, Int.reduceNeg, AS, AT, AU, AV, AW, An hlt hfit]
   refine ⟨i + 1, ⟨hlt, CL hall hx hb⟩, by omega, ?_⟩
   refine ent_weaken [] (by simp) rfl (Nat.le_refl _) hH rfl ?_
   simp (maxSteps := 2000000) only [go_sem, reduceIte, Nat.reduceEqDiff, AS, AT, AU, AV, AW, hcaps]
 ·have hi' : i = l.length := by simp at h; omega
  have e : AZ p l = -1 := Cd (fun j x hj hx => hall j x (by omega) hx)
  simp (maxSteps := 2000000) only [go_sem, reduceIte, Nat.reduceEqDiff, Int.reduceNeg, AS, AT, AU, AV, AW]
  rw [e]
  exact ⟨.refl _, [], by simp⟩
set_option maxHeartbeats 1000000 in
theorem aPZ (l : List Int) (g : Nat) (caps : List C) (p : Int → Bool) (H : List AB) (hH : H.all (AB.low H.length) = true) (hcaps : C.lowL H.length caps = true)
  (hp : ∀ x ∈ l, Ae Tryz.prog g (I x :: caps.map .c) H (one (B (p x)) H)) : Ae Tryz.prog 152 [ints l, .c (.fn (.func g) caps)] H (one (B (l.any p)) H) := by
 refine Cv (X := tx) (nt := 9) (rs := [.tmp 4]) Tryz.func152 rfl rfl rfl rfl mo (by kernel_rfl) rfl hH (fun hf => ?_)
 simp (maxSteps := 2000000) only [go_sem, reduceIte, Nat.reduceEqDiff, AS, AT, AU, AV, AW]
 refine Az (aPY l g caps p H hH hcaps hp) rfl rfl (by first | exact wk_refls _ | (repeat constructor)) ?_
 simp (maxSteps := 2000000) only [go_sem, reduceIte, Nat.reduceEqDiff, AS, AT, AU, AV, AW]
 rw [DP]
 exact ⟨.refl _, [], by simp⟩
set_option maxHeartbeats 1000000 in
theorem aP0 (l : List Rg) (g : Nat) (caps : List C) (p : Rg → Bool) (H : List AB) (hH : H.all (AB.low H.length) = true) (hcaps : C.lowL H.length caps = true)
  (hp : ∀ x ∈ l, Ae Tryz.prog g (rgV x :: caps.map .c) H (one (B (p x)) H)) : Ae Tryz.prog 309 [rgs l, .c (.fn (.func g) caps)] H (one (I (AZ p l)) H) := by
 refine Cv (X := tx) (nt := 19) (rs := [.tmp 4]) Tryz.func309 rfl rfl rfl rfl mo (by kernel_rfl) rfl hH (fun hf => ?_)
 have hfit : l.length ≤ 140737488355328 := aFB (hf (rgs l) (by simp))
 simp (maxSteps := 2000000) only [go_sem, reduceIte, Nat.reduceEqDiff, Int.reduceNeg, AS, AT, AU, AV, AW, rgs, rgD]
 refine go_loop (fun i : Nat => { slots := [(0, rgs l), (1, .c (.fn (.func g) caps)), (7, I l.length), (8, I i)], heap := H, marks := [] }) (fun i => i ≤ l.length ∧ ∀ j x, j < i → l[j]? = some x → p x = false) (fun i => l.length - i) 0 mo (by kernel_rfl) ?_ ⟨Nat.zero_le _, by intro j r h; omega⟩ ?_
 ·refine ent_weaken [] (by simp) rfl (Nat.le_refl _) hH rfl ?_
  simp (maxSteps := 2000000) only [go_sem, reduceIte, Nat.reduceEqDiff, AS, AT, AU, AV, AW, hcaps, rgs, rgD]
  all_goals first | exact .refl _ | exact ⟨.refl _, .refl _⟩ | exact ⟨.refl _, .refl _, .refl _⟩ | exact ⟨.refl _, _, rfl⟩ | exact ⟨_, rfl⟩ | exact ⟨.refl _, [], by simp⟩ | exact ⟨[], by simp⟩
 rintro i ⟨hi, hall⟩
 simp (maxSteps := 2000000) only [go_sem, reduceIte, Nat.reduceEqDiff, Int.reduceNeg, AS, AT, AU, AV, AW, rgs, rgD]
 refine go_if (fun h => ?_) (fun h => ?_)
 ·have hlt : i < l.length := by simpa using h
  obtain ⟨x, hx⟩ := Bm hlt
  have hpx := hp x (List.mem_of_getElem? hx)
  simp only [rgV, rgC] at hpx
  simp (maxSteps := 2000000) only [go_sem, reduceIte, Nat.reduceEqDiff, Nat.reduceAdd, Int.reduceNeg, AS, AT, AU, AV, AW, hx, rgs, rgD]
  refine ⟨by simp [hlt], ?_⟩
  refine Az (hpx) rfl rfl (by first | exact wk_refls _ | (repeat constructor)) ?_
  simp (maxSteps := 2000000) only [go_sem, reduceIte, Nat.reduceEqDiff, Int.reduceNeg, AS, AT, AU, AV, AW]
  refine go_if (fun hb => ?_) (fun hb => ?_)
  ·simp (maxSteps := 2000000) only [go_sem, reduceIte, Nat.reduceEqDiff, Int.reduceNeg, AS, AT, AU, AV, AW]
   have e : AZ p l = i := Dn hall hx hb
   rw [e]
   exact ⟨.refl _, [], by simp⟩
  ·simp (maxSteps := 2000000) only [go_sem, reduceIte, Nat.reduceEqDiff, Int.reduceNeg, AS, AT, AU, AV, AW, An hlt hfit]
   refine ⟨i + 1, ⟨hlt, CL hall hx hb⟩, by omega, ?_⟩
   refine ent_weaken [] (by simp) rfl (Nat.le_refl _) hH rfl ?_
   simp (maxSteps := 2000000) only [go_sem, reduceIte, Nat.reduceEqDiff, AS, AT, AU, AV, AW, hcaps]
 ·have hi' : i = l.length := by simp at h; omega
  have e : AZ p l = -1 := Cd (fun j x hj hx => hall j x (by omega) hx)
  simp (maxSteps := 2000000) only [go_sem, reduceIte, Nat.reduceEqDiff, Int.reduceNeg, AS, AT, AU, AV, AW]
  rw [e]
  exact ⟨.refl _, [], by simp⟩
set_option maxHeartbeats 1000000 in
theorem aP1 (l : List Rg) (g : Nat) (caps : List C) (p : Rg → Bool) (H : List AB) (hH : H.all (AB.low H.length) = true) (hcaps : C.lowL H.length caps = true)
  (hp : ∀ x ∈ l, Ae Tryz.prog g (rgV x :: caps.map .c) H (one (B (p x)) H)) : Ae Tryz.prog 232 [rgs l, .c (.fn (.func g) caps)] H (one (B (l.any p)) H) := by
 refine Cv (X := tx) (nt := 9) (rs := [.tmp 4]) Tryz.func232 rfl rfl rfl rfl mo (by kernel_rfl) rfl hH (fun hf => ?_)
 simp (maxSteps := 2000000) only [go_sem, reduceIte, Nat.reduceEqDiff, AS, AT, AU, AV, AW]
 refine Az (aP0 l g caps p H hH hcaps hp) rfl rfl (by first | exact wk_refls _ | (repeat constructor)) ?_
 simp (maxSteps := 2000000) only [go_sem, reduceIte, Nat.reduceEqDiff, AS, AT, AU, AV, AW]
 rw [DP]
 exact ⟨.refl _, [], by simp⟩
set_option maxHeartbeats 1000000 in
theorem aP2 (l : List Bool) (b : Bool) : BA Tryz.prog 376 [Et l, B b] (I (AZ (fun x => x == b) l)) := by
 refine JB (X := tx) (nt := 19) (rs := [.tmp 4]) Tryz.func376 rfl rfl rfl rfl mo (by kernel_rfl) rfl rfl (fun hf => ?_)
 have hfit : l.length ≤ 140737488355328 := Vi (hf (Et l) (by simp))
 simp (maxSteps := 2000000) only [go_sem, reduceIte, Nat.reduceEqDiff, Int.reduceNeg, AS, AT, AU, AV, AW, Et, bD]
 refine go_loop (fun i : Nat => { slots := [(0, Et l), (1, B b), (7, I l.length), (8, I i)], heap := [], marks := [] }) (fun i => i ≤ l.length ∧ ∀ j x, j < i → l[j]? = some x → (x == b) = false) (fun i => l.length - i) 0 mo (by kernel_rfl) ?_ ⟨Nat.zero_le _, by intro j r h; omega⟩ ?_
 ·refine ent_weaken [] rfl rfl (Nat.zero_le _) rfl rfl ?_
  simp (maxSteps := 2000000) only [go_sem, reduceIte, Nat.reduceEqDiff, AS, AT, AU, AV, AW, Et, bD]
  all_goals first | exact .refl _ | exact ⟨.refl _, .refl _⟩ | exact ⟨.refl _, .refl _, .refl _⟩ | exact ⟨.refl _, _, rfl⟩ | exact ⟨_, rfl⟩ | exact ⟨.refl _, [], by simp⟩ | exact ⟨[], by simp⟩
 rintro i ⟨hi, hall⟩
 simp (maxSteps := 2000000) only [go_sem, reduceIte, Nat.reduceEqDiff, Int.reduceNeg, AS, AT, AU, AV, AW, Et, bD]
 refine go_if (fun h => ?_) (fun h => ?_)
 ·have hlt : i < l.length := by simpa using h
  obtain ⟨x, hx⟩ := Bm hlt
  simp (maxSteps := 2000000) only [go_sem, reduceIte, Nat.reduceEqDiff, Int.reduceNeg, AS, AT, AU, AV, AW, hx, nn, hlt, bD]
  refine ⟨by simp [hlt], ?_⟩
  cases hb : (x == b) with
  | true =>
   have e : AZ (fun x => x == b) l = i := Dn hall hx hb
   have hb2 : x = b := by simpa using hb
   subst hb2
   simp (maxSteps := 2000000) only [go_sem, reduceIte, Nat.reduceEqDiff, Int.reduceNeg, AS, AT, AU, AV, AW, e, beq_self_eq_true]
   all_goals first | exact .refl _ | exact ⟨.refl _, .refl _⟩ | exact ⟨.refl _, .refl _, .refl _⟩ | exact ⟨.refl _, _, rfl⟩ | exact ⟨_, rfl⟩ | exact ⟨.refl _, [], by simp⟩ | exact ⟨[], by simp⟩
  | false =>
   have hb3 : (b == x) = false := by rw [← hb]; cases x <;> cases b <;> rfl
   have hb2 : ¬ b = x := by simpa using hb3
   simp (maxSteps := 2000000) only [go_sem, reduceIte, Nat.reduceEqDiff, Int.reduceNeg, AS, AT, AU, AV, AW, hb3, An hlt hfit]
   refine ⟨i + 1, ⟨hlt, CL hall hx hb⟩, by omega, ?_⟩
   refine ent_weaken [] rfl rfl (Nat.zero_le _) rfl rfl ?_
   simp (maxSteps := 2000000) only [go_sem, reduceIte, Nat.reduceEqDiff, AS, AT, AU, AV, AW]
 ·have hi' : i = l.length := by simp at h; omega
  have e : AZ (fun x => x == b) l = -1 := Cd (fun j x hj hx => hall j x (by omega) hx)
  simp (maxSteps := 2000000) only [go_sem, reduceIte, Nat.reduceEqDiff, Int.reduceNeg, AS, AT, AU, AV, AW, e]
theorem aP3 (l : List Bool) (b : Bool) : BA Tryz.prog 310 [Et l, B b] (B (l.any fun x => x == b)) := by
 refine pure_wkE (bad := []) (kp := aDx) (X := tx) (nt := 9) (rs := [.tmp 4]) Tryz.func310 rfl rfl rfl rfl mo (by kernel_rfl) rfl rfl (fun hf => ?_)
 simp (maxSteps := 2000000) only [go_sem, reduceIte, Nat.reduceEqDiff, Nat.reduceAdd, AS, AT, AU, AV, AW]
 refine Aj (aP2 l b) rfl rfl (by first | exact wk_refls _ | (repeat constructor)) ?_
 simp (maxSteps := 2000000) only [go_sem, reduceIte, Nat.reduceEqDiff, AS, AT, AU, AV, AW]
 rw [DP]
 exact .refl _
theorem aP4 (top : Int) (r : Rg) : Ae Tryz.prog 233 [rgV r, .c (.ptr 0 0)] [.cells [.d (.int .i64 top)]] (one (B (!rgB top r)) [.cells [.d (.int .i64 top)]]) := by
 refine acall_atE (bad := []) (kp := aDt) (X := tx) (nt := 20) (rs := [.tmp 3]) Tryz.func233 rfl rfl rfl rfl mo (by kernel_rfl) rfl rfl (fun hf => ?_)
 by_cases h1 : r.lo < 0
 ·have e : rgB top r = false := by simp [rgB, h1]
  simp (maxSteps := 2000000) only [go_sem, reduceIte, Nat.reduceEqDiff, Nat.reduceAdd, Nat.reduceLeDiff, Nat.reduceBEq, AS, AT, AU, AV, AW, rgV, rgC, h1, e]
  all_goals first | exact .refl _ | exact ⟨.refl _, .refl _⟩ | exact ⟨.refl _, .refl _, .refl _⟩ | exact ⟨.refl _, _, rfl⟩ | exact ⟨_, rfl⟩ | exact ⟨.refl _, [], by simp⟩ | exact ⟨[], by simp⟩
 ·by_cases h2 : r.hi < r.lo
  ·have e : rgB top r = false := by simp [rgB, h2]
   simp (maxSteps := 2000000) only [go_sem, reduceIte, Nat.reduceEqDiff, Nat.reduceAdd, Nat.reduceLeDiff, Nat.reduceBEq, AS, AT, AU, AV, AW, rgV, rgC, h1, h2, e]
   all_goals first | exact .refl _ | exact ⟨.refl _, .refl _⟩ | exact ⟨.refl _, .refl _, .refl _⟩ | exact ⟨.refl _, _, rfl⟩ | exact ⟨_, rfl⟩ | exact ⟨.refl _, [], by simp⟩ | exact ⟨[], by simp⟩
  ·have e : rgB top r = !decide (top < r.hi) := by simp [rgB, h1, h2]
   simp (maxSteps := 2000000) only [go_sem, reduceIte, Nat.reduceEqDiff, Nat.reduceAdd, Nat.reduceLeDiff, Nat.reduceBEq, AS, AT, AU, AV, AW, rgV, rgC, h1, h2, e, Bool.not_not]
   all_goals first | exact .refl _ | exact ⟨.refl _, .refl _⟩ | exact ⟨.refl _, .refl _, .refl _⟩ | exact ⟨.refl _, _, rfl⟩ | exact ⟨_, rfl⟩ | exact ⟨.refl _, [], by simp⟩ | exact ⟨[], by simp⟩
theorem aDy (top : Int) (l : List Rg) : BA Tryz.prog 151 [I top, rgs l] (B (l.all (rgB top))) := by
 refine pure_wkE (bad := []) (kp := aDu) (X := tx) (nt := 9) (rs := [.tmp 4]) Tryz.func151 rfl rfl rfl rfl mo (by kernel_rfl) rfl rfl (fun hf => ?_)
 simp (maxSteps := 2000000) only [go_sem, reduceIte, Nat.reduceEqDiff, Nat.reduceAdd, AS, AT, AU, AV, AW, rgs]
 refine Az (aP1 l 233 [.ptr 0 0] (fun r => !rgB top r) [.cells [.d (.int .i64 top)]] rfl rfl (fun x _ => aP4 top x)) rfl rfl (by first | exact wk_refls _ | (repeat constructor)) ?_
 simp (maxSteps := 2000000) only [go_sem, reduceIte, Nat.reduceEqDiff, AS, AT, AU, AV, AW]
 rw [show l.any (fun r => !rgB top r) = !l.all (rgB top) by rw [List.not_all_eq_any_not], Bool.not_not]
 all_goals first | exact .refl _ | exact ⟨.refl _, .refl _⟩ | exact ⟨.refl _, .refl _, .refl _⟩ | exact ⟨.refl _, _, rfl⟩ | exact ⟨_, rfl⟩ | exact ⟨.refl _, [], by simp⟩ | exact ⟨[], by simp⟩
theorem aH0 (w : Int) : BA Tryz.prog 153 [I w] (B (Gg w)) := by
 refine pure_wkE (bad := []) (kp := aDv) (X := tx) (nt := 9) (rs := [.tmp 2]) Tryz.func153 rfl rfl rfl rfl mo (by kernel_rfl) rfl rfl (fun hf => ?_)
 by_cases h : w < 0
 ·simp (maxSteps := 2000000) only [go_sem, reduceIte, Nat.reduceEqDiff, Nat.reduceAdd, AS, AT, AU, AV, AW, h, Gg]
 ·simp (maxSteps := 2000000) only [go_sem, reduceIte, Nat.reduceEqDiff, Nat.reduceAdd, AS, AT, AU, AV, AW, h, Gg]
theorem aDz (top : Int) (r : Rg) : BA Tryz.prog 143 [rgV r, I top] (B (rgB top r)) := by
 refine pure_wkE (bad := []) (kp := aDw) (X := tx) (nt := 21) (rs := [.tmp 4]) Tryz.func143 rfl rfl rfl rfl mo (by kernel_rfl) rfl rfl (fun hf => ?_)
 by_cases h1 : r.lo < 0
 ·have e : rgB top r = false := by simp [rgB, h1]
  have h1' : ¬ 0 ≤ r.lo := by omega
  simp (maxSteps := 2000000) only [go_sem, reduceIte, Nat.reduceEqDiff, Nat.reduceAdd, Nat.reduceLeDiff, Nat.reduceBEq, AS, AT, AU, AV, AW, rgV, rgC, h1', e]
 ·have h1' : 0 ≤ r.lo := by omega
  by_cases h2 : r.hi < r.lo
  ·have e : rgB top r = false := by simp [rgB, h2]
   have h2' : ¬ r.lo ≤ r.hi := by omega
   simp (maxSteps := 2000000) only [go_sem, reduceIte, Nat.reduceEqDiff, Nat.reduceAdd, Nat.reduceLeDiff, Nat.reduceBEq, AS, AT, AU, AV, AW, rgV, rgC, h1', h2', e]
  ·have e : rgB top r = decide (r.hi ≤ top) := by rw [Bool.eq_iff_iff, OB, decide_eq_true_eq]; omega
   have h2' : r.lo ≤ r.hi := by omega
   simp (maxSteps := 2000000) only [go_sem, reduceIte, Nat.reduceEqDiff, Nat.reduceAdd, Nat.reduceLeDiff, Nat.reduceBEq, AS, AT, AU, AV, AW, rgV, rgC, h1', h2', e]
end Go.Proofs.YtfgdbeijjbijnaaGreatDoor.Zo
set_option linter.unusedSimpArgs false
set_option linter.unusedVariables false
set_option maxRecDepth 100000
namespace Go.Proofs.YtfgdbeijjbijnaaGreatDoor.Zo
open Go Go.Abs Go.Proofs
def E8 : List (Nat × List Nat) := [(0, [1]), (1, [1, 3]), (2, [1, 3, 15]), (3, [2]), (4, [1, 3, 4]), (5, [1, 3, 4, 17, 18, 19]), (6, [1, 3, 4, 17, 18, 19, 20]), (7, [1, 3, 4, 6, 17, 18, 19]), (8, [1, 3, 6, 17, 18, 19, 29]), (9, [2]), (10, [1, 3, 4, 17, 18, 19]), (11, [1, 3, 4, 17, 18, 19]), (12, [1, 32]), (13, [2]), (14, [59]), (15, [2]), (16, [2])]
theorem Fh : lookK E8 0 = some [1] ∧ lookK E8 1 = some [1, 3] ∧ lookK E8 2 = some [1, 3, 15] ∧ lookK E8 3 = some [2] ∧ lookK E8 4 = some [1, 3, 4] ∧ lookK E8 5 = some [1, 3, 4, 17, 18, 19] ∧ lookK E8 6 = some [1, 3, 4, 17, 18, 19, 20] ∧ lookK E8 7 = some [1, 3, 4, 6, 17, 18, 19] ∧ lookK E8 8 = some [1, 3, 6, 17, 18, 19, 29] ∧ lookK E8 9 = some [2] ∧ lookK E8 10 = some [1, 3, 4, 17, 18, 19] ∧ lookK E8 11 = some [1, 3, 4, 17, 18, 19] ∧ lookK E8 12 = some [1, 32] ∧ lookK E8 13 = some [2] ∧ lookK E8 14 = some [59] ∧ lookK E8 15 = some [2] ∧ lookK E8 16 = some [2] := ⟨rfl, rfl, rfl, rfl, rfl, rfl, rfl, rfl, rfl, rfl, rfl, rfl, rfl, rfl, rfl, rfl, rfl⟩
theorem KZ (l : List Int) (i : Nat) : prv l (i + 1) = gI l i := by simp [prv]
theorem K0 (l : List Int) : prv l 0 = -1 := by simp [prv]
theorem F8 {l : La} (h : l.an.length < 2 ∨ 10 < l.an.length) : CF l = 6 := by unfold CF; rw [if_pos h]
theorem Qn {l : La} (h1 : ¬ l.an.length < 2) (h2 : ¬ 10 < l.an.length) {i : Nat} (hi : i < l.an.length) (hb : Ds l.an i = true) (hall : ∀ j, j < i → Ds l.an j = false) : CF l = 2 := by
 unfold CF; rw [if_neg (by omega), DM hb hall hi, if_pos hi]
theorem M9 {l : La} (h1 : ¬ l.an.length < 2) (h2 : ¬ 10 < l.an.length) (hall : ∀ j, j < l.an.length → Ds l.an j = false) :
  CF l = if ¬ (l.li.length = l.an.length ∧ l.fa.length + 1 = l.an.length ∧ (l.we.length : Int) = gI l.an (l.an.length - 1) - gI l.an 0 + 1) then 15 else if l.li.all (rgB 200) = true ∧ l.we.any Gg = false then 0 else 2 := by
 unfold CF; rw [if_neg (by omega), DR hall, if_neg (Nat.lt_irrefl _)]
set_option maxHeartbeats 2000000 in
theorem aDA (l : La) : BA Tryz.prog 68 [laV l] (I (CF l)) := by
 refine pure_wkE (bad := []) (kp := E8) (X := tx) (nt := 69) (rs := [.tmp 2]) Tryz.func68 rfl rfl rfl rfl mo (by kernel_rfl) rfl rfl (fun hf => ?_)
 by_cases h1 : l.an.length < 2
 ·have h1' : (l.an.length : Int) < 2 := by omega
  simp (maxSteps := 2000000) only [go_sem, reduceIte, Nat.reduceEqDiff, Nat.reduceAdd, Nat.reduceLeDiff, Nat.reduceBEq, Int.reduceNeg, Fh, laV, laC, h1', F8 (.inl h1)]
 have h1' : ¬ (l.an.length : Int) < 2 := by omega
 by_cases h2 : 10 < l.an.length
 ·have h2' : (10 : Int) < l.an.length := by omega
  simp (maxSteps := 2000000) only [go_sem, reduceIte, Nat.reduceEqDiff, Nat.reduceAdd, Nat.reduceLeDiff, Nat.reduceBEq, Int.reduceNeg, Fh, laV, laC, h1', h2', F8 (.inr h2)]
 have h2' : ¬ (10 : Int) < l.an.length := by omega
 simp (maxSteps := 2000000) only [go_sem, reduceIte, Nat.reduceEqDiff, Nat.reduceAdd, Nat.reduceLeDiff, Nat.reduceBEq, Int.reduceNeg, Fh, laV, laC, h1', h2']
 refine goE_loop (bad := []) (kp := E8) (fun i : Nat => { slots := [(1, .c (.ptr 0 0)), (3, I l.an.length), (4, I (prv l.an i)), (17, ints l.an), (18, I l.an.length), (19, I i)], heap := [.cells (laC l)], marks := [] }) (fun i => i ≤ l.an.length ∧ ∀ j, j < i → Ds l.an j = false) (fun i => l.an.length - i) 0 mo (by kernel_rfl) ?_ ⟨Nat.zero_le _, by intro j h; omega⟩ ?_
 ·refine ent_weaken [] rfl rfl (Nat.zero_le _) rfl rfl ?_
  simp (maxSteps := 2000000) only [go_sem, reduceIte, Nat.reduceEqDiff, Nat.reduceLT, Int.reduceNeg, Fh, laC, ints, K0]
  all_goals first | exact .refl _ | exact ⟨.refl _, .refl _⟩ | exact ⟨.refl _, .refl _, .refl _⟩ | exact ⟨.refl _, _, rfl⟩ | exact ⟨_, rfl⟩ | exact ⟨.refl _, [], by simp⟩ | exact ⟨[], by simp⟩
 rintro i ⟨hi, hall⟩
 simp (maxSteps := 2000000) only [go_sem, reduceIte, Nat.reduceEqDiff, Nat.reduceAdd, Fh, laC, ints]
 by_cases hlt : i < l.an.length
 ·have hlt' : (i : Int) < l.an.length := by omega
  have g1 := gI_lt hlt
  cases hb : Ds l.an i with
  | true =>
   have e := Qn h1 h2 hlt hb hall
   by_cases hc : gI l.an i ≤ prv l.an i
   ·simp (maxSteps := 2000000) only [go_sem, reduceIte, Nat.reduceEqDiff, Nat.reduceAdd, Fh, hlt', nn, g1, iD, hc, e]
   ·have hc2 : 90 < gI l.an i := by simpa [Ds, hc] using hb
    simp (maxSteps := 2000000) only [go_sem, reduceIte, Nat.reduceEqDiff, Nat.reduceAdd, Fh, hlt', nn, g1, iD, hc, hc2, e]
  | false =>
   have hc : ¬ gI l.an i ≤ prv l.an i := by intro h; simp [Ds, h] at hb
   have hc2 : ¬ 90 < gI l.an i := by intro h; simp [Ds, h] at hb
   have w7 := An hlt (show l.an.length ≤ 140737488355328 by omega)
   have m1 : l.an.length - (i + 1) < l.an.length - i := by omega
   simp (maxSteps := 2000000) only [go_sem, reduceIte, Nat.reduceEqDiff, Nat.reduceAdd, Fh, hlt', nn, g1, iD, hc, hc2, w7]
   refine ⟨i + 1, ⟨hlt, fun j hj => ?_⟩, m1, ?_⟩
   ·by_cases e : j = i
    ·subst e; exact hb
    ·exact hall j (by omega)
   refine ent_weaken [] rfl rfl (Nat.zero_le _) rfl rfl ?_
   simp (maxSteps := 2000000) only [go_sem, reduceIte, Nat.reduceEqDiff, Nat.reduceLT, Fh, laC, ints, KZ]
   all_goals first | exact .refl _ | exact ⟨.refl _, .refl _⟩ | exact ⟨.refl _, .refl _, .refl _⟩ | exact ⟨.refl _, _, rfl⟩ | exact ⟨_, rfl⟩ | exact ⟨.refl _, [], by simp⟩ | exact ⟨[], by simp⟩
 ·have hlt' : ¬ (i : Int) < l.an.length := by omega
  have ei : i = l.an.length := by omega
  subst ei
  have e := M9 h1 h2 hall
  obtain ⟨c1, c2⟩ := E5 hall
  have z0 := c1 0 (by omega)
  have zn := c1 (l.an.length - 1) (by omega)
  have g0 := gI_lt (l := l.an) (i := 0) (by omega)
  have p0 : (0 : Int) < l.an.length := by omega
  have ep : prv l.an l.an.length = gI l.an (l.an.length - 1) := by unfold prv; rw [if_neg (by omega)]
  have hw := aDy 200 l.li
  have hb := aPZ l.we 153 [] Gg [.cells (laC l)] rfl rfl (fun x _ => (aH0 x).at _)
  by_cases k1 : l.li.length = l.an.length
  case neg =>
   have k1' : ¬ (l.li.length : Int) = l.an.length := by omega
   rw [if_pos (fun h => k1 h.1)] at e
   simp (maxSteps := 2000000) only [go_sem, reduceIte, Nat.reduceEqDiff, Nat.reduceAdd, Nat.reduceLeDiff, Nat.reduceBEq, Fh, hlt', k1', e]
  have k1' : (l.li.length : Int) = l.an.length := by omega
  by_cases k2 : l.fa.length + 1 = l.an.length
  case neg =>
   have k2' : ¬ (l.fa.length : Int) = (l.an.length : Int) - 1 := by omega
   rw [if_pos (fun h => k2 h.2.1)] at e
   have w1 : wr .i64 ((l.an.length : Int) - 1) = (l.an.length : Int) - 1 := CO (by omega)
   simp (maxSteps := 2000000) only [go_sem, reduceIte, Nat.reduceEqDiff, Nat.reduceAdd, Nat.reduceLeDiff, Nat.reduceBEq, Fh, hlt', k1', w1, k2', e]
  have k2' : (l.fa.length : Int) = (l.an.length : Int) - 1 := by omega
  have w1 : wr .i64 ((l.an.length : Int) - 1) = (l.an.length : Int) - 1 := CO (by omega)
  have w2 : wr .i64 (gI l.an (l.an.length - 1) - gI l.an 0) = gI l.an (l.an.length - 1) - gI l.an 0 := CO (by clear w1; omega)
  have w3 : wr .i64 (gI l.an (l.an.length - 1) - gI l.an 0 + 1) = gI l.an (l.an.length - 1) - gI l.an 0 + 1 := CO (by clear w1 w2; omega)
  by_cases k3 : (l.we.length : Int) = gI l.an (l.an.length - 1) - gI l.an 0 + 1
  case neg =>
   rw [if_pos (fun h => k3 h.2.2)] at e
   simp (maxSteps := 2000000) only [go_sem, reduceIte, Nat.reduceEqDiff, Nat.reduceAdd, Nat.reduceLeDiff, Nat.reduceBEq, Int.reduceLE, Int.reduceToNat, Fh, hlt', k1', w1, k2', g0, iD, p0, ep, w2, w3, k3, e]
  rw [if_neg (fun h => h ⟨k1, k2, k3⟩)] at e
  simp (maxSteps := 2000000) only [go_sem, Fh, laC, ints] at hb
  simp (maxSteps := 2000000) only [go_sem, reduceIte, Nat.reduceEqDiff, Nat.reduceAdd, Nat.reduceLeDiff, Nat.reduceBEq, Int.reduceLE, Int.reduceToNat, Fh, hlt', k1', w1, k2', g0, iD, p0, ep, w2, w3, k3]
  refine Aj (hw) rfl rfl (by first | exact wk_refls _ | (repeat constructor)) ?_
  cases hr : l.li.all (rgB 200) with
  | false =>
   rw [hr, if_neg (fun h => (by cases h.1))] at e
   simp (maxSteps := 2000000) only [go_sem, reduceIte, Nat.reduceEqDiff, Nat.reduceAdd, Fh, e]
  | true =>
   simp (maxSteps := 2000000) only [go_sem, reduceIte, Nat.reduceEqDiff, Nat.reduceAdd, Nat.reduceBEq, Fh]
   refine Az (hb) rfl rfl (by first | exact wk_refls _ | (repeat constructor)) ?_
   cases hq : l.we.any Gg with
   | false =>
    rw [hr, hq, if_pos ⟨rfl, rfl⟩] at e
    simp (maxSteps := 2000000) only [go_sem, reduceIte, Nat.reduceEqDiff, Nat.reduceAdd, Fh, e]
   | true =>
    rw [hr, hq, if_neg (fun h => (by cases h.2))] at e
    simp (maxSteps := 2000000) only [go_sem, reduceIte, Nat.reduceEqDiff, Nat.reduceAdd, Fh, e]
end Go.Proofs.YtfgdbeijjbijnaaGreatDoor.Zo
set_option linter.unusedSimpArgs false
set_option linter.unusedVariables false
set_option maxRecDepth 100000
namespace Go.Proofs.YtfgdbeijjbijnaaGreatDoor.Zo
open Go Go.Abs Go.Proofs
def Sn : List (Nat × List Nat) := [(0, [1, 2]), (1, [1, 2, 5]), (2, [1, 2, 5, 13]), (3, [1, 2, 5]), (4, [4])]
theorem Eg : lookK Sn 0 = some [1, 2] ∧ lookK Sn 1 = some [1, 2, 5] ∧ lookK Sn 2 = some [1, 2, 5, 13] ∧ lookK Sn 3 = some [1, 2, 5] ∧ lookK Sn 4 = some [4] := ⟨rfl, rfl, rfl, rfl, rfl⟩
def IQ : List (Nat × List Nat) := [(0, [1, 2, 3]), (1, [1, 2, 3, 7]), (2, [1, 2, 3, 7, 20]), (3, [6]), (4, [1, 2, 3, 21]), (5, [6]), (6, [6])]
theorem Co : lookK IQ 0 = some [1, 2, 3] ∧ lookK IQ 1 = some [1, 2, 3, 7] ∧ lookK IQ 2 = some [1, 2, 3, 7, 20] ∧ lookK IQ 3 = some [6] ∧ lookK IQ 4 = some [1, 2, 3, 21] ∧ lookK IQ 5 = some [6] ∧ lookK IQ 6 = some [6] := ⟨rfl, rfl, rfl, rfl, rfl, rfl, rfl⟩
def DE : List (Nat × List Nat) := [(0, [1, 2]), (1, [1, 2, 3]), (2, [1, 2, 4]), (3, [1, 2, 4, 11, 12]), (4, [1, 2, 4, 11, 12, 13]), (5, [1, 2, 4, 5, 11, 12]), (6, [1, 2, 4, 5, 6, 11, 12]), (7, [1, 2, 4, 5, 6, 11, 12, 21]), (8, [1, 2, 4, 5, 6, 11, 12]), (9, [1, 2, 4, 5, 6, 11, 12, 27]), (10, [2, 4]), (11, [1, 2, 4, 11, 12]), (12, [2])]
theorem Cp : lookK DE 0 = some [1, 2] ∧ lookK DE 1 = some [1, 2, 3] ∧ lookK DE 2 = some [1, 2, 4] ∧ lookK DE 3 = some [1, 2, 4, 11, 12] ∧ lookK DE 4 = some [1, 2, 4, 11, 12, 13] ∧ lookK DE 5 = some [1, 2, 4, 5, 11, 12] ∧ lookK DE 6 = some [1, 2, 4, 5, 6, 11, 12] ∧ lookK DE 7 = some [1, 2, 4, 5, 6, 11, 12, 21] ∧ lookK DE 8 = some [1, 2, 4, 5, 6, 11, 12] ∧ lookK DE 9 = some [1, 2, 4, 5, 6, 11, 12, 27] ∧ lookK DE 10 = some [2, 4] ∧ lookK DE 11 = some [1, 2, 4, 11, 12] ∧ lookK DE 12 = some [2] := ⟨rfl, rfl, rfl, rfl, rfl, rfl, rfl, rfl, rfl, rfl, rfl, rfl, rfl⟩
set_option maxHeartbeats 1000000 in
theorem aF8 (l : La) (d : Int) (hm : 2 ≤ l.an.length) (h11 : l.an.length ≤ 11) (hd : d ≤ gI l.an (l.an.length - 1)) : BA Tryz.prog 67 [laV l, I d] (I (E6 l d)) := by
 refine pure_wkE (bad := []) (kp := Sn) (X := tx) (nt := 17) (rs := [.tmp 4]) Tryz.func67 rfl rfl rfl rfl mo (by kernel_rfl) rfl rfl (fun hf => ?_)
 simp (maxSteps := 2000000) only [go_sem, reduceIte, Nat.reduceEqDiff, Nat.reduceAdd, Eg, Co, Cp, laV, laC]
 refine goE_loop (bad := []) (kp := Sn) (fun i : Nat => { slots := [(1, I d), (2, .c (.ptr 0 0)), (5, I i)], heap := [.cells (laC l)], marks := [] }) (fun i => i + 1 < l.an.length ∧ ∀ j, j < i → gI l.an (j + 1) < d) (fun i => l.an.length - i) 0 mo (by kernel_rfl) ?_ ⟨by omega, by intro j h; omega⟩ ?_
 ·refine ent_weaken [] rfl rfl (Nat.zero_le _) rfl rfl ?_
  simp (maxSteps := 2000000) only [go_sem, reduceIte, Nat.reduceEqDiff, Nat.reduceLT, Eg, Co, Cp, laC]
  all_goals first | exact .refl _ | exact ⟨.refl _, .refl _⟩ | exact ⟨.refl _, .refl _, .refl _⟩ | exact ⟨.refl _, _, rfl⟩ | exact ⟨_, rfl⟩ | exact ⟨.refl _, [], by simp⟩ | exact ⟨[], by simp⟩
 rintro i ⟨hi, hall⟩
 have hlt' : ((i + 1 : Nat) : Int) < l.an.length := by omega
 have g1 := gI_lt hi
 have hbig : l.an.length ≤ 140737488355328 := by omega
 have m1 : l.an.length - (i + 1) < l.an.length - i := by omega
 by_cases hc : gI l.an (i + 1) < d
 ·have hi2 : i + 1 + 1 < l.an.length := by
   by_cases e : i + 1 + 1 < l.an.length
   ·exact e
   ·have e2 : i + 1 = l.an.length - 1 := by omega
    rw [e2] at hc; omega
  have w7 := An (show i < l.an.length by omega) hbig
  simp (maxSteps := 2000000) only [go_sem, reduceIte, Nat.reduceEqDiff, Nat.reduceAdd, Nat.reduceLeDiff, Nat.reduceBEq, Eg, Co, Cp, laC, w7, nn, hlt', g1, iD, hc]
  refine ⟨i + 1, ⟨hi2, fun j hj => ?_⟩, m1, ?_⟩
  ·by_cases e : j = i
   ·subst e; exact hc
   ·exact hall j (by omega)
  refine ent_weaken [] rfl rfl (Nat.zero_le _) rfl rfl ?_
  simp (maxSteps := 2000000) only [go_sem, reduceIte, Nat.reduceEqDiff, Nat.reduceLT, Eg, Co, Cp, laC]
  all_goals first | exact .refl _ | exact ⟨.refl _, .refl _⟩ | exact ⟨.refl _, .refl _, .refl _⟩ | exact ⟨.refl _, _, rfl⟩ | exact ⟨_, rfl⟩ | exact ⟨.refl _, [], by simp⟩ | exact ⟨[], by simp⟩
 ·have e : E6 l d = i := DM (by simp; omega) (fun j hj => by have := hall j hj; simp; omega) (by omega)
  have w7 := An (show i < l.an.length by omega) hbig
  simp (maxSteps := 2000000) only [go_sem, reduceIte, Nat.reduceEqDiff, Nat.reduceAdd, Nat.reduceLeDiff, Nat.reduceBEq, Eg, Co, Cp, laC, w7, nn, hlt', g1, iD, hc, e]
set_option maxHeartbeats 1000000 in
theorem aDB (l : La) (h : Bc l) (i k : Nat) (hik : i < k) (hk : k < l.an.length) : BA Tryz.prog 235 [laV l, I i, I k] (B (KX l i k)) := by
 refine pure_wkE (bad := []) (kp := IQ) (X := tx) (nt := 48) (rs := [.tmp 6]) Tryz.func235 rfl rfl rfl rfl mo (by kernel_rfl) rfl rfl (fun hf => ?_)
 have hfa := h.fa
 have hli := h.li
 have i1 : (i : Int) < l.fa.length := by omega
 have k1 : (k : Int) ≤ l.fa.length := by omega
 have ik1 : (i : Int) ≤ k := by omega
 have i2 : (i : Int) < l.li.length := by omega
 have k2 : (k : Int) < l.li.length := by omega
 have g1 := M5 (l := l.fa) (i := i) (by omega)
 have g2 := M4 (l := l.li) (i := i) (by omega)
 have g3 := M4 (l := l.li) (i := k) (by omega)
 have hc := aP3 ((l.fa.take k).drop i) (!gB l.fa i)
 simp only [Et, List.map_drop, List.map_take] at hc
 simp (maxSteps := 2000000) only [go_sem, reduceIte, Nat.reduceEqDiff, Nat.reduceAdd, Nat.reduceLeDiff, Nat.reduceBEq, Eg, Co, Cp, laV, laC, nn, i1, k1, ik1, g1, bD]
 refine ⟨by simp, ?_⟩
 refine Aj (hc) rfl rfl (by first | exact wk_refls _ | (repeat constructor)) ?_
 have e : KX l i k = (!((l.fa.take k).drop i).any (fun x => x == !gB l.fa i) && (if gB l.fa i then decide (his l i < lis l k) else decide (his l k < lis l i))) := rfl
 cases hq : ((l.fa.take k).drop i).any (fun x => x == !gB l.fa i) with
 | true =>
  rw [hq] at e
  simp (maxSteps := 2000000) only [go_sem, reduceIte, Nat.reduceEqDiff, Nat.reduceAdd, Eg, Co, Cp, e]
 | false =>
  rw [hq] at e
  cases hf : gB l.fa i with
  | true =>
   rw [hf, if_pos rfl] at e
   simp (maxSteps := 2000000) only [go_sem, reduceIte, Nat.reduceEqDiff, Nat.reduceAdd, Nat.reduceLeDiff, Nat.reduceBEq, Eg, Co, Cp, nn, i2, k2, g2, g3, rgD, e, his, lis]
   all_goals first | exact .refl _ | exact ⟨.refl _, .refl _⟩ | exact ⟨.refl _, .refl _, .refl _⟩ | exact ⟨.refl _, _, rfl⟩ | exact ⟨_, rfl⟩ | exact ⟨.refl _, [], by simp⟩ | exact ⟨[], by simp⟩
  | false =>
   rw [hf, if_neg (by decide)] at e
   simp (maxSteps := 2000000) only [go_sem, reduceIte, Nat.reduceEqDiff, Nat.reduceAdd, Nat.reduceLeDiff, Nat.reduceBEq, Eg, Co, Cp, nn, i2, k2, g2, g3, rgD, e, his, lis]
   all_goals first | exact .refl _ | exact ⟨.refl _, .refl _⟩ | exact ⟨.refl _, .refl _, .refl _⟩ | exact ⟨.refl _, _, rfl⟩ | exact ⟨_, rfl⟩ | exact ⟨.refl _, [], by simp⟩ | exact ⟨[], by simp⟩
def DF (p : Nat × Nat) : List C := [.d (.int .i64 p.1), .d (.int .i64 p.2)]
def T7 (p : Nat × Nat) : V := .agg (DF p)
set_option maxHeartbeats 2000000 in
theorem aFC (l : La) (h : Bc l) : BA Tryz.prog 154 [laV l] (T7 (C6 l)) := by
 refine pure_wkE (bad := []) (kp := DE) (X := tx) (nt := 33) (rs := [.cell 2 249]) Tryz.func154 rfl rfl rfl rfl mo (by kernel_rfl) rfl rfl (fun hf => ?_)
 have hli := h.li
 have h11 := h.m11
 have elen : (l.li.length : Int) = l.an.length := by omega
 simp (maxSteps := 2000000) only [go_sem, reduceIte, Nat.reduceEqDiff, Nat.reduceAdd, Nat.reduceLeDiff, Nat.reduceBEq, Eg, Co, Cp, laV, laC, elen]
 refine goE_loop (bad := []) (kp := DE) (fun i : Nat => { slots := [(1, .c (.ptr 0 0)), (2, .c (.ptr 1 0)), (4, .c (.ptr 3 0)), (11, I l.an.length), (12, I i)], heap := [.cells (laC l), .cells (DF (0, 0)), .cells (DF (0, 0)), .cells (DF (0, 0))], marks := [] }) (fun i => i ≤ l.an.length ∧ ∀ j, j < i → ¬ Ql l j < l.an.length) (fun i => l.an.length - i) 0 mo (by kernel_rfl) ?_ ⟨Nat.zero_le _, by intro j h; omega⟩ ?_
 ·refine ent_weaken [] rfl rfl (Nat.zero_le _) rfl rfl ?_
  simp (maxSteps := 2000000) only [go_sem, reduceIte, Nat.reduceEqDiff, Nat.reduceAdd, Nat.reduceLT, Eg, Co, Cp, laC, DF]
  all_goals first | exact .refl _ | exact ⟨.refl _, .refl _⟩ | exact ⟨.refl _, .refl _, .refl _⟩ | exact ⟨.refl _, _, rfl⟩ | exact ⟨_, rfl⟩ | exact ⟨.refl _, [], by simp⟩ | exact ⟨[], by simp⟩
 rintro i ⟨hi, hall⟩
 have hbig : l.an.length ≤ 140737488355328 := by omega
 simp (maxSteps := 2000000) only [go_sem, reduceIte, Nat.reduceEqDiff, Nat.reduceAdd, Eg, Co, Cp, laC, DF]
 by_cases hlt : i < l.an.length
 case neg =>
  have hlt' : ¬ (i : Int) < l.an.length := by omega
  have ei : i = l.an.length := by omega
  subst ei
  have e : C6 l = (0, 0) := by
   unfold C6 cI
   rw [DR (fun j hj => by simpa using hall j hj), if_neg (Nat.lt_irrefl _)]
  simp (maxSteps := 2000000) only [go_sem, reduceIte, Nat.reduceEqDiff, Nat.reduceAdd, Eg, Co, Cp, hlt', e, T7, DF]
  all_goals first | exact .refl _ | exact ⟨.refl _, .refl _⟩ | exact ⟨.refl _, .refl _, .refl _⟩ | exact ⟨.refl _, _, rfl⟩ | exact ⟨_, rfl⟩ | exact ⟨.refl _, [], by simp⟩ | exact ⟨[], by simp⟩
 have hlt' : (i : Int) < l.an.length := by omega
 have m1 : l.an.length - (i + 1) < l.an.length - i := by omega
 have w7 := An hlt hbig
 simp (maxSteps := 2000000) only [go_sem, reduceIte, Nat.reduceEqDiff, Nat.reduceAdd, Eg, Co, Cp, hlt', w7]
 clear w7
 refine goE_loop (bad := []) (kp := DE) (fun k : Nat => { slots := [(1, .c (.ptr 0 0)), (2, .c (.ptr 1 0)), (4, .c (.ptr 3 0)), (5, I i), (6, I k), (11, I l.an.length), (12, I i)], heap := [.cells (laC l), .cells (DF (0, 0)), .cells (DF (0, 0)), .cells (DF (0, 0))], marks := [] }) (fun k => i + 1 ≤ k ∧ k ≤ l.an.length ∧ ∀ j, j < k → (decide (i < j) && KX l i j) = false) (fun k => l.an.length - k) (i + 1) mo (by kernel_rfl) ?_ ⟨Nat.le_refl _, hlt, (by intro j hj; have h0 : ¬ i < j := (by omega); simp [h0])⟩ ?_
 ·refine ent_weaken [] rfl rfl (Nat.zero_le _) rfl rfl ?_
  simp (maxSteps := 2000000) only [go_sem, reduceIte, Nat.reduceEqDiff, Nat.reduceAdd, Nat.reduceLT, Eg, Co, Cp, laC, DF]
  all_goals first | exact .refl _ | exact ⟨.refl _, .refl _⟩ | exact ⟨.refl _, .refl _, .refl _⟩ | exact ⟨.refl _, _, rfl⟩ | exact ⟨_, rfl⟩ | exact ⟨.refl _, [], by simp⟩ | exact ⟨[], by simp⟩
 rintro k ⟨hk0, hk, hal⟩
 simp (maxSteps := 2000000) only [go_sem, reduceIte, Nat.reduceEqDiff, Nat.reduceAdd, Nat.reduceLeDiff, Nat.reduceBEq, Eg, Co, Cp, laC, DF, elen]
 by_cases hkl : k < l.an.length
 case neg =>
  have hkl' : ¬ (k : Int) < l.an.length := by omega
  have ek : k = l.an.length := by omega
  subst ek
  have hr : ¬ Ql l i < l.an.length := by unfold Ql; rw [DR hal]; exact Nat.lt_irrefl _
  have w7 := An hlt hbig
  simp (maxSteps := 2000000) only [go_sem, reduceIte, Nat.reduceEqDiff, Nat.reduceAdd, Eg, Co, Cp, hkl', w7]
  refine ⟨i + 1, ⟨hlt, fun j hj => ?_⟩, m1, ?_⟩
  ·by_cases e : j = i
   ·subst e; exact hr
   ·exact hall j (Nat.lt_of_le_of_ne (Nat.le_of_lt_succ hj) e)
  refine ent_weaken [] rfl rfl (Nat.zero_le _) rfl rfl ?_
  simp (maxSteps := 2000000) only [go_sem, reduceIte, Nat.reduceEqDiff, Nat.reduceAdd, Nat.reduceLT, Eg, Co, Cp, laC, DF]
  all_goals first | exact .refl _ | exact ⟨.refl _, .refl _⟩ | exact ⟨.refl _, .refl _, .refl _⟩ | exact ⟨.refl _, _, rfl⟩ | exact ⟨_, rfl⟩ | exact ⟨.refl _, [], by simp⟩ | exact ⟨[], by simp⟩
 have hkl' : (k : Int) < l.an.length := by omega
 have m2 : l.an.length - (k + 1) < l.an.length - k := by omega
 have hik : i < k := hk0
 have hc := aDB l h i k hik hkl
 unfold laV laC at hc
 simp (maxSteps := 2000000) only [go_sem, reduceIte, Nat.reduceEqDiff, Nat.reduceAdd, Eg, Co, Cp, hkl']
 refine Aj (hc) rfl rfl (by first | exact wk_refls _ | (repeat constructor)) ?_
 cases hb : KX l i k with
 | true =>
  have e1 : Ql l i = k := DM (by simp [hb, hik]) hal hkl
  have e2 : cI l = i := DM (by simp [e1, hkl]) (fun j hj => by simpa using hall j hj) hlt
  have e : C6 l = (i, k) := by unfold C6; rw [e2, if_pos hlt, e1]
  simp (maxSteps := 2000000) only [go_sem, reduceIte, Nat.reduceEqDiff, Nat.reduceAdd, Nat.reduceLeDiff, Nat.reduceBEq, Eg, Co, Cp, e, T7, DF]
  all_goals first | exact .refl _ | exact ⟨.refl _, .refl _⟩ | exact ⟨.refl _, .refl _, .refl _⟩ | exact ⟨.refl _, _, rfl⟩ | exact ⟨_, rfl⟩ | exact ⟨.refl _, [], by simp⟩ | exact ⟨[], by simp⟩
 | false =>
  have hal2 : ∀ j, j < k + 1 → (decide (i < j) && KX l i j) = false := fun j hj => by
   by_cases e : j = k
   ·subst e; simp [hb]
   ·exact hal j (by omega)
  have hk2 : i + 1 ≤ k + 1 := by omega
  have w7 := An hkl hbig
  simp (maxSteps := 2000000) only [go_sem, reduceIte, Nat.reduceEqDiff, Nat.reduceAdd, Eg, Co, Cp, w7]
  refine ⟨k + 1, ⟨hk2, hkl, hal2⟩, m2, ?_⟩
  refine ent_weaken [] rfl rfl (Nat.zero_le _) rfl rfl ?_
  simp (maxSteps := 2000000) only [go_sem, reduceIte, Nat.reduceEqDiff, Nat.reduceAdd, Nat.reduceLT, Eg, Co, Cp, laC, DF]
  all_goals first | exact .refl _ | exact ⟨.refl _, .refl _⟩ | exact ⟨.refl _, .refl _, .refl _⟩ | exact ⟨.refl _, _, rfl⟩ | exact ⟨_, rfl⟩ | exact ⟨.refl _, [], by simp⟩ | exact ⟨[], by simp⟩
end Go.Proofs.YtfgdbeijjbijnaaGreatDoor.Zo
set_option linter.unusedSimpArgs false
set_option linter.unusedVariables false
set_option maxRecDepth 100000
namespace Go.Proofs.YtfgdbeijjbijnaaGreatDoor.Zo
open Go Go.Abs Go.Proofs
def C8 : List (Nat × List Nat) := [(0, [1]), (1, [1, 4, 5]), (2, [1, 4, 5, 6]), (3, [1, 4, 5, 6, 17]), (4, [1, 4, 5, 6]), (5, [1, 4, 5, 6]), (6, [1, 4, 5, 7]), (7, [1, 4, 5, 7, 30]), (8, [1, 4, 5, 7]), (9, [1, 4, 5, 7, 8]), (10, [1, 4, 5, 7]), (11, [1, 4, 5, 9]), (12, [1, 4, 5, 9, 64]), (13, [1, 4, 5, 9]), (14, [1, 4, 5, 9, 10]), (15, [1, 4, 5, 9, 10, 70]), (16, [1, 4, 5, 9, 10]), (17, [1, 4, 5, 9, 10, 11, 12]), (18, [1, 4, 5, 9, 10, 11, 12, 87]), (19, [1, 4, 5, 9, 10, 11, 12]), (20, [1, 4, 5, 9, 10, 11, 12]), (21, [1, 4, 5, 9, 10]), (22, [2, 3])]
theorem Dt : lookK C8 0 = some [1] ∧ lookK C8 1 = some [1, 4, 5] ∧ lookK C8 2 = some [1, 4, 5, 6] ∧ lookK C8 3 = some [1, 4, 5, 6, 17] ∧ lookK C8 4 = some [1, 4, 5, 6] ∧ lookK C8 5 = some [1, 4, 5, 6] ∧ lookK C8 6 = some [1, 4, 5, 7] ∧ lookK C8 7 = some [1, 4, 5, 7, 30] ∧ lookK C8 8 = some [1, 4, 5, 7] ∧ lookK C8 9 = some [1, 4, 5, 7, 8] ∧ lookK C8 10 = some [1, 4, 5, 7] ∧ lookK C8 11 = some [1, 4, 5, 9] ∧ lookK C8 12 = some [1, 4, 5, 9, 64] ∧ lookK C8 13 = some [1, 4, 5, 9] ∧ lookK C8 14 = some [1, 4, 5, 9, 10] ∧ lookK C8 15 = some [1, 4, 5, 9, 10, 70] ∧ lookK C8 16 = some [1, 4, 5, 9, 10] ∧ lookK C8 17 = some [1, 4, 5, 9, 10, 11, 12] ∧ lookK C8 18 = some [1, 4, 5, 9, 10, 11, 12, 87] ∧ lookK C8 19 = some [1, 4, 5, 9, 10, 11, 12] ∧ lookK C8 20 = some [1, 4, 5, 9, 10, 11, 12] ∧ lookK C8 21 = some [1, 4, 5, 9, 10] ∧ lookK C8 22 = some [2, 3] := ⟨rfl, rfl, rfl, rfl, rfl, rfl, rfl, rfl, rfl, rfl, rfl, rfl, rfl, rfl, rfl, rfl, rfl, rfl, rfl, rfl, rfl, rfl, rfl⟩
def Ac (n : Nat) (f : Nat → Int) : List C := (List.range n).map fun k => .d (.int .i64 (f k))
def Ar (n : Nat) (f : Nat → Int) : List D := (List.range n).map fun k => .int .i64 (f k)
def fl (n : Nat) (f : Nat → Int) : List Int := (List.range n).map f
theorem F9 (n : Nat) (f : Nat → Int) : Ac n f = (Ar n f).map .d := by simp [Ac, Ar]
theorem Ah (n : Nat) (f : Nat → Int) : (Ac n f).length = n := by simp [Ac]
theorem AY {n : Nat} {f : Nat → Int} {k : Nat} (h : k < n) : (Ac n f)[k]? = some (.d (.int .i64 (f k))) := by simp [Ac, h]
theorem Na {n : Nat} {f g : Nat → Int} (h : ∀ k, k < n → f k = g k) : Ac n f = Ac n g := by
 unfold Ac
 exact List.map_congr_left fun k hk => by rw [h k (List.mem_range.1 hk)]
theorem BK {n : Nat} {f : Nat → Int} {k : Nat} {v : Int} : (Ac n f).set k (.d (.int .i64 v)) = Ac n (upd f k v) := by
 refine List.ext_getElem? fun j => ?_
 rw [List.getElem?_set, Ah]
 by_cases hj : j < n
 ·by_cases e : k = j
  ·subst e; simp [Ac, hj, upd]
  ·rw [if_neg e, AY hj, AY hj, upd, if_neg (fun h => e h.symm)]
 ·have e1 : (Ac n f)[j]? = none := List.getElem?_eq_none (by rw [Ah]; omega)
  have e2 : (Ac n (upd f k v))[j]? = none := List.getElem?_eq_none (by rw [Ah]; omega)
  rw [e1, e2]
  by_cases e : k = j
  ·subst e; simp [hj]
  ·simp [e]
theorem AH (m n : Nat) (f : Nat → Int) : C.lowL m (Ac n f) = true := by rw [F9]; exact KB _ _
theorem laC_low (m : Nat) (l : La) : C.lowL m (laC l) = true := rfl
theorem K1 (n : Nat) (f : Nat → Int) : Ac (n + 1) f = Ac n f ++ [.d (.int .i64 (f n))] := by simp [Ac, List.range_succ]
theorem Ir (n : Nat) : List.replicate n (C.d (.int .i64 0)) = Ac n (fun _ => 0) := by
 refine List.ext_getElem? fun j => ?_
 by_cases hj : j < n
 ·rw [AY hj]; simp [hj]
 ·rw [List.getElem?_eq_none (by simp; omega), List.getElem?_eq_none (by rw [Ah]; omega)]
theorem fl_len (n : Nat) (f : Nat → Int) : (fl n f).length = n := by simp [fl]
theorem fl_get {n : Nat} (f : Nat → Int) {k : Nat} (h : k < n) : gI (fl n f) k = f k := by simp [fl, gI, List.getD, h]
theorem HK (a b : Int) : JV a [b] = max a b := by simp [JV]
theorem HL (a b : Int) : DY a [b] = min a b := by simp [DY]
theorem Nb (n : Nat) (f : Nat → Int) : CR (Ac n f) = some (Ar n f) := by rw [F9]; exact KC _
theorem Nc : ∀ (l : List D), A4 1 l.length l = l.map fun x => [x]
 | [] => rfl
 | a :: l => by simp only [List.length_cons, A4, List.map_cons]; simp only [List.take_succ_cons, List.take_zero, List.drop_succ_cons, List.drop_zero]; rw [Nc l]
theorem EY (n : Nat) (f : Nat → Int) : A4 1 n (Ar n f) = (fl n f).map iD := by
 have := Nc (Ar n f)
 rw [show (Ar n f).length = n by simp [Ar]] at this
 rw [this]; simp [Ar, fl, iD]
theorem K2 (f : V → V) (hf : f (.c .any) = .c .any) : ∀ (sl : List (Nat × V)) (i : Nat), Aq (sl.map fun p => (p.1, f p.2)) i = f (Aq sl i)
 | [], i => hf.symm
 | (j, v) :: sl, i => by
  simp only [List.map_cons, Aq]
  split
  ·rfl
  ·exact K2 f hf sl i
theorem aFD (id m n : Nat) (d : D) (f : Nat → Int) : (Ac n f).map (fzN id m d) = Ac n f := by simp [Ac, fzN]
def HBo (l : La) (n m : Nat) (f g : Nat → Int) : List AB := [.cells (laC l), .vec n 1 (Ac n f), .vec m 1 (Ac m g)]
theorem DN (l : La) (n m : Nat) (f g : Nat → Int) : (HBo l n m f g).all (AB.low 3) = true := by
 simp only [HBo, List.all_cons, List.all_nil, AB.low, AH, laC_low, Bool.and_self]
theorem aDC (l : La) : L0m l 0 = fun _ => 0 := funext fun k => by unfold L0m; rw [if_neg (by omega)]
theorem aDD (l : La) : H0m l 0 = fun _ => 200 := funext fun k => by unfold H0m; rw [if_neg (by omega)]
theorem aH1 {n : Nat} (h : n ≤ 1000000) : (decide ((n + 1 + (n + 1) / 4 + 256) * 8 ≤ 281474976710656) && decide (n ≤ 140737488355327)) = true := by simp; omega
theorem HM (j : Nat) (h : j < 1000) : wr .i64 (((j + 1 : Nat) : Int) - 1) = (j : Int) := by rw [CO (by omega)]; omega
def Cg (n : Nat) (r : List (Nat × V)) : List (Nat × V) := [(1, .c (.ptr 0 0)), (4, .c (.vs 1 n)), (5, .c (.vs 2 n))] ++ r
set_option maxHeartbeats 8000000 in
theorem Qo (l : La) (h : Bc l) : BA Tryz.prog 66 [laV l] (.tup [ints (fl l.we.length (bl l)), ints (fl l.we.length (bh l))]) := by
 refine pure_wkE (bad := [10, 20, 21, 10012]) (kp := C8) (X := txv) (nt := 117) (rs := [.tmp 2, .tmp 3]) Tryz.func66 rfl rfl rfl rfl mo (by kernel_rfl) rfl rfl (fun hf => ?_)
 obtain ⟨n2, n91⟩ := h.n91
 have m2 := h.m2
 have m11 := h.m11
 have hli := h.li
 have hfa := h.fa
 have hwe := h.we
 simp (maxSteps := 2000000) only [go_sem, reduceIte, Nat.reduceEqDiff, Nat.reduceAdd, Nat.reduceBEq, Dt, laV, laC]
 refine goE_loop (bad := [10, 20, 21, 10012]) (kp := C8) (fun k : Nat => { slots := Cg k [(6, I k)], heap := HBo l k k (fun _ => 0) (fun _ => 200), marks := [] }) (fun k => k ≤ l.we.length) (fun k => l.we.length - k) 0 mo (by kernel_rfl) ?_ (Nat.zero_le _) ?_
 ·refine Ent.trans (Tp 4 1 rfl) ?_
  refine Ent.trans (Tp 5 1 rfl) ?_
  refine ent_weaken [] rfl rfl (Nat.zero_le _) (DN _ _ _ _ _) rfl ?_
  simp (maxSteps := 2000000) only [go_sem, reduceIte, Nat.reduceEqDiff, Nat.reduceAdd, Dt, Cg, List.cons_append, List.nil_append]
  all_goals first | exact .refl _ | exact ⟨.refl _, .refl _⟩ | exact ⟨.refl _, .refl _, .refl _⟩ | exact ⟨.refl _, _, rfl⟩ | exact ⟨_, rfl⟩ | exact ⟨.refl _, [], by simp⟩ | exact ⟨[], by simp⟩
 rintro k hk
 simp (maxSteps := 2000000) only [go_sem, reduceIte, Nat.reduceEqDiff, Nat.reduceAdd, Nat.reduceBEq, Dt, Cg, HBo, laC, List.cons_append, List.nil_append]
 by_cases hlt : k < l.we.length
 ·have hlt' : (k : Int) < l.we.length := by omega
  have e1 := K1 k (fun _ => 0)
  have e2 := K1 k (fun _ => 200)
  have m1 : l.we.length - (k + 1) < l.we.length - k := by omega
  have vo := aH1 (n := k) (by omega)
  have w7 := An hlt (show l.we.length ≤ 140737488355328 by omega)
  simp (maxSteps := 2000000) only [go_sem, reduceIte, Nat.reduceEqDiff, Nat.reduceAdd, Nat.reduceLT, Nat.reduceLeDiff, Nat.reduceBEq, Nat.reduceMul, Dt, hlt', w7, ← e1, ← e2]
  refine ⟨vo, vo, k + 1, hlt, m1, ?_⟩
  refine ent_weaken [] rfl rfl (Nat.zero_le _) (DN _ _ _ _ _) rfl ?_
  simp (maxSteps := 2000000) only [go_sem, reduceIte, Nat.reduceEqDiff, Nat.reduceAdd, Nat.reduceLT, Dt, Cg, HBo, List.cons_append, List.nil_append]
  all_goals first | exact .refl _ | exact ⟨.refl _, .refl _⟩ | exact ⟨.refl _, .refl _, .refl _⟩ | exact ⟨.refl _, _, rfl⟩ | exact ⟨_, rfl⟩ | exact ⟨.refl _, [], by simp⟩ | exact ⟨[], by simp⟩
 have hlt' : ¬ (k : Int) < l.we.length := by omega
 have ek : k = l.we.length := by omega
 subst ek
 simp (maxSteps := 2000000) only [go_sem, reduceIte, Nat.reduceEqDiff, Nat.reduceAdd, Nat.reduceBEq, Dt, hlt']
 clear hlt hlt' hk
 refine goE_loop (bad := [10, 20, 21, 10012]) (kp := C8) (fun i : Nat => { slots := Cg l.we.length [(7, I i)], heap := HBo l l.we.length l.we.length (L0m l i) (H0m l i), marks := [] }) (fun i => i ≤ l.an.length) (fun i => l.an.length - i) 0 mo (by kernel_rfl) ?_ (Nat.zero_le _) ?_
 ·refine ent_weaken [] (by rw [aDC, aDD]; rfl) rfl (Nat.zero_le _) (DN _ _ _ _ _) rfl ?_
  simp (maxSteps := 2000000) only [go_sem, reduceIte, Nat.reduceEqDiff, Nat.reduceAdd, Nat.reduceLT, Dt, Cg, HBo, List.cons_append, List.nil_append]
  all_goals first | exact .refl _ | exact ⟨.refl _, .refl _⟩ | exact ⟨.refl _, .refl _, .refl _⟩ | exact ⟨.refl _, _, rfl⟩ | exact ⟨_, rfl⟩ | exact ⟨.refl _, [], by simp⟩ | exact ⟨[], by simp⟩
 rintro i hi
 simp (maxSteps := 2000000) only [go_sem, reduceIte, Nat.reduceEqDiff, Nat.reduceAdd, Nat.reduceLeDiff, Nat.reduceBEq, Dt, Cg, HBo, laC, List.cons_append, List.nil_append]
 by_cases hlt : i < l.an.length
 ·have hlt' : (i : Int) < l.an.length := by omega
  have hlr : (i : Int) < l.li.length := by omega
  have p0 : (0 : Int) < l.an.length := by omega
  have g0 := gI_lt (l := l.an) (i := 0) (by omega)
  have g1 := gI_lt hlt
  have g2 := M4 (l := l.li) (i := i) (by omega)
  have hP := h.p hlt
  have hPn := (lay h).lt hlt
  have hPn' : (P l i : Int) < l.we.length := by omega
  have m1 : l.an.length - (i + 1) < l.an.length - i := by omega
  have u1 := aFy h hlt
  have u2 := aFz h hlt
  have c1 : decide (P l i + 1 ≤ l.we.length) = true := by simp; omega
  have c2 : decide (P l i ≤ l.we.length - 1) = true := by simp; omega
  have hr := h.a0 i hlt
  have hr0 := h.a0 0 (by omega)
  have w1 : wr .i64 (gI l.an i - gI l.an 0) = (P l i : Int) := by rw [CO (by omega)]; omega
  have w7 := An hlt (show l.an.length ≤ 140737488355328 by clear w1; omega)
  simp (maxSteps := 2000000) only [go_sem, reduceIte, Nat.reduceEqDiff, Nat.reduceAdd, Nat.reduceLT, Nat.reduceLeDiff, Nat.reduceBEq, Int.reduceLE, Int.reduceToNat, Dt, hlt', nn, p0, g0, g1, iD, w1, hlr, g2, rgD, hPn', Ah, BK, Nat.mul_one, c1, u1, u2, w7]
  refine ⟨AF (by kernel_rfl), i + 1, hlt, m1, ?_⟩
  refine ent_weaken [] rfl rfl (Nat.zero_le _) (DN _ _ _ _ _) rfl ?_
  simp (maxSteps := 2000000) only [go_sem, reduceIte, Nat.reduceEqDiff, Nat.reduceAdd, Nat.reduceLT, Dt, Cg, HBo, List.cons_append, List.nil_append]
  all_goals first | exact .refl _ | exact ⟨.refl _, .refl _⟩ | exact ⟨.refl _, .refl _, .refl _⟩ | exact ⟨.refl _, _, rfl⟩ | exact ⟨_, rfl⟩ | exact ⟨.refl _, [], by simp⟩ | exact ⟨[], by simp⟩
 have hlt' : ¬ (i : Int) < l.an.length := by omega
 have ei : i = l.an.length := by omega
 subst ei
 simp (maxSteps := 2000000) only [go_sem, reduceIte, Nat.reduceEqDiff, Nat.reduceAdd, Nat.reduceBEq, Dt, hlt']
 clear hlt hlt' hi
 refine goE_loop (bad := [10, 20, 21, 10012]) (kp := C8) (fun r : Nat => { slots := Cg l.we.length [(9, I r)], heap := HBo l l.we.length l.we.length (AR l.we.length (dir l) (L0 l) r) (BW l.we.length (dir l) (H0 l) r), marks := [] }) (fun r => r ≤ l.we.length) (fun r => l.we.length - r) 0 mo (by kernel_rfl) ?_ (Nat.zero_le _) ?_
 ·refine ent_weaken [] rfl rfl (Nat.zero_le _) (DN _ _ _ _ _) rfl ?_
  simp (maxSteps := 2000000) only [go_sem, reduceIte, Nat.reduceEqDiff, Nat.reduceAdd, Nat.reduceLT, Dt, Cg, HBo, List.cons_append, List.nil_append]
  all_goals first | exact .refl _ | exact ⟨.refl _, .refl _⟩ | exact ⟨.refl _, .refl _, .refl _⟩ | exact ⟨.refl _, _, rfl⟩ | exact ⟨_, rfl⟩ | exact ⟨.refl _, [], by simp⟩ | exact ⟨[], by simp⟩
 rintro r hr
 simp (maxSteps := 2000000) only [go_sem, reduceIte, Nat.reduceEqDiff, Nat.reduceAdd, Nat.reduceBEq, Dt, Cg, HBo, laC, List.cons_append, List.nil_append]
 by_cases hlt : r < l.we.length
 ·have hlt' : (r : Int) < l.we.length := by omega
  have mr : l.we.length - (r + 1) < l.we.length - r := by omega
  simp (maxSteps := 2000000) only [go_sem, Dt, hlt']
  refine stop_mk _ Ent.refl ?_
  simp (maxSteps := 2000000) only [go_sem, reduceIte, Nat.reduceEqDiff, Nat.reduceAdd, Nat.reduceBEq, Dt]
  refine goE_loop (bad := [10, 20, 21, 10012]) (kp := C8) (fun m : Nat => { slots := Cg l.we.length [(9, I r), (10, I ((m + 1 : Nat) : Int))], heap := HBo l l.we.length l.we.length (AP (dir l) (AR l.we.length (dir l) (L0 l) r) m) (Cr (dir l) (BW l.we.length (dir l) (H0 l) r) m), marks := [] }) (fun m => m + 1 ≤ l.we.length) (fun m => l.we.length - m) 0 mo (by kernel_rfl) ?_ (by omega) ?_
  ·refine ent_weaken [] rfl rfl (Nat.zero_le _) (DN _ _ _ _ _) rfl ?_
   simp (maxSteps := 2000000) only [go_sem, reduceIte, Nat.reduceEqDiff, Nat.reduceAdd, Nat.reduceLT, Dt, Cg, HBo, List.cons_append, List.nil_append]
   all_goals first | exact .refl _ | exact ⟨.refl _, .refl _⟩ | exact ⟨.refl _, .refl _, .refl _⟩ | exact ⟨.refl _, _, rfl⟩ | exact ⟨_, rfl⟩ | exact ⟨.refl _, [], by simp⟩ | exact ⟨[], by simp⟩
  rintro m hm
  simp (maxSteps := 2000000) only [go_sem, reduceIte, Nat.reduceEqDiff, Nat.reduceAdd, Nat.reduceBEq, Dt, Cg, HBo, laC, List.cons_append, List.nil_append]
  by_cases hml : m + 1 < l.we.length
  ·have hml' : ((m + 1 : Nat) : Int) < l.we.length := by omega
   have hm0 : (m : Int) < l.we.length := by omega
   have hp0 : (0 : Int) < l.an.length := by omega
   have g0 := gI_lt (l := l.an) (i := 0) (by omega)
   have hr0 := h.a0 0 (by omega)
   have hdg : gI l.an 0 + ((m + 1 : Nat) : Int) ≤ gI l.an (l.an.length - 1) := by omega
   have hgap := aF8 l (gI l.an 0 + ((m + 1 : Nat) : Int)) m2 m11 hdg
   obtain ⟨gi, q1, q2, q3⟩ := (lay h).gap (k := m + 1) (by omega) hml
   have hgl : E6 l (gI l.an 0 + ((m + 1 : Nat) : Int)) < l.fa.length := by
    have a := h.p (i := gi) (by omega)
    have b := h.p (i := gi + 1) q1
    rw [OC h (i := gi) q1 (by omega) (by omega)]; omega
   have hgl' : ((E6 l (gI l.an 0 + ((m + 1 : Nat) : Int)) : Nat) : Int) < l.fa.length := by omega
   have gf := M5 hgl
   have hd : gB l.fa (E6 l (gI l.an 0 + ((m + 1 : Nat) : Int))) = dir l (m + 1) := rfl
   rw [hd] at gf
   have mm : l.we.length - (m + 1) < l.we.length - m := by omega
   have c1 : decide (m + 1 ≤ l.we.length) = true := by simp; omega
   have c2 : decide (m + 1 + 1 ≤ l.we.length) = true := by simp; omega
   have hm1 : m < l.we.length := by omega
   have v1 := fun f : Nat → Int => AY (f := f) hm1
   have v2 := fun f : Nat → Int => AY (f := f) hml
   have eL : AP (dir l) (AR l.we.length (dir l) (L0 l) r) (m + 1) = BN (dir l) (AP (dir l) (AR l.we.length (dir l) (L0 l) r) m) (m + 1) := rfl
   have eH : Cr (dir l) (BW l.we.length (dir l) (H0 l) r) (m + 1) = C5 (dir l) (Cr (dir l) (BW l.we.length (dir l) (H0 l) r) m) (m + 1) := rfl
   generalize AP (dir l) (AR l.we.length (dir l) (L0 l) r) m = F at *
   generalize Cr (dir l) (BW l.we.length (dir l) (H0 l) r) m = G at *
   generalize E6 l (gI l.an 0 + ((m + 1 : Nat) : Int)) = gq at *
   have h1000 : m < 1000 := by omega
   have wg : wr .i64 (gI l.an 0 + ((m + 1 : Nat) : Int)) = gI l.an 0 + ((m + 1 : Nat) : Int) := CO (by omega)
   have wp : wr .i64 (((m + 1 : Nat) : Int) - 1) = (m : Int) := HM m h1000
   have w7 := An hml (Nat.le_trans n91 (by decide))
   unfold laV laC at hgap
   simp (maxSteps := 2000000) only [go_sem, reduceIte, Nat.reduceEqDiff, Nat.reduceAdd, Nat.reduceLeDiff, Nat.reduceBEq, Int.reduceLE, Int.reduceToNat, Dt, hml', wp, hp0, g0, iD, wg]
   refine D1 (hgap) rfl rfl (by first | exact wk_refls _ | (repeat constructor)) (by kernel_rfl) ?_
   cases hdir : dir l (m + 1) with
   | true =>
    have eL2 : BN (dir l) F (m + 1) = upd F m (max (F m) (F (m + 1))) := by unfold BN; rw [hdir]; rfl
    have eH2 : C5 (dir l) G (m + 1) = upd G (m + 1) (min (G (m + 1)) (G m)) := by unfold C5; rw [hdir]; rfl
    rw [hdir] at gf
    simp (maxSteps := 2000000) only [go_sem, reduceIte, Nat.reduceEqDiff, Nat.reduceAdd, Nat.reduceLT, Nat.reduceLeDiff, Nat.reduceBEq, Dt, nn, hgl', gf, bD, wp, hml', hm0, Ah, v1, v2, BK, Nat.mul_one, c1, c2, HK, HL, Int.toNat_natCast, w7]
    refine ⟨AF (by kernel_rfl), AF (by kernel_rfl), m + 1, hml, mm, ?_⟩
    refine ent_weaken [] (by rw [eL, eH, eL2, eH2]; rfl) rfl (Nat.zero_le _) (DN _ _ _ _ _) rfl ?_
    simp (maxSteps := 2000000) only [go_sem, reduceIte, Nat.reduceEqDiff, Nat.reduceAdd, Nat.reduceLT, Dt, Cg, HBo, List.cons_append, List.nil_append]
    all_goals first | exact .refl _ | exact ⟨.refl _, .refl _⟩ | exact ⟨.refl _, .refl _, .refl _⟩ | exact ⟨.refl _, _, rfl⟩ | exact ⟨_, rfl⟩ | exact ⟨.refl _, [], by simp⟩ | exact ⟨[], by simp⟩
   | false =>
    have eL2 : BN (dir l) F (m + 1) = upd F (m + 1) (max (F (m + 1)) (F m)) := by unfold BN; rw [hdir]; rfl
    have eH2 : C5 (dir l) G (m + 1) = upd G m (min (G m) (G (m + 1))) := by unfold C5; rw [hdir]; rfl
    rw [hdir] at gf
    simp (maxSteps := 2000000) only [go_sem, reduceIte, Nat.reduceEqDiff, Nat.reduceAdd, Nat.reduceLT, Nat.reduceLeDiff, Nat.reduceBEq, Dt, nn, hgl', gf, bD, wp, hml', hm0, Ah, v1, v2, BK, Nat.mul_one, c1, c2, HK, HL, Int.toNat_natCast, w7]
    refine ⟨AF (by kernel_rfl), AF (by kernel_rfl), m + 1, hml, mm, ?_⟩
    refine ent_weaken [] (by rw [eL, eH, eL2, eH2]; rfl) rfl (Nat.zero_le _) (DN _ _ _ _ _) rfl ?_
    simp (maxSteps := 2000000) only [go_sem, reduceIte, Nat.reduceEqDiff, Nat.reduceAdd, Nat.reduceLT, Dt, Cg, HBo, List.cons_append, List.nil_append]
    all_goals first | exact .refl _ | exact ⟨.refl _, .refl _⟩ | exact ⟨.refl _, .refl _, .refl _⟩ | exact ⟨.refl _, _, rfl⟩ | exact ⟨_, rfl⟩ | exact ⟨.refl _, [], by simp⟩ | exact ⟨[], by simp⟩
  ·have hml' : ¬ ((m + 1 : Nat) : Int) < l.we.length := by omega
   have em : m = l.we.length - 1 := by omega
   subst em
   have w7 := An hlt (show l.we.length ≤ 140737488355328 by omega)
   simp (maxSteps := 2000000) only [go_sem, reduceIte, Nat.reduceEqDiff, Nat.reduceAdd, Nat.reduceBEq, Dt, hml', w7]
   refine ⟨r + 1, hlt, mr, ?_⟩
   refine ent_weaken [] rfl rfl (Nat.zero_le _) (DN _ _ _ _ _) rfl ?_
   simp (maxSteps := 2000000) only [go_sem, reduceIte, Nat.reduceEqDiff, Nat.reduceAdd, Nat.reduceLT, Dt, Cg, HBo, List.cons_append, List.nil_append]
   all_goals first | exact .refl _ | exact ⟨.refl _, .refl _⟩ | exact ⟨.refl _, .refl _, .refl _⟩ | exact ⟨.refl _, _, rfl⟩ | exact ⟨_, rfl⟩ | exact ⟨.refl _, [], by simp⟩ | exact ⟨[], by simp⟩
 have hlt' : ¬ (r : Int) < l.we.length := by omega
 have er : r = l.we.length := by omega
 subst er
 have e1 : Ac l.we.length (AR l.we.length (dir l) (L0 l) l.we.length) = Ac l.we.length (bl l) := Na fun k hk => M0 (by omega) _ _ hk
 have e2 : Ac l.we.length (BW l.we.length (dir l) (H0 l) l.we.length) = Ac l.we.length (bh l) := Na fun k hk => Va (by omega) _ _ hk
 simp (maxSteps := 2000000) only [go_sem, Dt, hlt', e1, e2]
 have hl1 : l.we.length ≤ lim := by unfold lim; omega
 refine stop_mk { slots := [(1, .c (.ptr 0 0)), (4, ints (fl l.we.length (bl l))), (5, ints (fl l.we.length (bh l))), (9, I l.we.length), (64, B false)], heap := [.cells (laC l), .gone, .gone], marks := [] } ?_ ?_
 ·refine Ent.trans (s1 := { slots := [(1, .c (.ptr 0 0)), (4, ints (fl l.we.length (bl l))), (5, .c (.vs 2 l.we.length)), (9, I l.we.length), (64, B false)], heap := [.cells (laC l), .gone, .vec l.we.length 1 (Ac l.we.length (bh l))], marks := [] }) ?_ ?_
  ·refine MF 1 (n := l.we.length) (sz := 1) (cs := Ac l.we.length (bl l)) (ds := Ar l.we.length (bl l)) rfl (Nb _ _) (by decide) hl1 rfl (by simp only [List.map_cons, List.map_nil, UJ, aFD]; rfl) (fun i => .inl (?_))
   refine Eq.trans (congrArg (Aq · i) ?_) (K2 (UI 1 l.we.length (D.sl (A4 1 l.we.length (Ar l.we.length (bl l))))) rfl _ i)
   simp only [List.map_cons, List.map_nil, UI, fzN, and_self, if_true, EY, ints]
   rfl
  ·refine MF 2 (n := l.we.length) (sz := 1) (cs := Ac l.we.length (bh l)) (ds := Ar l.we.length (bh l)) rfl (Nb _ _) (by decide) hl1 rfl rfl (fun i => .inl (?_))
   refine Eq.trans (congrArg (Aq · i) ?_) (K2 (UI 2 l.we.length (D.sl (A4 1 l.we.length (Ar l.we.length (bh l))))) rfl _ i)
   simp only [List.map_cons, List.map_nil, UI, fzN, and_self, if_true, EY, ints]
   try rfl
 simp (maxSteps := 2000000) only [go_sem, reduceIte, Nat.reduceEqDiff, Nat.reduceAdd, Nat.reduceBEq, Dt, ints]
 all_goals first | exact .refl _ | exact ⟨.refl _, .refl _⟩ | exact ⟨.refl _, .refl _, .refl _⟩ | exact ⟨.refl _, _, rfl⟩ | exact ⟨_, rfl⟩ | exact ⟨.refl _, [], by simp⟩ | exact ⟨[], by simp⟩
end Go.Proofs.YtfgdbeijjbijnaaGreatDoor.Zo
set_option linter.unusedSimpArgs false
set_option linter.unusedVariables false
set_option maxRecDepth 100000
namespace Go.Proofs.YtfgdbeijjbijnaaGreatDoor.Zo
open Go Go.Abs Go.Proofs
def aDE : List (Nat × List Nat) := [(0, [1]), (1, [2])]
theorem FI : lookK aDE 0 = some [1] ∧ lookK aDE 1 = some [2] := ⟨rfl, rfl⟩
def Gt : List (Nat × List Nat) := [(0, [0, 1, 10, 11, 12]), (1, [0, 1, 10, 11, 12, 13]), (2, [0, 1, 3, 4, 10, 11, 12]), (3, [0, 1, 3, 4, 5, 10, 11, 12]), (4, [0, 1, 3, 5, 10, 11, 12, 21]), (5, [0, 1, 3, 5, 10, 11, 12]), (6, [0, 1, 10, 11, 12, 63]), (7, [0, 1, 10, 11, 12])]
theorem FJ : lookK Gt 0 = some [0, 1, 10, 11, 12] ∧ lookK Gt 1 = some [0, 1, 10, 11, 12, 13] ∧ lookK Gt 2 = some [0, 1, 3, 4, 10, 11, 12] ∧ lookK Gt 3 = some [0, 1, 3, 4, 5, 10, 11, 12] ∧ lookK Gt 4 = some [0, 1, 3, 5, 10, 11, 12, 21] ∧ lookK Gt 5 = some [0, 1, 3, 5, 10, 11, 12] ∧ lookK Gt 6 = some [0, 1, 10, 11, 12, 63] ∧ lookK Gt 7 = some [0, 1, 10, 11, 12] := ⟨rfl, rfl, rfl, rfl, rfl, rfl, rfl, rfl⟩
def A1 (l : La) (a d : Nat → Int) : List C := laC l ++ (Ac 22 a ++ Ac 182 d)
theorem Cm (l : La) (a d : Nat → Int) : (A1 l a d).length = 208 := by simp [A1, laC, Ah]
theorem OK (l : La) (a d : Nat → Int) : (A1 l a d)[0]? = some (.d (.sl (l.an.map iD))) := rfl
theorem aH2 (l : La) (a d : Nat → Int) : (A1 l a d)[2]? = some (.d (.sl (l.fa.map bD))) := rfl
theorem aF9 {l : La} {a d : Nat → Int} {k : Nat} (h : k < 22) : (A1 l a d)[4 + k]? = some (.d (.int .i64 (a k))) := by
 rw [A1, List.getElem?_append_right (by simp [laC])]
 rw [show 4 + k - (laC l).length = k by simp [laC], List.getElem?_append_left (by rw [Ah]; exact h), AY h]
theorem aGa {l : La} {a d : Nat → Int} {k : Nat} (h : k < 182) : (A1 l a d)[26 + k]? = some (.d (.int .i64 (d k))) := by
 rw [A1, List.getElem?_append_right (by simp [laC]; omega), List.getElem?_append_right (by simp [laC, Ah]; omega)]
 rw [show 26 + k - (laC l).length - (Ac 22 a).length = k by simp [laC, Ah]; omega, AY h]
theorem Qp {l : La} {a d : Nat → Int} {k : Nat} {v : Int} (h : k < 22) : (A1 l a d).set (4 + k) (.d (.int .i64 v)) = A1 l (upd a k v) d := by
 rw [A1, List.set_append_right _ _ (by simp [laC]), show 4 + k - (laC l).length = k by simp [laC], List.set_append_left _ _ (by rw [Ah]; exact h), BK]; rfl
theorem Qq {l : La} {a d : Nat → Int} {k : Nat} {v : Int} (h : k < 182) : (A1 l a d).set (26 + k) (.d (.int .i64 v)) = A1 l a (upd d k v) := by
 rw [A1, List.set_append_right _ _ (by simp [laC]; omega), List.set_append_right _ _ (by simp [laC, Ah]; omega), show 26 + k - (laC l).length - (Ac 22 a).length = k by simp [laC, Ah]; omega, BK]; rfl
theorem E9 (m : Nat) (l : La) (a d : Nat → Int) : C.lowL m (A1 l a d) = true := by
 have e : A1 l a d = (([D.sl (l.an.map iD), D.sl (l.li.map rgD), D.sl (l.fa.map bD), D.sl (l.we.map iD)] ++ (Ar 22 a ++ Ar 182 d)).map C.d) := by
  simp [A1, laC, F9]
 rw [e, KB]
def Fi (l : La) (i : Nat) : List C := if gB l.fa i then [.d (.int .i64 i), .d (.int .i64 ((i + 1 : Nat) : Int))] else [.d (.int .i64 ((i + 1 : Nat) : Int)), .d (.int .i64 i)]
def gdC (l : La) (i : Nat) : List C := [.d (.int .i64 (P l i)), .d (.int .i64 (P l (i + 1)))]
theorem T8 {α : Type} (H : List α) (x y : α) : (H ++ [x]).set H.length y = H ++ [y] := by rw [List.set_append_right _ _ (Nat.le_refl _)]; simp
theorem aDF {α : Type} (H : List α) (x : α) : (H ++ [x])[H.length]? = some x := by simp
theorem aDG (H : List AB) (id : Nat) (hid : id < H.length) : Ae Tryz.prog 311 [.c (.ptr id 0)] H (one (.c (.fn (.func 377) [.ptr H.length 0])) (H ++ [.cells [.ptr id 0]])) := by
 refine acall_fitE (bad := []) (kp := aDE) (X := tx) (nt := 4) (rs := [.tmp 2]) Tryz.func311 rfl rfl rfl rfl mo (by kernel_rfl) (fun hf => ?_)
 simp (maxSteps := 2000000) only [go_sem, reduceIte, Nat.reduceEqDiff, Nat.reduceAdd, FI, FJ]
 exact ⟨rfl, rfl⟩
set_option maxHeartbeats 4000000 in
theorem aDH (yid b1 bid : Nat) (l : La) (ok : Bc l) (fa' fd : Nat → Nat → Int) (Hs : Nat → List AB)
  (hlow : ∀ k, k ≤ l.fa.length → (Hs k).all (AB.low (Hs k).length) = true ∧ (Hs k).length = (Hs 0).length) (h1 : yid < (Hs 0).length)
  (hb1 : ∀ k, k ≤ l.fa.length → (Hs k)[b1]? = some (.cells [.ptr bid 0])) (hb : ∀ k, k ≤ l.fa.length → (Hs k)[bid]? = some (.cells (A1 l (fa' k) (fd k))))
  (hy : ∀ i, i < l.fa.length → YCs Tryz.prog yid (Hs i ++ [.cells (Fi l i)]) [.agg (Fi l i), .agg (gdC l i)] (one (B true) (Hs (i + 1) ++ [.cells (Fi l i)]))) :
  Ae Tryz.prog 377 [.c (.yd yid), .c (.ptr b1 0)] (Hs 0) (fun _ H' => H' = Hs l.fa.length) := by
 have l1 : b1 < (Hs 0).length := (List.getElem?_eq_some_iff.1 (hb1 0 (Nat.zero_le _))).1
 have l2 : bid < (Hs 0).length := (List.getElem?_eq_some_iff.1 (hb 0 (Nat.zero_le _))).1
 have hb10 := hb1 0 (Nat.zero_le _)
 have hb0 := hb 0 (Nat.zero_le _)
 have hfa := ok.fa
 have m11 := ok.m11
 refine acall_fitE (bad := [50006]) (kp := Gt) (X := tx) (nt := 65) (rs := []) Tryz.func377 rfl rfl rfl rfl mo (by kernel_rfl) (fun hf => ?_)
 simp (maxSteps := 2000000) only [go_sem, reduceIte, Nat.reduceEqDiff, Nat.reduceAdd, Nat.reduceLeDiff, Nat.reduceBEq, FI, FJ, hb10, hb0, Cm, aH2]
 refine goE_loop (bad := [50006]) (kp := Gt) (fun i : Nat => { slots := [(0, .c (.yd yid)), (1, .c (.ptr b1 0)), (10, Et l.fa), (11, I l.fa.length), (12, I i)], heap := Hs i, marks := [] }) (fun i => i ≤ l.fa.length) (fun i => l.fa.length - i) 0 mo (by kernel_rfl) ?_ (Nat.zero_le _) ?_
 ·obtain ⟨q1, q2⟩ := hlow 0 (by omega)
  refine ent_weaken [] (by simp) rfl (Nat.le_refl _) q1 rfl ?_
  simp (maxSteps := 2000000) only [go_sem, reduceIte, Nat.reduceEqDiff, FI, FJ, Et, h1, l1]
  all_goals first | exact .refl _ | exact ⟨.refl _, .refl _⟩ | exact ⟨.refl _, .refl _, .refl _⟩ | exact ⟨.refl _, _, rfl⟩ | exact ⟨_, rfl⟩ | exact ⟨.refl _, [], by simp⟩ | exact ⟨[], by simp⟩
 rintro i hi
 simp (maxSteps := 2000000) only [go_sem, reduceIte, Nat.reduceEqDiff, Nat.reduceAdd, Nat.reduceBEq, FI, FJ, Et]
 by_cases hlt : i < l.fa.length
 ·have hlt' : (i : Int) < l.fa.length := by omega
  have g1 := M5 hlt
  obtain ⟨q1, q2⟩ := hlow i hi
  obtain ⟨r1, r2⟩ := hlow (i + 1) hlt
  have hb1i := hb1 i hi
  have hbi := hb i hi
  have m1 : l.fa.length - (i + 1) < l.fa.length - i := by omega
  have hyi := hy i hlt
  have hap1 : ∀ x : AB, (Hs i ++ [x])[b1]? = some (.cells [.ptr bid 0]) := fun x => by rw [List.getElem?_append_left (by omega)]; exact hb1i
  have hap2 : ∀ x : AB, (Hs i ++ [x])[bid]? = some (.cells (A1 l (fa' i) (fd i))) := fun x => by rw [List.getElem?_append_left (by omega)]; exact hbi
  have ia : (i : Int) < l.an.length := by omega
  have ia1 : ((i + 1 : Nat) : Int) < l.an.length := by omega
  have p0 : (0 : Int) < l.an.length := by omega
  have a0 := gI_lt (l := l.an) (i := 0) (by omega)
  have a1 := gI_lt (l := l.an) (i := i) (by omega)
  have a2 := gI_lt (l := l.an) (i := i + 1) (by omega)
  have b0 := ok.a0 0 (by omega)
  have b1' := ok.a0 i (by omega)
  have b2 := ok.a0 (i + 1) (by omega)
  have d1 := ok.p (i := i) (by omega)
  have d2 := ok.p (i := i + 1) (by omega)
  have x1 : yid < (Hs (i + 1)).length := by omega
  have x2 : b1 < (Hs (i + 1)).length := by omega
  have x3 : (Hs 0).length ≤ (Hs (i + 1)).length := by omega
  have h1000 : i < 1000 := by omega
  have hnl : l.fa.length ≤ 140737488355328 := by omega
  have w1 : wr .i64 (gI l.an i - gI l.an 0) = (P l i : Int) := by rw [CO (by omega), d1]
  have w2 : wr .i64 (gI l.an (i + 1) - gI l.an 0) = (P l (i + 1) : Int) := by rw [CO (by clear w1; omega), d2]
  have w7 := An hlt hnl
  unfold gdC at hyi
  cases hf' : gB l.fa i with
  | true =>
   have eg : Fi l i = [.d (.int .i64 i), .d (.int .i64 ((i + 1 : Nat) : Int))] := by unfold Fi; rw [hf']; rfl
   rw [hf'] at g1
   rw [eg] at hyi
   simp (maxSteps := 2000000) only [go_sem, reduceIte, Nat.reduceEqDiff, Nat.reduceAdd, Nat.reduceLeDiff, Nat.reduceBEq, Nat.reduceMul, Int.reduceLE, Int.reduceToNat, FI, FJ, hlt', nn, g1, bD, w7, aDF, T8, hap1, hap2, Cm, OK, ia, ia1, p0, a0, a1, a2, iD, w1, w2]
   trace_state
   refine PF hyi rfl rfl (by kernel_rfl) (by kernel_rfl) ?_
   simp (maxSteps := 2000000) only [go_sem, reduceIte, Nat.reduceEqDiff, Nat.reduceAdd, Nat.reduceBEq, FI, FJ, w7]
   refine ⟨i + 1, hlt, m1, ?_⟩
   refine ent_weaken [.cells (Fi l i)] (by rw [eg]) rfl x3 r1 rfl ?_
   simp (maxSteps := 2000000) only [go_sem, reduceIte, Nat.reduceEqDiff, FI, FJ, Et, x1, x2]
   all_goals first | exact .refl _ | exact ⟨.refl _, .refl _⟩ | exact ⟨.refl _, .refl _, .refl _⟩ | exact ⟨.refl _, _, rfl⟩ | exact ⟨_, rfl⟩ | exact ⟨.refl _, [], by simp⟩ | exact ⟨[], by simp⟩
  | false =>
   have eg : Fi l i = [.d (.int .i64 ((i + 1 : Nat) : Int)), .d (.int .i64 i)] := by unfold Fi; rw [hf']; rfl
   rw [hf'] at g1
   rw [eg] at hyi
   simp (maxSteps := 2000000) only [go_sem, reduceIte, Nat.reduceEqDiff, Nat.reduceAdd, Nat.reduceLeDiff, Nat.reduceBEq, Nat.reduceMul, Int.reduceLE, Int.reduceToNat, FI, FJ, hlt', nn, g1, bD, w7, aDF, T8, hap1, hap2, Cm, OK, ia, ia1, p0, a0, a1, a2, iD, w1, w2]
   refine PF hyi rfl rfl (by kernel_rfl) (by kernel_rfl) ?_
   simp (maxSteps := 2000000) only [go_sem, reduceIte, Nat.reduceEqDiff, Nat.reduceAdd, Nat.reduceBEq, FI, FJ, w7]
   refine ⟨i + 1, hlt, m1, ?_⟩
   refine ent_weaken [.cells (Fi l i)] (by rw [eg]) rfl x3 r1 rfl ?_
   simp (maxSteps := 2000000) only [go_sem, reduceIte, Nat.reduceEqDiff, FI, FJ, Et, x1, x2]
   all_goals first | exact .refl _ | exact ⟨.refl _, .refl _⟩ | exact ⟨.refl _, .refl _, .refl _⟩ | exact ⟨.refl _, _, rfl⟩ | exact ⟨_, rfl⟩ | exact ⟨.refl _, [], by simp⟩ | exact ⟨[], by simp⟩
 ·have hlt' : ¬ (i : Int) < l.fa.length := by omega
  have e : i = l.fa.length := by omega
  subst e
  simp (maxSteps := 2000000) only [go_sem, reduceIte, FI, FJ, hlt']
end Go.Proofs.YtfgdbeijjbijnaaGreatDoor.Zo
