/- Streets: the data, and the small functions of chapter 7. -/
import Derived.Test.YtfgdbeijjbijnaaGreatDoorJG16
import Derived.Test.YtfgdbeijjbijnaaGreatDoorJG12
import Derived.Test.YtfgdbeijjbijnaaGreatDoorJWD
set_option linter.unusedSimpArgs false
set_option linter.unusedVariables false
set_option linter.unusedSimpArgs false
set_option linter.unusedVariables false
set_option maxRecDepth 100000
namespace Go.Proofs.YtfgdbeijjbijnaaGreatDoor
open Go Go.Abs Go.Proofs
theorem mo : tx.P.follows .mixedOrders = true := by kernel_rfl
def iD (n : Int) : List D := [.int .i64 n]
def ints (l : List Int) : V := .c (.d (.sl (l.map iD)))
theorem KP {l : List Int} (h : FL (ints l)) : l.length ≤ 140737488355328 := by have h : Fit _ := h; have := h.len; simpa [lim] using this
theorem Az {i n : Nat} (h : i < n) (hn : n ≤ 140737488355328) : wr .i64 ((i : Int) + 1) = ((i + 1 : Nat) : Int) := by rw [Cl] <;> omega
theorem AD {α : Type} {l : List α} {i : Nat} (h : i < l.length) : ∃ x, l[i]? = some x := ⟨l[i], by simp [h]⟩
theorem Fe {α : Type} {l : List α} {i : Nat} {x : α} (h : l[i]? = some x) : l.take (i + 1) = l.take i ++ [x] := by
 rw [List.take_add_one, h]; rfl
theorem GU {α : Type} {l : List α} {p : α → Bool} {i : Nat} {x : α} (h : l[i]? = some x) (hp : p x = true) : l.any p = true := List.any_eq_true.2 ⟨x, List.mem_of_getElem? h, hp⟩
theorem KQ {α : Type} {l : List α} {p : α → Bool} (h : ∀ (j : Nat) x, j < l.length → l[j]? = some x → p x = false) : l.any p = false := by
 rw [List.any_eq_false]
 intro x hx
 obtain ⟨j, hj⟩ := List.getElem?_of_mem hx
 rw [h j x (List.getElem?_eq_some_iff.1 hj).1 hj]; simp
theorem Bw {α : Type} {l : List α} {P : α → Prop} {i : Nat} {x : α} (h : ∀ (j : Nat) y, j < i → l[j]? = some y → P y) (hx : l[i]? = some x) (hp : P x) : ∀ (j : Nat) y, j < i + 1 → l[j]? = some y → P y := fun j y hj hy => by
 rcases Nat.lt_succ_iff_lt_or_eq.1 hj with h1 | h1
 ·exact h j y h1 hy
 ·subst h1; rw [hx] at hy; cases hy; exact hp
def Bh {α : Type} (p : α → Bool) : List α → Int
 | [] => -1
 | x :: l => if p x then 0 else if Bh p l < 0 then -1 else Bh p l + 1
theorem De {α : Type} {p : α → Bool} : ∀ {l : List α} {i : Nat} {x : α}, (∀ j y, j < i → l[j]? = some y → p y = false) → l[i]? = some x → p x = true → Bh p l = i
 | y :: l, 0, x, _, hx, hp => by simp at hx; subst hx; simp [Bh, hp]
 | y :: l, i + 1, x, h, hx, hp => by
  have h0 := h 0 y (by omega) rfl
  have ih := De (l := l) (i := i) (fun j z hj hz => h (j + 1) z (by omega) (by simpa using hz)) (by simpa using hx) hp
  simp only [Bh, h0, ih]
  simp; omega
theorem Co {α : Type} {p : α → Bool} : ∀ {l : List α}, (∀ (j : Nat) y, j < l.length → l[j]? = some y → p y = false) → Bh p l = -1
 | [], _ => rfl
 | y :: l, h => by
  have h0 := h 0 y (by simp) rfl
  have ih := Co (l := l) (fun j z hj hz => h (j + 1) z (by simpa using hj) (by simpa using hz))
  simp [Bh, h0, ih]
theorem Df {α : Type} {p : α → Bool} : ∀ (l : List α), 0 ≤ Bh p l ↔ l.any p = true
 | [] => by simp [Bh]
 | y :: l => by
  have ih := Df (p := p) l
  by_cases hy : p y = true
  ·simp [Bh, hy]
  ·simp only [Bh, hy, List.any_cons, Bool.false_or, if_false, Bool.false_eq_true, ← ih, eq_self]
   split <;> omega
theorem Dt {α : Type} {p : α → Bool} (l : List α) : decide (0 ≤ Bh p l) = l.any p := by
 rw [Bool.eq_iff_iff, decide_eq_true_eq, Df]
structure Po where
 fr : Int
 to : Int
 co : Int
structure Rd where
 pl : Int
 de : Int
 di : Int
 ps : List Po
def upd (f : Nat → Int) (m : Nat) (v : Int) : Nat → Int := fun j => if j = m then v else f j
theorem Ao (f : Nat → Int) (m : Nat) (v : Int) : upd f m v m = v := by simp [upd]
theorem AJ (f : Nat → Int) {m j : Nat} (v : Int) (h : j ≠ m) : upd f m v j = f j := by simp [upd, h]
def Bo (n : Nat) (f : Nat → Int) : List D := (List.range n).map (fun j => .int .i64 (f j))
theorem BV (n : Nat) (f : Nat → Int) : (Bo n f).length = n := by simp [Bo]
theorem Dw {n : Nat} (f : Nat → Int) {j : Nat} (h : j < n) : (Bo n f)[j]? = some (.int .i64 (f j)) := by simp [Bo, h]
theorem Iv (n : Nat) (f : Nat → Int) (m : Nat) (v : Int) : (Bo n f).set m (.int .i64 v) = Bo n (upd f m v) := by
 refine List.ext_getElem? fun j => ?_
 by_cases e : m = j
 ·subst e
  by_cases hm : m < n
  ·rw [Dw _ hm, Ao]; simp [BV, hm]
  ·rw [List.getElem?_eq_none (by simp [BV]; omega), List.getElem?_eq_none (by simp [BV]; omega)]
 ·rw [List.getElem?_set_ne e]
  simp only [Bo, List.getElem?_map]
  cases hj : (List.range n)[j]? with
  | none => rfl
  | some x =>
   have : x = j := by
    rw [List.getElem?_eq_some_iff] at hj
    obtain ⟨h, e⟩ := hj
    simpa using e.symm
   subst this
   simp [AJ _ _ (Ne.symm e)]
theorem RF (n : Nat) (l : List D) : C.lowL n (l.map .d) = true := by induction l with | nil => rfl | cons a l ih => simp [C.lowL, C.low, ih]
theorem Iu (l : List D) : DY (l.map C.d) = some l := by
 induction l with
 | nil => rfl
 | cons a l ih => simp [DY, toD, ih]
end Go.Proofs.YtfgdbeijjbijnaaGreatDoor
set_option linter.unusedSimpArgs false
set_option linter.unusedVariables false
set_option maxRecDepth 100000
namespace Go.Proofs.YtfgdbeijjbijnaaGreatDoor
open Go Go.Abs Go.Proofs
set_option maxHeartbeats 1000000 in
theorem aO3 (l : List Int) (g : Nat) (caps : List C) (p : Int → Bool) (H : List AB) (hH : H.all (AB.low H.length) = true) (hcaps : C.lowL H.length caps = true)
  (hp : ∀ x ∈ l, Ad Tryz.prog g (I x :: caps.map .c) H (one (B (p x)) H)) : Ad Tryz.prog 295 [.c (.d (.sl (l.map iD))), .c (.fn (.func g) caps)] H (one (I (Bh p l)) H) := by
 refine BB (X := tx) (nt := 19) (rs := [.tmp 4]) Tryz.func295 rfl rfl rfl rfl mo (by kernel_rfl) rfl hH (fun hf => ?_)
 have hfit : l.length ≤ 140737488355328 := by
  have h : Fit _ := hf (.c (.d (.sl (l.map iD)))) (by simp)
  have := h.len; simpa [lim] using this
 simp only [go_sem, reduceIte, Nat.reduceEqDiff, Int.reduceNeg]
 refine go_loop (fun i : Nat => { slots := [(0, .c (.d (.sl (l.map iD)))), (1, .c (.fn (.func g) caps)), (7, I l.length), (8, I i)], heap := H, marks := [] }) (fun i => i ≤ l.length ∧ ∀ j x, j < i → l[j]? = some x → p x = false) (fun i => l.length - i) 0 mo (by kernel_rfl) ?_ ⟨Nat.zero_le _, by intro j r h; omega⟩ ?_
 ·refine ent_weaken [] (by simp) rfl (Nat.le_refl _) hH rfl ?_
  simp only [go_sem, reduceIte, Nat.reduceEqDiff, hcaps]
  all_goals first | exact .refl _ | exact ⟨.refl _, .refl _⟩ | exact ⟨.refl _, .refl _, .refl _⟩ | exact ⟨.refl _, _, rfl⟩ | exact ⟨_, rfl⟩ | exact ⟨.refl _, [], by simp⟩ | exact ⟨[], by simp⟩
 rintro i ⟨hi, hall⟩
 simp only [go_sem, reduceIte, Nat.reduceEqDiff, Int.reduceNeg]
 refine go_if (fun h => ?_) (fun h => ?_)
 ·have hlt : i < l.length := by simpa using h
  obtain ⟨x, hx⟩ := AD hlt
  simp only [go_sem, reduceIte, Nat.reduceEqDiff, Int.reduceNeg, hx, iD]
  refine ⟨by simp [hlt], ?_⟩
  refine Ar (hp x (List.mem_of_getElem? hx)) rfl rfl (by first | exact wk_refls _ | (repeat constructor)) ?_
  simp only [go_sem, reduceIte, Nat.reduceEqDiff, Int.reduceNeg]
  refine go_if (fun hb => ?_) (fun hb => ?_)
  ·simp only [go_sem, reduceIte, Nat.reduceEqDiff, Int.reduceNeg]
   have e : Bh p l = i := De hall hx hb
   rw [e]
   all_goals first | exact .refl _ | exact ⟨.refl _, .refl _⟩ | exact ⟨.refl _, .refl _, .refl _⟩ | exact ⟨.refl _, _, rfl⟩ | exact ⟨_, rfl⟩ | exact ⟨.refl _, [], by simp⟩ | exact ⟨[], by simp⟩
  ·simp only [go_sem, reduceIte, Nat.reduceEqDiff, Int.reduceNeg, Az hlt hfit]
   refine ⟨i + 1, ⟨hlt, Bw hall hx hb⟩, by omega, ?_⟩
   refine ent_weaken [] (by simp) rfl (Nat.le_refl _) hH rfl ?_
   simp only [go_sem, reduceIte, Nat.reduceEqDiff, hcaps]
 ·have hi' : i = l.length := by simp at h; omega
  have e : Bh p l = -1 := Co (fun j x hj hx => hall j x (by omega) hx)
  simp only [go_sem, reduceIte, Nat.reduceEqDiff, Int.reduceNeg]
  rw [e]
  all_goals first | exact .refl _ | exact ⟨.refl _, .refl _⟩ | exact ⟨.refl _, .refl _, .refl _⟩ | exact ⟨.refl _, _, rfl⟩ | exact ⟨_, rfl⟩ | exact ⟨.refl _, [], by simp⟩ | exact ⟨[], by simp⟩
set_option maxHeartbeats 1000000 in
theorem aE4 (l : List Int) (g : Nat) (caps : List C) (p : Int → Bool) (H : List AB) (hH : H.all (AB.low H.length) = true) (hcaps : C.lowL H.length caps = true)
  (hp : ∀ x ∈ l, Ad Tryz.prog g (I x :: caps.map .c) H (one (B (p x)) H)) : Ad Tryz.prog 187 [.c (.d (.sl (l.map iD))), .c (.fn (.func g) caps)] H (one (B (l.any p)) H) := by
 refine BB (X := tx) (nt := 9) (rs := [.tmp 4]) Tryz.func187 rfl rfl rfl rfl mo (by kernel_rfl) rfl hH (fun hf => ?_)
 simp only [go_sem, reduceIte, Nat.reduceEqDiff]
 refine Ar (aO3 l g caps p H hH hcaps hp) rfl rfl (by first | exact wk_refls _ | (repeat constructor)) ?_
 simp only [go_sem, reduceIte, Nat.reduceEqDiff]
 rw [Dt]
 all_goals first | exact .refl _ | exact ⟨.refl _, .refl _⟩ | exact ⟨.refl _, .refl _, .refl _⟩ | exact ⟨.refl _, _, rfl⟩ | exact ⟨_, rfl⟩ | exact ⟨.refl _, [], by simp⟩ | exact ⟨[], by simp⟩
def Hw (lo hi : Int) : List AB := [.cells [.d (.int .i64 lo)], .cells [.d (.int .i64 hi)]]
def inR (lo hi : Int) (l : List Int) : Bool := !l.any (fun n => decide (n < lo) || decide (hi < n))
theorem inR1 (lo hi x : Int) : inR lo hi [x] = decide (lo ≤ x ∧ x ≤ hi) := by
 rw [Bool.eq_iff_iff]; simp [inR]
def badP (r : Rd) (p : Po) : Bool := decide (p.fr < 0 ∨ p.to < p.fr ∨ r.pl ≤ p.to ∨ p.co < 0 ∨ 1000000 < p.co)
def aCt (r : Rd) : Int := if 24 < r.ps.length then 6 else if r.pl < 1 ∨ 40 < r.pl ∨ r.de < 0 ∨ 2 < r.de ∨ r.di < 0 ∨ 5 < r.di then 2 else if r.ps.any (badP r) then 2 else 0
end Go.Proofs.YtfgdbeijjbijnaaGreatDoor
set_option linter.unusedSimpArgs false
set_option linter.unusedVariables false
set_option maxRecDepth 100000
namespace Go.Proofs.YtfgdbeijjbijnaaGreatDoor
open Go Go.Abs Go.Proofs
def po (r : Rd) (i : Int) : Po := (r.ps[i.toNat]?).getD ⟨0, 0, 0⟩
structure OkR (r : Rd) : Prop where
 len : r.ps.length ≤ 24
 p1 : 1 ≤ r.pl
 p40 : r.pl ≤ 40
 d0 : 0 ≤ r.de
 d2 : r.de ≤ 2
 i0 : 0 ≤ r.di
 i5 : r.di ≤ 5
 ok : ∀ p ∈ r.ps, 0 ≤ p.fr ∧ p.fr ≤ p.to ∧ p.to < r.pl ∧ 0 ≤ p.co ∧ p.co ≤ 1000000
end Go.Proofs.YtfgdbeijjbijnaaGreatDoor
set_option linter.unusedSimpArgs false
set_option linter.unusedVariables false
set_option maxRecDepth 100000
namespace Go.Proofs.YtfgdbeijjbijnaaGreatDoor
open Go Go.Abs Go.Proofs
theorem EX {x : Int} (h1 : -9223372036854775808 ≤ x) (h2 : x ≤ 9223372036854775807) : wr .i64 x = x := by rw [Cl] <;> omega
theorem OkR.post {r : Rd} (h : OkR r) {i : Int} (h0 : 0 ≤ i) (hi : i < r.ps.length) : r.ps[i.toNat]? = some (po r i) ∧ 0 ≤ (po r i).fr ∧ (po r i).fr ≤ (po r i).to ∧ (po r i).to < r.pl ∧ 0 ≤ (po r i).co ∧ (po r i).co ≤ 1000000 := by
 obtain ⟨p, hp⟩ := AD (l := r.ps) (i := i.toNat) (by omega)
 have hpo : po r i = p := by simp [po, hp]
 rw [hpo]
 exact ⟨hp, h.ok p (List.mem_of_getElem? hp)⟩
theorem OkR.zero {r : Rd} (h : OkR r) : aCt r = 0 := by
 have := h.len; have := h.p1; have := h.p40; have := h.d0; have := h.d2; have := h.i0; have := h.i5
 unfold aCt
 rw [if_neg (by omega), if_neg (by omega), if_neg]
 rw [Bool.not_eq_true, List.any_eq_false]
 intro p hp
 have := h.ok p hp
 simp [badP]; omega
theorem GW (n : Nat) (f : Nat → Int) : BC 1 n (Bo n f) = (List.range n).map (fun k => iD (f k)) := by
 refine List.ext_getElem? fun i => ?_
 by_cases h : i < n
 ·rw [Dq 1 n _ i h, Nat.mul_one]
  have hlt : i < (Bo n f).length := by rw [BV]; exact h
  rw [List.drop_eq_getElem_cons hlt]
  have e : (Bo n f)[i]? = some (Bo n f)[i] := List.getElem?_eq_getElem hlt
  rw [Dw f h] at e
  rw [← Option.some.inj e]
  simp [h, iD]
 ·rw [List.getElem?_eq_none (by rw [BW]; omega), List.getElem?_eq_none (by simp; omega)]
def AH (n : Nat) (f : Nat → Int) : List C := (Bo n f).map .d
theorem Ba (m n : Nat) (f : Nat → Int) : C.lowL m (AH n f) = true := RF _ _
theorem Dx (n : Nat) (f : Nat → Int) (m : Nat) (v : Int) : (AH n f).set m (.d (.int .i64 v)) = AH n (upd f m v) := by
 rw [AH, AH, ← List.map_set, Iv]
theorem Tn (n : Nat) : zc [C.d (.int .i64 0)] n = AH n (fun _ => 0) := by
 rw [Q8]
 refine List.ext_getElem? fun j => ?_
 by_cases h : j < n
 ·simp [AH, Bo, h, List.getElem?_replicate]
 ·rw [List.getElem?_eq_none (by simp; omega), List.getElem?_eq_none (by simp [AH, Bo]; omega)]
theorem CM {n : Nat} (f : Nat → Int) {j : Nat} (h : j < n) : (AH n f)[j]? = some (.d (.int .i64 (f j))) := by rw [AH, List.getElem?_map, Dw _ h]; rfl
theorem BI (n : Nat) (f : Nat → Int) : (AH n f).length = n := by simp [AH, Bo]
end Go.Proofs.YtfgdbeijjbijnaaGreatDoor
set_option linter.unusedSimpArgs false
set_option linter.unusedVariables false
set_option maxRecDepth 100000
namespace Go.Proofs.YtfgdbeijjbijnaaGreatDoor
open Go Go.Abs Go.Proofs
def nn (a : Int) : Nat → Int × Int
 | 0 => (a, 1)
 | _ => (1, 0)
def kz : Nat → Int
 | 0 => 0
 | 1 => 1
 | _ => 2
end Go.Proofs.YtfgdbeijjbijnaaGreatDoor
set_option linter.unusedSimpArgs false
set_option linter.unusedVariables false
set_option maxRecDepth 100000
namespace Go.Proofs.YtfgdbeijjbijnaaGreatDoor
open Go Go.Abs Go.Proofs
def aCu : List (Nat × List Nat) := [(0, [0]), (1, [2])]
theorem AX : lookK aCu 0 = some [0] ∧ lookK aCu 1 = some [2] := ⟨rfl, rfl⟩
def Em : List (Nat × List Nat) := [(0, [0, 1]), (1, [0, 1, 5]), (2, [0, 1, 5, 6]), (3, [0, 1, 6, 11]), (4, [12]), (5, [4]), (6, [4]), (7, [0, 1, 13]), (8, [4]), (9, [0, 1, 16]), (10, [4]), (11, [19]), (12, [4]), (13, [4])]
theorem AY : lookK Em 0 = some [0, 1] ∧ lookK Em 1 = some [0, 1, 5] ∧ lookK Em 2 = some [0, 1, 5, 6] ∧ lookK Em 3 = some [0, 1, 6, 11] ∧ lookK Em 4 = some [12] ∧ lookK Em 5 = some [4] ∧ lookK Em 6 = some [4] ∧ lookK Em 7 = some [0, 1, 13] ∧ lookK Em 8 = some [4] ∧ lookK Em 9 = some [0, 1, 16] ∧ lookK Em 10 = some [4] ∧ lookK Em 11 = some [19] ∧ lookK Em 12 = some [4] ∧ lookK Em 13 = some [4] := ⟨rfl, rfl, rfl, rfl, rfl, rfl, rfl, rfl, rfl, rfl, rfl, rfl, rfl, rfl⟩
def EY : List (Nat × List Nat) := [(0, [0]), (1, [0, 3]), (2, [3, 6, 7, 8]), (3, [3, 6, 7, 8, 9]), (4, [3, 5, 6, 7, 8]), (5, [3, 5, 6, 7, 8, 14]), (6, [2]), (7, [3, 6, 7, 8]), (8, [2])]
theorem AZ : lookK EY 0 = some [0] ∧ lookK EY 1 = some [0, 3] ∧ lookK EY 2 = some [3, 6, 7, 8] ∧ lookK EY 3 = some [3, 6, 7, 8, 9] ∧ lookK EY 4 = some [3, 5, 6, 7, 8] ∧ lookK EY 5 = some [3, 5, 6, 7, 8, 14] ∧ lookK EY 6 = some [2] ∧ lookK EY 7 = some [3, 6, 7, 8] ∧ lookK EY 8 = some [2] := ⟨rfl, rfl, rfl, rfl, rfl, rfl, rfl, rfl, rfl⟩
def aCv : List (Nat × List Nat) := [(0, [2, 3]), (1, [4])]
theorem A0 : lookK aCv 0 = some [2, 3] ∧ lookK aCv 1 = some [4] := ⟨rfl, rfl⟩
def aCw : List (Nat × List Nat) := [(0, [2, 3, 4]), (1, [4])]
theorem A1 : lookK aCw 0 = some [2, 3, 4] ∧ lookK aCw 1 = some [4] := ⟨rfl, rfl⟩
def aCx : List (Nat × List Nat) := [(0, [2, 3]), (1, [4])]
theorem A2 : lookK aCx 0 = some [2, 3] ∧ lookK aCx 1 = some [4] := ⟨rfl, rfl⟩
def aCy : List (Nat × List Nat) := [(0, [2, 3]), (1, [4])]
theorem A3 : lookK aCy 0 = some [2, 3] ∧ lookK aCy 1 = some [4] := ⟨rfl, rfl⟩
def aFa : List (Nat × List Nat) := [(0, [1, 2, 3]), (1, [4])]
theorem A4 : lookK aFa 0 = some [1, 2, 3] ∧ lookK aFa 1 = some [4] := ⟨rfl, rfl⟩
def kp53 : List (Nat × List Nat) := [(0, [2, 3, 4]), (1, [6])]
theorem BP : lookK kp53 0 = some [2, 3, 4] ∧ lookK kp53 1 = some [6] := ⟨rfl, rfl⟩
def aCz : List (Nat × List Nat) := [(0, [0]), (1, [2])]
theorem A5 : lookK aCz 0 = some [0] ∧ lookK aCz 1 = some [2] := ⟨rfl, rfl⟩
def K2 : List (Nat × List Nat) := [(0, [1]), (1, [1, 17]), (2, [2]), (3, [26]), (4, [2]), (5, [2])]
theorem A6 : lookK K2 0 = some [1] ∧ lookK K2 1 = some [1, 17] ∧ lookK K2 2 = some [2] ∧ lookK K2 3 = some [26] ∧ lookK K2 4 = some [2] ∧ lookK K2 5 = some [2] := ⟨rfl, rfl, rfl, rfl, rfl, rfl⟩
def aFb : List (Nat × List Nat) := [(0, [0]), (1, [2])]
theorem A7 : lookK aFb 0 = some [0] ∧ lookK aFb 1 = some [2] := ⟨rfl, rfl⟩
def Gy : List (Nat × List Nat) := [(0, [0, 1]), (1, [0, 1, 7, 8]), (2, [0, 1, 7, 8, 9]), (3, [0, 1, 5, 7, 8]), (4, [0, 1, 5, 7, 8, 16]), (5, [4]), (6, [0, 1, 7, 8]), (7, [4])]
theorem A8 : lookK Gy 0 = some [0, 1] ∧ lookK Gy 1 = some [0, 1, 7, 8] ∧ lookK Gy 2 = some [0, 1, 7, 8, 9] ∧ lookK Gy 3 = some [0, 1, 5, 7, 8] ∧ lookK Gy 4 = some [0, 1, 5, 7, 8, 16] ∧ lookK Gy 5 = some [4] ∧ lookK Gy 6 = some [0, 1, 7, 8] ∧ lookK Gy 7 = some [4] := ⟨rfl, rfl, rfl, rfl, rfl, rfl, rfl, rfl⟩
def aCA : List (Nat × List Nat) := [(0, [0, 1]), (1, [4])]
theorem A9 : lookK aCA 0 = some [0, 1] ∧ lookK aCA 1 = some [4] := ⟨rfl, rfl⟩
theorem zn0 : ((0 : Nat) : Int) = 0 := rfl
theorem zn1 : ((1 : Nat) : Int) = 1 := rfl
theorem zn2 : ((2 : Nat) : Int) = 2 := rfl
theorem zn3 : ((3 : Nat) : Int) = 3 := rfl
theorem zn4 : ((4 : Nat) : Int) = 4 := rfl
theorem zn5 : ((5 : Nat) : Int) = 5 := rfl
theorem zn6 : ((6 : Nat) : Int) = 6 := rfl
theorem zn7 : ((7 : Nat) : Int) = 7 := rfl
theorem zn8 : ((8 : Nat) : Int) = 8 := rfl
theorem zn9 : ((9 : Nat) : Int) = 9 := rfl
theorem zn10 : ((10 : Nat) : Int) = 10 := rfl
theorem zn11 : ((11 : Nat) : Int) = 11 := rfl
theorem zn12 : ((12 : Nat) : Int) = 12 := rfl
attribute [go_sem] zn0 zn1 zn2 zn3 zn4 zn5 zn6 zn7 zn8 zn9 zn10 zn11 zn12 decide_true decide_false eq_self
theorem wa0 : wr .i64 (0 + 1) = 1 := by decide
theorem wa1 : wr .i64 (1 + 1) = 2 := by decide
theorem wa2 : wr .i64 (2 + 1) = 3 := by decide
theorem wa3 : wr .i64 (3 + 1) = 4 := by decide
theorem wa4 : wr .i64 (4 + 1) = 5 := by decide
theorem wa5 : wr .i64 (5 + 1) = 6 := by decide
theorem wa6 : wr .i64 (6 + 1) = 7 := by decide
theorem wa7 : wr .i64 (7 + 1) = 8 := by decide
theorem wa8 : wr .i64 (8 + 1) = 9 := by decide
theorem wa9 : wr .i64 (9 + 1) = 10 := by decide
theorem wa10 : wr .i64 (10 + 1) = 11 := by decide
theorem wa11 : wr .i64 (11 + 1) = 12 := by decide
theorem wa12 : wr .i64 (12 + 1) = 13 := by decide
theorem wb0 : wr .i64 (0 - 1) = -1 := by decide
theorem wb1 : wr .i64 (1 - 1) = 0 := by decide
theorem wb2 : wr .i64 (2 - 1) = 1 := by decide
theorem wb3 : wr .i64 (3 - 1) = 2 := by decide
theorem wb4 : wr .i64 (4 - 1) = 3 := by decide
theorem wb5 : wr .i64 (5 - 1) = 4 := by decide
theorem wb6 : wr .i64 (6 - 1) = 5 := by decide
theorem wb7 : wr .i64 (7 - 1) = 6 := by decide
theorem wb8 : wr .i64 (8 - 1) = 7 := by decide
theorem wb9 : wr .i64 (9 - 1) = 8 := by decide
theorem wb10 : wr .i64 (10 - 1) = 9 := by decide
theorem wb11 : wr .i64 (11 - 1) = 10 := by decide
theorem wb12 : wr .i64 (12 - 1) = 11 := by decide
attribute [go_sem] wa0 wa1 wa2 wa3 wa4 wa5 wa6 wa7 wa8 wa9 wa10 wa11 wa12 wb0 wb1 wb2 wb3 wb4 wb5 wb6 wb7 wb8 wb9 wb10 wb11 wb12
def qD (p : Int × Int) : List D := [.int .i64 p.1, .int .i64 p.2]
def qC (p : Int × Int) : List C := [.d (.int .i64 p.1), .d (.int .i64 p.2)]
def qV (p : Int × Int) : V := .agg (qC p)
def qs (l : List (Int × Int)) : V := .c (.d (.sl (l.map qD)))
def glC (l : List (Int × Int)) : List C := [.d (.sl (l.map qD)), .d (.sl [])]
def glV (l : List (Int × Int)) : V := .agg (glC l)
def EZ (a b : Int) : Int := if a < b then -1 else if b < a then 1 else 0
def BZ (p q : Int × Int) : Int := if EZ p.1 q.1 ≠ 0 then EZ p.1 q.1 else EZ p.2 q.2
theorem aCB (a : Int) : AF Tryz.prog 365 [I a] (B false) := by
 refine pure_wkE (bad := []) (kp := aCu) (X := tx) (nt := 6) (rs := [.tmp 2]) Tryz.func365 rfl rfl rfl rfl mo (by kernel_rfl) rfl rfl (fun hf => ?_)
 have e : (a != a) = false := bne_self_eq_false a
 simp (maxSteps := 2000000) only [go_sem, reduceIte, Nat.reduceEqDiff, Nat.reduceAdd, AX, AY, AZ, A0, A1, A2, A3, A4, BP, A5, A6, A7, A8, A9, e]
 all_goals first | exact .refl _ | exact ⟨.refl _, .refl _⟩ | exact ⟨.refl _, .refl _, .refl _⟩ | exact ⟨.refl _, _, rfl⟩ | exact ⟨_, rfl⟩ | exact ⟨.refl _, [], by simp⟩ | exact ⟨[], by simp⟩
set_option maxHeartbeats 1000000 in
theorem K3 (a b : Int) : AF Tryz.prog 304 [I a, I b] (I (EZ a b)) := by
 refine pure_wkE (bad := []) (kp := Em) (X := tx) (nt := 20) (rs := [.tmp 4]) Tryz.func304 rfl rfl rfl rfl mo (by kernel_rfl) rfl rfl (fun hf => ?_)
 simp (maxSteps := 2000000) only [go_sem, reduceIte, Nat.reduceEqDiff, Nat.reduceAdd, Int.reduceNeg, AX, AY, AZ, A0, A1, A2, A3, A4, BP, A5, A6, A7, A8, A9]
 refine Ac (aCB a) rfl rfl (by first | exact wk_refls _ | (repeat constructor)) ?_
 simp (maxSteps := 2000000) only [go_sem, reduceIte, Nat.reduceEqDiff, Int.reduceNeg, AX, AY, AZ, A0, A1, A2, A3, A4, BP, A5, A6, A7, A8, A9]
 refine Ac (aCB b) rfl rfl (by first | exact wk_refls _ | (repeat constructor)) ?_
 simp (maxSteps := 2000000) only [go_sem, reduceIte, Nat.reduceEqDiff, Nat.reduceAdd, Int.reduceNeg, AX, AY, AZ, A0, A1, A2, A3, A4, BP, A5, A6, A7, A8, A9]
 unfold EZ
 by_cases h : a < b
 ·simp (maxSteps := 2000000) only [go_sem, reduceIte, Nat.reduceEqDiff, Nat.reduceAdd, Int.reduceNeg, AX, AY, AZ, A0, A1, A2, A3, A4, BP, A5, A6, A7, A8, A9, h]
  all_goals first | exact .refl _ | exact ⟨.refl _, .refl _⟩ | exact ⟨.refl _, .refl _, .refl _⟩ | exact ⟨.refl _, _, rfl⟩ | exact ⟨_, rfl⟩ | exact ⟨.refl _, [], by simp⟩ | exact ⟨[], by simp⟩
 ·by_cases h2 : b < a
  ·simp (maxSteps := 2000000) only [go_sem, reduceIte, Nat.reduceEqDiff, Nat.reduceAdd, Int.reduceNeg, AX, AY, AZ, A0, A1, A2, A3, A4, BP, A5, A6, A7, A8, A9, h, h2]
   all_goals first | exact .refl _ | exact ⟨.refl _, .refl _⟩ | exact ⟨.refl _, .refl _, .refl _⟩ | exact ⟨.refl _, _, rfl⟩ | exact ⟨_, rfl⟩ | exact ⟨.refl _, [], by simp⟩ | exact ⟨[], by simp⟩
  ·simp (maxSteps := 2000000) only [go_sem, reduceIte, Nat.reduceEqDiff, Nat.reduceAdd, Int.reduceNeg, AX, AY, AZ, A0, A1, A2, A3, A4, BP, A5, A6, A7, A8, A9, h, h2]
   all_goals first | exact .refl _ | exact ⟨.refl _, .refl _⟩ | exact ⟨.refl _, .refl _, .refl _⟩ | exact ⟨.refl _, _, rfl⟩ | exact ⟨_, rfl⟩ | exact ⟨.refl _, [], by simp⟩ | exact ⟨[], by simp⟩
set_option maxHeartbeats 1000000 in
theorem aO4 (a b : Int) : AF Tryz.prog 303 [.c (.d (.sl [[.int .i64 a], [.int .i64 b]]))] (I (if a ≠ 0 then a else b)) := by
 refine pure_wkE (bad := []) (kp := EY) (X := tx) (nt := 18) (rs := [.tmp 2]) Tryz.func303 rfl rfl rfl rfl mo (by kernel_rfl) rfl rfl (fun hf => ?_)
 simp (maxSteps := 2000000) only [go_sem, reduceIte, Nat.reduceEqDiff, Nat.reduceAdd, AX, AY, AZ, A0, A1, A2, A3, A4, BP, A5, A6, A7, A8, A9]
 refine Ah 3 ?_
 refine Aa (bad := []) (kp := EY) mo (by kernel_rfl) ?_
 by_cases h : a = 0
 ·have e : decide (a = 0) = true := decide_eq_true h
  have e2 : (if a ≠ 0 then a else b) = b := by simp [h]
  simp (maxSteps := 2000000) only [go_sem, reduceIte, Nat.reduceEqDiff, Nat.reduceAdd, Int.reduceLT, Int.reduceLE, Int.reduceToNat, AX, AY, AZ, A0, A1, A2, A3, A4, BP, A5, A6, A7, A8, A9, e, e2]
  refine Aa (bad := []) (kp := EY) mo (by kernel_rfl) ?_
  by_cases h2 : b = 0
  ·have e3 : decide (b = 0) = true := decide_eq_true h2
   simp (maxSteps := 2000000) only [go_sem, reduceIte, Nat.reduceEqDiff, Nat.reduceAdd, Int.reduceLT, Int.reduceLE, Int.reduceToNat, AX, AY, AZ, A0, A1, A2, A3, A4, BP, A5, A6, A7, A8, A9, e3]
   refine Aa (bad := []) (kp := EY) mo (by kernel_rfl) ?_
   simp (maxSteps := 2000000) only [go_sem, reduceIte, Nat.reduceEqDiff, Nat.reduceAdd, Int.reduceLT, AX, AY, AZ, A0, A1, A2, A3, A4, BP, A5, A6, A7, A8, A9, h2]
   all_goals first | exact .refl _ | exact ⟨.refl _, .refl _⟩ | exact ⟨.refl _, .refl _, .refl _⟩ | exact ⟨.refl _, _, rfl⟩ | exact ⟨_, rfl⟩ | exact ⟨.refl _, [], by simp⟩ | exact ⟨[], by simp⟩
  ·have e3 : decide (b = 0) = false := decide_eq_false h2
   simp (maxSteps := 2000000) only [go_sem, reduceIte, Nat.reduceEqDiff, Nat.reduceAdd, Int.reduceLT, Int.reduceLE, Int.reduceToNat, AX, AY, AZ, A0, A1, A2, A3, A4, BP, A5, A6, A7, A8, A9, e3]
   all_goals first | exact .refl _ | exact ⟨.refl _, .refl _⟩ | exact ⟨.refl _, .refl _, .refl _⟩ | exact ⟨.refl _, _, rfl⟩ | exact ⟨_, rfl⟩ | exact ⟨.refl _, [], by simp⟩ | exact ⟨[], by simp⟩
 ·have e : decide (a = 0) = false := decide_eq_false h
  have e2 : (if a ≠ 0 then a else b) = a := by simp [h]
  simp (maxSteps := 2000000) only [go_sem, reduceIte, Nat.reduceEqDiff, Nat.reduceAdd, Int.reduceLT, Int.reduceLE, Int.reduceToNat, AX, AY, AZ, A0, A1, A2, A3, A4, BP, A5, A6, A7, A8, A9, e, e2]
  all_goals first | exact .refl _ | exact ⟨.refl _, .refl _⟩ | exact ⟨.refl _, .refl _, .refl _⟩ | exact ⟨.refl _, _, rfl⟩ | exact ⟨_, rfl⟩ | exact ⟨.refl _, [], by simp⟩ | exact ⟨[], by simp⟩
set_option maxHeartbeats 1000000 in
theorem DO (p q : Int × Int) : AF Tryz.prog 218 [qV p, qV q] (I (BZ p q)) := by
 refine pure_wkE (bad := []) (kp := aCv) (X := tx) (nt := 17) (rs := [.tmp 4]) Tryz.func218 rfl rfl rfl rfl mo (by kernel_rfl) rfl rfl (fun hf => ?_)
 simp (maxSteps := 2000000) only [go_sem, reduceIte, Nat.reduceEqDiff, Nat.reduceAdd, Nat.reduceLeDiff, Nat.reduceMul, Int.reduceLT, Int.reduceLE, Int.reduceToNat, AX, AY, AZ, A0, A1, A2, A3, A4, BP, A5, A6, A7, A8, A9, qV, qC]
 refine Af (K3 p.1 q.1) rfl rfl (by first | exact wk_refls _ | (repeat constructor)) (by kernel_rfl) ?_
 simp (maxSteps := 2000000) only [go_sem, reduceIte, Nat.reduceEqDiff, Nat.reduceAdd, Nat.reduceMul, Int.reduceLT, Int.reduceLE, Int.reduceToNat, AX, AY, AZ, A0, A1, A2, A3, A4, BP, A5, A6, A7, A8, A9]
 refine Af (K3 p.2 q.2) rfl rfl (by first | exact wk_refls _ | (repeat constructor)) (by kernel_rfl) ?_
 simp (maxSteps := 2000000) only [go_sem, reduceIte, Nat.reduceEqDiff, Nat.reduceAdd, Nat.reduceLeDiff, Nat.reduceBEq, Nat.reduceMul, AX, AY, AZ, A0, A1, A2, A3, A4, BP, A5, A6, A7, A8, A9]
 refine Af (aO4 (EZ p.1 q.1) (EZ p.2 q.2)) rfl rfl (by first | exact wk_refls _ | (repeat constructor)) (by kernel_rfl) ?_
 simp (maxSteps := 2000000) only [go_sem, reduceIte, Nat.reduceEqDiff, Nat.reduceAdd, AX, AY, AZ, A0, A1, A2, A3, A4, BP, A5, A6, A7, A8, A9, BZ]
 all_goals first | exact .refl _ | exact ⟨.refl _, .refl _⟩ | exact ⟨.refl _, .refl _, .refl _⟩ | exact ⟨.refl _, _, rfl⟩ | exact ⟨_, rfl⟩ | exact ⟨.refl _, [], by simp⟩ | exact ⟨[], by simp⟩
def Bd (K : Int) (p : Int × Int) : Prop := (-K ≤ p.1 ∧ p.1 ≤ K) ∧ -K ≤ p.2 ∧ p.2 ≤ K
theorem IB {K a b : Int} (ha : -K ≤ a ∧ a ≤ K) (hb : -K ≤ b ∧ b ≤ K) : -(K * K) ≤ a * b ∧ a * b ≤ K * K := by
 have hk : 0 ≤ K := by omega
 have h1 : a.natAbs ≤ K.toNat := by omega
 have h2 : b.natAbs ≤ K.toNat := by omega
 have h3 := Nat.mul_le_mul h1 h2
 rw [← Int.natAbs_mul] at h3
 have h4 : ((K.toNat * K.toNat : Nat) : Int) = K * K := by rw [Int.natCast_mul, Int.toNat_of_nonneg hk]
 omega
def Be (p q : Int × Int) : Int × Int := (p.1 - q.1, p.2 - q.2)
def Cw (p q : Int × Int) : Int := p.1 * q.2 - p.2 * q.1
def BJ (p q : Int × Int) : Int := p.1 * q.1 + p.2 * q.2
theorem Ol {p q : Int × Int} (hp : Bd 1000000 p) (hq : Bd 1000000 q) : wr .i64 (p.1 - q.1) = p.1 - q.1 ∧ wr .i64 (p.2 - q.2) = p.2 - q.2 := by
 obtain ⟨⟨a, b⟩, c, d⟩ := hp
 obtain ⟨⟨e, f⟩, g, h⟩ := hq
 exact ⟨EX (by omega) (by omega), EX (by omega) (by omega)⟩
theorem IC {p q : Int × Int} (hp : Bd 1000000 p) (hq : Bd 1000000 q) : wr .i64 (p.1 * q.2) = p.1 * q.2 ∧ wr .i64 (p.2 * q.1) = p.2 * q.1 ∧ wr .i64 (p.1 * q.2 - p.2 * q.1) = p.1 * q.2 - p.2 * q.1 ∧ wr .i64 (p.1 * q.1) = p.1 * q.1 ∧ wr .i64 (p.2 * q.2) = p.2 * q.2 ∧ wr .i64 (p.1 * q.1 + p.2 * q.2) = p.1 * q.1 + p.2 * q.2 := by
 have h1 := IB hp.1 hq.2
 have h2 := IB hp.2 hq.1
 have h3 := IB hp.1 hq.1
 have h4 := IB hp.2 hq.2
 exact ⟨EX (by omega) (by omega), EX (by omega) (by omega), EX (by omega) (by omega), EX (by omega) (by omega), EX (by omega) (by omega), EX (by omega) (by omega)⟩
set_option maxHeartbeats 1000000 in
theorem Ez {p q : Int × Int} (hp : Bd 1000000 p) (hq : Bd 1000000 q) : AF Tryz.prog 136 [qV p, qV q] (qV (Be p q)) := by
 refine pure_wkE (bad := []) (kp := aCw) (X := tx) (nt := 16) (rs := [.cell 4 132]) Tryz.func136 rfl rfl rfl rfl mo (by kernel_rfl) rfl rfl (fun hf => ?_)
 obtain ⟨w1, w2⟩ := Ol hp hq
 simp (maxSteps := 2000000) only [go_sem, reduceIte, Nat.reduceEqDiff, Nat.reduceAdd, Nat.reduceLeDiff, Nat.reduceBEq, Nat.reduceMul, Int.reduceLT, Int.reduceLE, Int.reduceToNat, AX, AY, AZ, A0, A1, A2, A3, A4, BP, A5, A6, A7, A8, A9, qV, qC, Be, w1, w2]
 all_goals first | exact .refl _ | exact ⟨.refl _, .refl _⟩ | exact ⟨.refl _, .refl _, .refl _⟩ | exact ⟨.refl _, _, rfl⟩ | exact ⟨_, rfl⟩ | exact ⟨.refl _, [], by simp⟩ | exact ⟨[], by simp⟩
set_option maxHeartbeats 1000000 in
theorem K4 {p q : Int × Int} (hp : Bd 1000000 p) (hq : Bd 1000000 q) : AF Tryz.prog 137 [qV p, qV q] (I (Cw p q)) := by
 refine pure_wkE (bad := []) (kp := aCx) (X := tx) (nt := 16) (rs := [.tmp 4]) Tryz.func137 rfl rfl rfl rfl mo (by kernel_rfl) rfl rfl (fun hf => ?_)
 obtain ⟨w1, w2, w3, _⟩ := IC hp hq
 simp (maxSteps := 2000000) only [go_sem, reduceIte, Nat.reduceEqDiff, Nat.reduceAdd, Nat.reduceLeDiff, Nat.reduceMul, Int.reduceLT, Int.reduceLE, Int.reduceToNat, AX, AY, AZ, A0, A1, A2, A3, A4, BP, A5, A6, A7, A8, A9, qV, qC, Cw, w1, w2, w3]
 all_goals first | exact .refl _ | exact ⟨.refl _, .refl _⟩ | exact ⟨.refl _, .refl _, .refl _⟩ | exact ⟨.refl _, _, rfl⟩ | exact ⟨_, rfl⟩ | exact ⟨.refl _, [], by simp⟩ | exact ⟨[], by simp⟩
set_option maxHeartbeats 1000000 in
theorem aCC {p q : Int × Int} (hp : Bd 1000000 p) (hq : Bd 1000000 q) : AF Tryz.prog 138 [qV p, qV q] (I (BJ p q)) := by
 refine pure_wkE (bad := []) (kp := aCy) (X := tx) (nt := 16) (rs := [.tmp 4]) Tryz.func138 rfl rfl rfl rfl mo (by kernel_rfl) rfl rfl (fun hf => ?_)
 obtain ⟨_, _, _, w1, w2, w3⟩ := IC hp hq
 simp (maxSteps := 2000000) only [go_sem, reduceIte, Nat.reduceEqDiff, Nat.reduceAdd, Nat.reduceLeDiff, Nat.reduceMul, Int.reduceLT, Int.reduceLE, Int.reduceToNat, AX, AY, AZ, A0, A1, A2, A3, A4, BP, A5, A6, A7, A8, A9, qV, qC, BJ, w1, w2, w3]
 all_goals first | exact .refl _ | exact ⟨.refl _, .refl _⟩ | exact ⟨.refl _, .refl _, .refl _⟩ | exact ⟨.refl _, _, rfl⟩ | exact ⟨_, rfl⟩ | exact ⟨.refl _, [], by simp⟩ | exact ⟨[], by simp⟩
theorem aCD {l : List (Int × Int)} (h : FL (qs l)) : l.length ≤ 140737488355328 := by have h : Fit _ := h; have := h.len; simpa [lim] using this
set_option maxHeartbeats 1000000 in
theorem aGR (l : List (Int × Int)) (g : Nat) (caps : List C) (p : Int × Int → Bool) (H : List AB) (hH : H.all (AB.low H.length) = true) (hcaps : C.lowL H.length caps = true)
  (hp : ∀ x ∈ l, Ad Tryz.prog g (qV x :: caps.map .c) H (one (B (p x)) H)) : Ad Tryz.prog 224 [qs l, .c (.fn (.func g) caps)] H (one (I (Bh p l)) H) := by
 refine BB (X := tx) (nt := 19) (rs := [.tmp 4]) Tryz.func224 rfl rfl rfl rfl mo (by kernel_rfl) rfl hH (fun hf => ?_)
 have hfit : l.length ≤ 140737488355328 := aCD (hf (qs l) (by simp))
 simp (maxSteps := 2000000) only [go_sem, reduceIte, Nat.reduceEqDiff, Int.reduceNeg, AX, AY, AZ, A0, A1, A2, A3, A4, BP, A5, A6, A7, A8, A9, qs, qD]
 refine go_loop (fun i : Nat => { slots := [(0, qs l), (1, .c (.fn (.func g) caps)), (7, I l.length), (8, I i)], heap := H, marks := [] }) (fun i => i ≤ l.length ∧ ∀ j x, j < i → l[j]? = some x → p x = false) (fun i => l.length - i) 0 mo (by kernel_rfl) ?_ ⟨Nat.zero_le _, by intro j r h; omega⟩ ?_
 ·refine ent_weaken [] (by simp) rfl (Nat.le_refl _) hH rfl ?_
  simp (maxSteps := 2000000) only [go_sem, reduceIte, Nat.reduceEqDiff, AX, AY, AZ, A0, A1, A2, A3, A4, BP, A5, A6, A7, A8, A9, hcaps, qs, qD]
  all_goals first | exact .refl _ | exact ⟨.refl _, .refl _⟩ | exact ⟨.refl _, .refl _, .refl _⟩ | exact ⟨.refl _, _, rfl⟩ | exact ⟨_, rfl⟩ | exact ⟨.refl _, [], by simp⟩ | exact ⟨[], by simp⟩
 rintro i ⟨hi, hall⟩
 simp (maxSteps := 2000000) only [go_sem, reduceIte, Nat.reduceEqDiff, Int.reduceNeg, AX, AY, AZ, A0, A1, A2, A3, A4, BP, A5, A6, A7, A8, A9, qs, qD]
 refine go_if (fun h => ?_) (fun h => ?_)
 ·have hlt : i < l.length := by simpa using h
  obtain ⟨x, hx⟩ := AD hlt
  have hpx := hp x (List.mem_of_getElem? hx)
  simp only [qV, qC] at hpx
  simp (maxSteps := 2000000) only [go_sem, reduceIte, Nat.reduceEqDiff, Nat.reduceAdd, Int.reduceNeg, AX, AY, AZ, A0, A1, A2, A3, A4, BP, A5, A6, A7, A8, A9, hx, qs, qD]
  refine ⟨by simp [hlt], ?_⟩
  refine Ar (hpx) rfl rfl (by first | exact wk_refls _ | (repeat constructor)) ?_
  simp (maxSteps := 2000000) only [go_sem, reduceIte, Nat.reduceEqDiff, Int.reduceNeg, AX, AY, AZ, A0, A1, A2, A3, A4, BP, A5, A6, A7, A8, A9]
  refine go_if (fun hb => ?_) (fun hb => ?_)
  ·simp (maxSteps := 2000000) only [go_sem, reduceIte, Nat.reduceEqDiff, Int.reduceNeg, AX, AY, AZ, A0, A1, A2, A3, A4, BP, A5, A6, A7, A8, A9]
   have e : Bh p l = i := De hall hx hb
   rw [e]
   all_goals first | exact .refl _ | exact ⟨.refl _, .refl _⟩ | exact ⟨.refl _, .refl _, .refl _⟩ | exact ⟨.refl _, _, rfl⟩ | exact ⟨_, rfl⟩ | exact ⟨.refl _, [], by simp⟩ | exact ⟨[], by simp⟩
  ·simp (maxSteps := 2000000) only [go_sem, reduceIte, Nat.reduceEqDiff, Int.reduceNeg, AX, AY, AZ, A0, A1, A2, A3, A4, BP, A5, A6, A7, A8, A9, Az hlt hfit]
   refine ⟨i + 1, ⟨hlt, Bw hall hx hb⟩, by omega, ?_⟩
   refine ent_weaken [] (by simp) rfl (Nat.le_refl _) hH rfl ?_
   simp (maxSteps := 2000000) only [go_sem, reduceIte, Nat.reduceEqDiff, AX, AY, AZ, A0, A1, A2, A3, A4, BP, A5, A6, A7, A8, A9, hcaps]
 ·have hi' : i = l.length := by simp at h; omega
  have e : Bh p l = -1 := Co (fun j x hj hx => hall j x (by omega) hx)
  simp (maxSteps := 2000000) only [go_sem, reduceIte, Nat.reduceEqDiff, Int.reduceNeg, AX, AY, AZ, A0, A1, A2, A3, A4, BP, A5, A6, A7, A8, A9]
  rw [e]
  all_goals first | exact .refl _ | exact ⟨.refl _, .refl _⟩ | exact ⟨.refl _, .refl _, .refl _⟩ | exact ⟨.refl _, _, rfl⟩ | exact ⟨_, rfl⟩ | exact ⟨.refl _, [], by simp⟩ | exact ⟨[], by simp⟩
set_option maxHeartbeats 1000000 in
theorem aGS (l : List (Int × Int)) (g : Nat) (caps : List C) (p : Int × Int → Bool) (H : List AB) (hH : H.all (AB.low H.length) = true) (hcaps : C.lowL H.length caps = true)
  (hp : ∀ x ∈ l, Ad Tryz.prog g (qV x :: caps.map .c) H (one (B (p x)) H)) : Ad Tryz.prog 132 [qs l, .c (.fn (.func g) caps)] H (one (B (l.any p)) H) := by
 refine BB (X := tx) (nt := 9) (rs := [.tmp 4]) Tryz.func132 rfl rfl rfl rfl mo (by kernel_rfl) rfl hH (fun hf => ?_)
 simp (maxSteps := 2000000) only [go_sem, reduceIte, Nat.reduceEqDiff, AX, AY, AZ, A0, A1, A2, A3, A4, BP, A5, A6, A7, A8, A9]
 refine Ar (aGR l g caps p H hH hcaps hp) rfl rfl (by first | exact wk_refls _ | (repeat constructor)) ?_
 simp (maxSteps := 2000000) only [go_sem, reduceIte, Nat.reduceEqDiff, AX, AY, AZ, A0, A1, A2, A3, A4, BP, A5, A6, A7, A8, A9]
 rw [Dt]
 all_goals first | exact .refl _ | exact ⟨.refl _, .refl _⟩ | exact ⟨.refl _, .refl _, .refl _⟩ | exact ⟨.refl _, _, rfl⟩ | exact ⟨_, rfl⟩ | exact ⟨.refl _, [], by simp⟩ | exact ⟨[], by simp⟩
def CZ (lo hi : Int) (p : Int × Int) : Bool := decide (min p.1 p.2 < lo) || decide (hi < max p.1 p.2)
theorem aGT (lo hi : Int) (p : Int × Int) : Ad Tryz.prog 133 [qV p, .c (.ptr 0 0), .c (.ptr 1 0)] (Hw lo hi) (one (B (CZ lo hi p)) (Hw lo hi)) := by
 refine BB (X := tx) (nt := 21) (rs := [.tmp 4]) Tryz.func133 rfl rfl rfl rfl mo (by kernel_rfl) rfl rfl (fun hf => ?_)
 have m1 : L4 p.1 [p.2] = min p.1 p.2 := by simp [L4]
 have m2 : Jz p.1 [p.2] = max p.1 p.2 := by simp [Jz]
 unfold CZ
 by_cases h : min p.1 p.2 < lo
 ·simp (maxSteps := 2000000) only [go_sem, reduceIte, Nat.reduceEqDiff, Nat.reduceAdd, Nat.reduceLeDiff, Nat.reduceBEq, AX, AY, AZ, A0, A1, A2, A3, A4, BP, A5, A6, A7, A8, A9, Hw, qV, qC, m1, m2, h]
  all_goals first | exact .refl _ | exact ⟨.refl _, .refl _⟩ | exact ⟨.refl _, .refl _, .refl _⟩ | exact ⟨.refl _, _, rfl⟩ | exact ⟨_, rfl⟩ | exact ⟨.refl _, [], by simp⟩ | exact ⟨[], by simp⟩
 ·simp (maxSteps := 2000000) only [go_sem, reduceIte, Nat.reduceEqDiff, Nat.reduceAdd, Nat.reduceLeDiff, Nat.reduceBEq, AX, AY, AZ, A0, A1, A2, A3, A4, BP, A5, A6, A7, A8, A9, Hw, qV, qC, m1, m2, h]
  all_goals first | exact .refl _ | exact ⟨.refl _, .refl _⟩ | exact ⟨.refl _, .refl _, .refl _⟩ | exact ⟨.refl _, _, rfl⟩ | exact ⟨_, rfl⟩ | exact ⟨.refl _, [], by simp⟩ | exact ⟨[], by simp⟩
set_option maxHeartbeats 1000000 in
theorem K5 (lo hi : Int) (l : List (Int × Int)) : AF Tryz.prog 53 [I lo, I hi, qs l] (B (!l.any (CZ lo hi))) := by
 refine JO (X := tx) (nt := 11) (rs := [.tmp 6]) Tryz.func53 rfl rfl rfl rfl mo (by kernel_rfl) rfl rfl (fun hf => ?_)
 simp (maxSteps := 2000000) only [go_sem, reduceIte, Nat.reduceEqDiff, Nat.reduceAdd, AX, AY, AZ, A0, A1, A2, A3, A4, BP, A5, A6, A7, A8, A9, qs]
 refine Ar (aGS l 133 [.ptr 0 0, .ptr 1 0] (CZ lo hi) (Hw lo hi) rfl rfl (fun x _ => aGT lo hi x)) rfl rfl (by first | exact wk_refls _ | (repeat constructor)) ?_
 simp (maxSteps := 2000000) only [go_sem, reduceIte, Nat.reduceEqDiff, AX, AY, AZ, A0, A1, A2, A3, A4, BP, A5, A6, A7, A8, A9]
 all_goals first | exact .refl _ | exact ⟨.refl _, .refl _⟩ | exact ⟨.refl _, .refl _, .refl _⟩ | exact ⟨.refl _, _, rfl⟩ | exact ⟨_, rfl⟩ | exact ⟨.refl _, [], by simp⟩ | exact ⟨[], by simp⟩
theorem aEF (l : List (Int × Int)) : AF Tryz.prog 199 [qs l] (B (decide ((0 : Int) < l.length) && decide ((l.length : Int) ≤ 12))) := by
 refine pure_wkE (bad := []) (kp := aCz) (X := tx) (nt := 11) (rs := [.tmp 2]) Tryz.func199 rfl rfl rfl rfl mo (by kernel_rfl) rfl rfl (fun hf => ?_)
 by_cases h : (0 : Int) < l.length
 ·simp (maxSteps := 2000000) only [go_sem, reduceIte, Nat.reduceEqDiff, Nat.reduceAdd, AX, AY, AZ, A0, A1, A2, A3, A4, BP, A5, A6, A7, A8, A9, qs, h, Bool.true_and]
  all_goals first | exact .refl _ | exact ⟨.refl _, .refl _⟩ | exact ⟨.refl _, .refl _, .refl _⟩ | exact ⟨.refl _, _, rfl⟩ | exact ⟨_, rfl⟩ | exact ⟨.refl _, [], by simp⟩ | exact ⟨[], by simp⟩
 ·simp (maxSteps := 2000000) only [go_sem, reduceIte, Nat.reduceEqDiff, Nat.reduceAdd, AX, AY, AZ, A0, A1, A2, A3, A4, BP, A5, A6, A7, A8, A9, qs, h, Bool.false_and]
  all_goals first | exact .refl _ | exact ⟨.refl _, .refl _⟩ | exact ⟨.refl _, .refl _, .refl _⟩ | exact ⟨.refl _, _, rfl⟩ | exact ⟨_, rfl⟩ | exact ⟨.refl _, [], by simp⟩ | exact ⟨[], by simp⟩
theorem aGU (g : Nat) : AF Tryz.prog 301 [.c (.d (.sl [])), .c (.fn (.func g) [])] (I (-1)) := by
 refine pure_wkE (bad := []) (kp := Gy) (X := tx) (nt := 19) (rs := [.tmp 4]) Tryz.func301 rfl rfl rfl rfl mo (by kernel_rfl) rfl rfl (fun hf => ?_)
 simp (maxSteps := 2000000) only [go_sem, reduceIte, Nat.reduceEqDiff, Nat.reduceAdd, Int.reduceNeg, AX, AY, AZ, A0, A1, A2, A3, A4, BP, A5, A6, A7, A8, A9]
 refine Ah 1 ?_
 refine Aa (bad := []) (kp := Gy) mo (by kernel_rfl) ?_
 simp (maxSteps := 2000000) only [go_sem, reduceIte, Nat.reduceEqDiff, Nat.reduceAdd, Int.reduceNeg, Int.reduceLT, AX, AY, AZ, A0, A1, A2, A3, A4, BP, A5, A6, A7, A8, A9]
 all_goals first | exact .refl _ | exact ⟨.refl _, .refl _⟩ | exact ⟨.refl _, .refl _, .refl _⟩ | exact ⟨.refl _, _, rfl⟩ | exact ⟨_, rfl⟩ | exact ⟨.refl _, [], by simp⟩ | exact ⟨[], by simp⟩
theorem aCE (g : Nat) : AF Tryz.prog 214 [.c (.d (.sl [])), .c (.fn (.func g) [])] (B false) := by
 refine pure_wkE (bad := []) (kp := aCA) (X := tx) (nt := 9) (rs := [.tmp 4]) Tryz.func214 rfl rfl rfl rfl mo (by kernel_rfl) rfl rfl (fun hf => ?_)
 simp (maxSteps := 2000000) only [go_sem, reduceIte, Nat.reduceEqDiff, Nat.reduceAdd, AX, AY, AZ, A0, A1, A2, A3, A4, BP, A5, A6, A7, A8, A9]
 refine Ac (aGU g) rfl rfl (by first | exact wk_refls _ | (repeat constructor)) ?_
 simp (maxSteps := 2000000) only [go_sem, reduceIte, Nat.reduceEqDiff, Int.reduceNeg, Int.reduceLE, AX, AY, AZ, A0, A1, A2, A3, A4, BP, A5, A6, A7, A8, A9]
 all_goals first | exact .refl _ | exact ⟨.refl _, .refl _⟩ | exact ⟨.refl _, .refl _, .refl _⟩ | exact ⟨.refl _, _, rfl⟩ | exact ⟨_, rfl⟩ | exact ⟨.refl _, [], by simp⟩ | exact ⟨[], by simp⟩
def okG (l : List (Int × Int)) : Bool := decide ((0 : Int) < l.length) && decide ((l.length : Int) ≤ 12) && !l.any (CZ 0 1000)
set_option maxHeartbeats 1000000 in
theorem Mn (l : List (Int × Int)) (h : okG l = true) : AF Tryz.prog 128 [glV l] (I 0) := by
 refine pure_wkE (bad := []) (kp := K2) (X := tx) (nt := 27) (rs := [.tmp 2]) Tryz.func128 rfl rfl rfl rfl mo (by kernel_rfl) rfl rfl (fun hf => ?_)
 have h1 := aEF l
 have h2 := K5 0 1000 l
 simp only [okG, Bool.and_eq_true] at h
 rw [h.1.1, h.1.2] at h1
 rw [h.2] at h2
 simp only [qs] at h1 h2
 simp (maxSteps := 2000000) only [go_sem, reduceIte, Nat.reduceEqDiff, Nat.reduceAdd, Nat.reduceLeDiff, Nat.reduceBEq, AX, AY, AZ, A0, A1, A2, A3, A4, BP, A5, A6, A7, A8, A9, glV, glC]
 refine Ac (h1) rfl rfl (by first | exact wk_refls _ | (repeat constructor)) ?_
 simp (maxSteps := 2000000) only [go_sem, reduceIte, Nat.reduceEqDiff, Nat.reduceAdd, Nat.reduceBEq, Int.reduceLT, AX, AY, AZ, A0, A1, A2, A3, A4, BP, A5, A6, A7, A8, A9]
 refine Ac (aCE 215) rfl rfl (by first | exact wk_refls _ | (repeat constructor)) ?_
 simp (maxSteps := 2000000) only [go_sem, reduceIte, Nat.reduceEqDiff, Nat.reduceAdd, Nat.reduceLeDiff, Nat.reduceBEq, AX, AY, AZ, A0, A1, A2, A3, A4, BP, A5, A6, A7, A8, A9]
 refine Ac (h2) rfl rfl (by first | exact wk_refls _ | (repeat constructor)) ?_
 simp (maxSteps := 2000000) only [go_sem, reduceIte, Nat.reduceEqDiff, Nat.reduceAdd, Nat.reduceBEq, AX, AY, AZ, A0, A1, A2, A3, A4, BP, A5, A6, A7, A8, A9]
 refine Ac (aCE 216) rfl rfl (by first | exact wk_refls _ | (repeat constructor)) ?_
 simp (maxSteps := 2000000) only [go_sem, reduceIte, Nat.reduceEqDiff, Nat.reduceAdd, AX, AY, AZ, A0, A1, A2, A3, A4, BP, A5, A6, A7, A8, A9]
 all_goals first | exact .refl _ | exact ⟨.refl _, .refl _⟩ | exact ⟨.refl _, .refl _, .refl _⟩ | exact ⟨.refl _, _, rfl⟩ | exact ⟨_, rfl⟩ | exact ⟨.refl _, [], by simp⟩ | exact ⟨[], by simp⟩
end Go.Proofs.YtfgdbeijjbijnaaGreatDoor
set_option linter.unusedSimpArgs false
set_option linter.unusedVariables false
set_option maxRecDepth 100000
namespace Go.Proofs.YtfgdbeijjbijnaaGreatDoor
open Go Go.Abs Go.Proofs
def Cy : List (Nat × List Nat) := [(0, [0, 1, 2, 3, 8]), (1, [0, 1, 2, 3, 8, 14]), (2, [0, 1, 2, 3, 8]), (3, [0, 1, 2, 3, 8, 9]), (4, [0, 1, 2, 3, 8, 9, 34]), (5, [0, 1, 2, 3, 8, 9]), (6, [0, 1, 2, 3, 8, 9])]
theorem Ck : lookK Cy 0 = some [0, 1, 2, 3, 8] ∧ lookK Cy 1 = some [0, 1, 2, 3, 8, 14] ∧ lookK Cy 2 = some [0, 1, 2, 3, 8] ∧ lookK Cy 3 = some [0, 1, 2, 3, 8, 9] ∧ lookK Cy 4 = some [0, 1, 2, 3, 8, 9, 34] ∧ lookK Cy 5 = some [0, 1, 2, 3, 8, 9] ∧ lookK Cy 6 = some [0, 1, 2, 3, 8, 9] := ⟨rfl, rfl, rfl, rfl, rfl, rfl, rfl⟩
def c4 (a b c d : Int × Int) : List C := [.d (.int .i64 a.1), .d (.int .i64 a.2), .d (.int .i64 b.1), .d (.int .i64 b.2), .d (.int .i64 c.1), .d (.int .i64 c.2), .d (.int .i64 d.1), .d (.int .i64 d.2)]
set_option maxHeartbeats 8000000 in
theorem aFc {a b c d : Int × Int} (h1 : ¬ BZ b a < 0) (h2 : ¬ BZ c b < 0) (h3 : ¬ BZ d c < 0) : Ad Tryz.prog 366 [.c (.ms 0 0 4 4), I 0, I 4, .c (.fn (.func 218) [])] [.cells (c4 a b c d)] (one (.tup []) [.cells (c4 a b c d)]) := by
 refine Ad.drop2 (Nat.le_refl _) rfl rfl ?_
 refine acall_fitE (bad := [6]) (kp := Cy) (X := tx) (nt := 53) (rs := []) Tryz.func366 rfl rfl rfl rfl mo (by kernel_rfl) (fun hf => ?_)
 have e1 : decide (BZ b a < 0) = false := decide_eq_false h1
 have e2 : decide (BZ c b < 0) = false := decide_eq_false h2
 have e3 : decide (BZ d c < 0) = false := decide_eq_false h3
 have o1 := DO b a
 have o2 := DO c b
 have o3 := DO d c
 simp only [qV, qC] at o1 o2 o3
 simp (maxSteps := 2000000) only [go_sem, reduceIte, Nat.reduceEqDiff, Nat.reduceAdd, Nat.reduceBEq, Ck, c4]
 refine Ah 4 ?_
 refine Aa (bad := [6]) (kp := Cy) mo (by kernel_rfl) ?_
 simp (maxSteps := 2000000) only [go_sem, reduceIte, Nat.reduceEqDiff, Nat.reduceAdd, Nat.reduceBEq, Int.reduceLT, Ck]
 refine Ah 4 ?_
 refine Aa (bad := [6]) (kp := Cy) mo (by kernel_rfl) ?_
 simp (maxSteps := 2000000) only [go_sem, reduceIte, Nat.reduceEqDiff, Nat.reduceAdd, Nat.reduceLeDiff, Nat.reduceBEq, Nat.reduceMul, Int.reduceLT, Int.reduceLE, Int.reduceToNat, Ck]
 refine Af (o1) rfl rfl (by first | exact wk_refls _ | (repeat constructor)) (by kernel_rfl) ?_
 simp (maxSteps := 2000000) only [go_sem, reduceIte, Nat.reduceEqDiff, Nat.reduceAdd, Nat.reduceBEq, Ck, e1]
 refine Aa (bad := [6]) (kp := Cy) mo (by kernel_rfl) ?_
 simp (maxSteps := 2000000) only [go_sem, reduceIte, Nat.reduceEqDiff, Nat.reduceAdd, Nat.reduceBEq, Int.reduceLT, Ck]
 refine Ah 4 ?_
 refine Aa (bad := [6]) (kp := Cy) mo (by kernel_rfl) ?_
 simp (maxSteps := 2000000) only [go_sem, reduceIte, Nat.reduceEqDiff, Nat.reduceAdd, Nat.reduceLeDiff, Nat.reduceBEq, Nat.reduceMul, Int.reduceLT, Int.reduceLE, Int.reduceToNat, Ck]
 refine Af (o2) rfl rfl (by first | exact wk_refls _ | (repeat constructor)) (by kernel_rfl) ?_
 simp (maxSteps := 2000000) only [go_sem, reduceIte, Nat.reduceEqDiff, Nat.reduceAdd, Nat.reduceBEq, Ck, e2]
 refine Aa (bad := [6]) (kp := Cy) mo (by kernel_rfl) ?_
 simp (maxSteps := 2000000) only [go_sem, reduceIte, Nat.reduceEqDiff, Nat.reduceAdd, Nat.reduceBEq, Int.reduceLT, Ck]
 refine Ah 4 ?_
 refine Aa (bad := [6]) (kp := Cy) mo (by kernel_rfl) ?_
 simp (maxSteps := 2000000) only [go_sem, reduceIte, Nat.reduceEqDiff, Nat.reduceAdd, Nat.reduceLeDiff, Nat.reduceBEq, Nat.reduceMul, Int.reduceLT, Int.reduceLE, Int.reduceToNat, Ck]
 refine Af (o3) rfl rfl (by first | exact wk_refls _ | (repeat constructor)) (by kernel_rfl) ?_
 simp (maxSteps := 2000000) only [go_sem, reduceIte, Nat.reduceEqDiff, Nat.reduceAdd, Nat.reduceBEq, Ck, e3]
 refine Aa (bad := [6]) (kp := Cy) mo (by kernel_rfl) ?_
 simp (maxSteps := 2000000) only [go_sem, reduceIte, Nat.reduceEqDiff, Nat.reduceAdd, Nat.reduceBEq, Int.reduceLT, Ck]
 all_goals first | exact .refl _ | exact ⟨.refl _, .refl _⟩ | exact ⟨.refl _, .refl _, .refl _⟩ | exact ⟨.refl _, _, rfl⟩ | exact ⟨_, rfl⟩ | exact ⟨.refl _, [], by simp⟩ | exact ⟨[], by simp⟩
set_option maxHeartbeats 8000000 in
theorem aFd {a b c d : Int × Int} (h1 : ¬ BZ b a < 0) (h2 : ¬ BZ c b < 0) (h3 : BZ d c < 0) (h4 : BZ d b < 0) (h5 : ¬ BZ d a < 0) : Ad Tryz.prog 366 [.c (.ms 0 0 4 4), I 0, I 4, .c (.fn (.func 218) [])] [.cells (c4 a b c d)] (one (.tup []) [.cells (c4 a d b c)]) := by
 refine Ad.drop2 (Nat.le_refl _) rfl rfl ?_
 refine acall_fitE (bad := [6]) (kp := Cy) (X := tx) (nt := 53) (rs := []) Tryz.func366 rfl rfl rfl rfl mo (by kernel_rfl) (fun hf => ?_)
 have e1 : decide (BZ b a < 0) = false := decide_eq_false h1
 have e2 : decide (BZ c b < 0) = false := decide_eq_false h2
 have e3 : decide (BZ d c < 0) = true := decide_eq_true h3
 have e4 : decide (BZ d b < 0) = true := decide_eq_true h4
 have e5 : decide (BZ d a < 0) = false := decide_eq_false h5
 have o1 := DO b a
 have o2 := DO c b
 have o3 := DO d c
 have o4 := DO d b
 have o5 := DO d a
 simp only [qV, qC] at o1 o2 o3 o4 o5
 simp (maxSteps := 2000000) only [go_sem, reduceIte, Nat.reduceEqDiff, Nat.reduceAdd, Nat.reduceBEq, Ck, c4]
 refine Ah 4 ?_
 refine Aa (bad := [6]) (kp := Cy) mo (by kernel_rfl) ?_
 simp (maxSteps := 2000000) only [go_sem, reduceIte, Nat.reduceEqDiff, Nat.reduceAdd, Nat.reduceBEq, Int.reduceLT, Ck]
 refine Ah 4 ?_
 refine Aa (bad := [6]) (kp := Cy) mo (by kernel_rfl) ?_
 simp (maxSteps := 2000000) only [go_sem, reduceIte, Nat.reduceEqDiff, Nat.reduceAdd, Nat.reduceLeDiff, Nat.reduceBEq, Nat.reduceMul, Int.reduceLT, Int.reduceLE, Int.reduceToNat, Ck]
 refine Af (o1) rfl rfl (by first | exact wk_refls _ | (repeat constructor)) (by kernel_rfl) ?_
 simp (maxSteps := 2000000) only [go_sem, reduceIte, Nat.reduceEqDiff, Nat.reduceAdd, Nat.reduceBEq, Ck, e1]
 refine Aa (bad := [6]) (kp := Cy) mo (by kernel_rfl) ?_
 simp (maxSteps := 2000000) only [go_sem, reduceIte, Nat.reduceEqDiff, Nat.reduceAdd, Nat.reduceBEq, Int.reduceLT, Ck]
 refine Ah 4 ?_
 refine Aa (bad := [6]) (kp := Cy) mo (by kernel_rfl) ?_
 simp (maxSteps := 2000000) only [go_sem, reduceIte, Nat.reduceEqDiff, Nat.reduceAdd, Nat.reduceLeDiff, Nat.reduceBEq, Nat.reduceMul, Int.reduceLT, Int.reduceLE, Int.reduceToNat, Ck]
 refine Af (o2) rfl rfl (by first | exact wk_refls _ | (repeat constructor)) (by kernel_rfl) ?_
 simp (maxSteps := 2000000) only [go_sem, reduceIte, Nat.reduceEqDiff, Nat.reduceAdd, Nat.reduceBEq, Ck, e2]
 refine Aa (bad := [6]) (kp := Cy) mo (by kernel_rfl) ?_
 simp (maxSteps := 2000000) only [go_sem, reduceIte, Nat.reduceEqDiff, Nat.reduceAdd, Nat.reduceBEq, Int.reduceLT, Ck]
 refine Ah 4 ?_
 refine Aa (bad := [6]) (kp := Cy) mo (by kernel_rfl) ?_
 simp (maxSteps := 2000000) only [go_sem, reduceIte, Nat.reduceEqDiff, Nat.reduceAdd, Nat.reduceLeDiff, Nat.reduceBEq, Nat.reduceMul, Int.reduceLT, Int.reduceLE, Int.reduceToNat, Ck]
 refine Af (o3) rfl rfl (by first | exact wk_refls _ | (repeat constructor)) (by kernel_rfl) ?_
 simp (maxSteps := 2000000) only [go_sem, reduceIte, Nat.reduceEqDiff, Nat.reduceAdd, Nat.reduceLT, Nat.reduceLeDiff, Nat.reduceBEq, Nat.reduceMul, Int.reduceLT, Int.reduceLE, Int.reduceToNat, Ck, e3]
 refine ⟨by kernel_rfl, ?_⟩
 refine Aa (bad := [6]) (kp := Cy) mo (by kernel_rfl) ?_
 simp (maxSteps := 2000000) only [go_sem, reduceIte, Nat.reduceEqDiff, Nat.reduceAdd, Nat.reduceLeDiff, Nat.reduceBEq, Nat.reduceMul, Int.reduceLT, Int.reduceLE, Int.reduceToNat, Ck]
 refine Af (o4) rfl rfl (by first | exact wk_refls _ | (repeat constructor)) (by kernel_rfl) ?_
 simp (maxSteps := 2000000) only [go_sem, reduceIte, Nat.reduceEqDiff, Nat.reduceAdd, Nat.reduceLT, Nat.reduceLeDiff, Nat.reduceBEq, Nat.reduceMul, Int.reduceLT, Int.reduceLE, Int.reduceToNat, Ck, e4]
 refine ⟨by kernel_rfl, ?_⟩
 refine Aa (bad := [6]) (kp := Cy) mo (by kernel_rfl) ?_
 simp (maxSteps := 2000000) only [go_sem, reduceIte, Nat.reduceEqDiff, Nat.reduceAdd, Nat.reduceLeDiff, Nat.reduceBEq, Nat.reduceMul, Int.reduceLT, Int.reduceLE, Int.reduceToNat, Ck]
 refine Af (o5) rfl rfl (by first | exact wk_refls _ | (repeat constructor)) (by kernel_rfl) ?_
 simp (maxSteps := 2000000) only [go_sem, reduceIte, Nat.reduceEqDiff, Nat.reduceAdd, Nat.reduceBEq, Ck, e5]
 refine Aa (bad := [6]) (kp := Cy) mo (by kernel_rfl) ?_
 simp (maxSteps := 2000000) only [go_sem, reduceIte, Nat.reduceEqDiff, Nat.reduceAdd, Nat.reduceBEq, Int.reduceLT, Ck]
 all_goals first | exact .refl _ | exact ⟨.refl _, .refl _⟩ | exact ⟨.refl _, .refl _, .refl _⟩ | exact ⟨.refl _, _, rfl⟩ | exact ⟨_, rfl⟩ | exact ⟨.refl _, [], by simp⟩ | exact ⟨[], by simp⟩
end Go.Proofs.YtfgdbeijjbijnaaGreatDoor
set_option linter.unusedSimpArgs false
set_option linter.unusedVariables false
set_option maxRecDepth 100000
namespace Go.Proofs.YtfgdbeijjbijnaaGreatDoor
open Go Go.Abs Go.Proofs
def BG : List (Nat × List Nat) := [(0, [0, 1, 2, 3, 4, 10]), (1, [0, 1, 2, 3, 4, 10, 11]), (2, [0, 1, 2, 3, 4, 10, 11, 12]), (3, [0, 1, 2, 3, 4, 10, 11, 12, 25]), (4, []), (5, [0, 1, 2, 3, 4, 10, 11, 12, 32]), (6, []), (7, [0, 1, 2, 3, 4, 10, 11, 12, 39]), (8, [0, 1, 2, 3, 4, 10, 11, 12]), (9, [0, 1, 2, 3, 4, 10, 11, 12]), (10, [0, 1, 2, 3, 4, 10, 11, 12, 13, 14]), (11, [0, 1, 2, 3, 4, 10, 11, 12, 13, 14, 56]), (12, [0, 1, 2, 3, 4, 10, 11, 12, 13]), (13, [0, 1, 2, 3, 4, 10, 11, 12, 13]), (14, [0, 1, 2, 3, 4, 10, 11, 12, 13, 14]), (15, [0, 1, 2, 3, 4, 10, 11, 12, 13, 75]), (16, [0, 1, 2, 3, 4, 10, 11, 12, 13, 80]), (17, [0, 1, 2, 3, 4, 10, 11, 12, 13, 97]), (18, [0, 2, 3, 4, 10, 11, 15]), (19, [0, 1, 2, 3, 4, 10, 11]), (20, [0, 1, 2, 3, 4, 12, 16, 17]), (21, [0, 1, 2, 3, 4, 11, 12, 16]), (22, [0, 1, 2, 3, 4, 11, 12, 16, 18, 19]), (23, [0, 1, 2, 3, 4, 11, 16, 18, 19, 20]), (24, [0, 1, 2, 3, 4, 11, 16, 18, 19, 20, 125]), (25, [0, 1, 2, 3, 4, 10, 11, 16]), (26, [0, 2, 3, 4, 10, 11, 16]), (27, [0, 1, 2, 3, 4, 10, 11]), (28, [0, 1, 2, 3, 4, 10, 11, 16]), (29, [0, 1, 3, 4, 10, 11, 16]), (30, [0, 1, 2, 3, 4, 10, 11])]
theorem K6 : lookK BG 0 = some [0, 1, 2, 3, 4, 10] ∧ lookK BG 1 = some [0, 1, 2, 3, 4, 10, 11] ∧ lookK BG 2 = some [0, 1, 2, 3, 4, 10, 11, 12] ∧ lookK BG 3 = some [0, 1, 2, 3, 4, 10, 11, 12, 25] ∧ lookK BG 4 = some [] ∧ lookK BG 5 = some [0, 1, 2, 3, 4, 10, 11, 12, 32] ∧ lookK BG 6 = some [] ∧ lookK BG 7 = some [0, 1, 2, 3, 4, 10, 11, 12, 39] ∧ lookK BG 8 = some [0, 1, 2, 3, 4, 10, 11, 12] ∧ lookK BG 9 = some [0, 1, 2, 3, 4, 10, 11, 12] ∧ lookK BG 10 = some [0, 1, 2, 3, 4, 10, 11, 12, 13, 14] ∧ lookK BG 11 = some [0, 1, 2, 3, 4, 10, 11, 12, 13, 14, 56] ∧ lookK BG 12 = some [0, 1, 2, 3, 4, 10, 11, 12, 13] ∧ lookK BG 13 = some [0, 1, 2, 3, 4, 10, 11, 12, 13] ∧ lookK BG 14 = some [0, 1, 2, 3, 4, 10, 11, 12, 13, 14] ∧ lookK BG 15 = some [0, 1, 2, 3, 4, 10, 11, 12, 13, 75] ∧ lookK BG 16 = some [0, 1, 2, 3, 4, 10, 11, 12, 13, 80] ∧ lookK BG 17 = some [0, 1, 2, 3, 4, 10, 11, 12, 13, 97] ∧ lookK BG 18 = some [0, 2, 3, 4, 10, 11, 15] ∧ lookK BG 19 = some [0, 1, 2, 3, 4, 10, 11] ∧ lookK BG 20 = some [0, 1, 2, 3, 4, 12, 16, 17] ∧ lookK BG 21 = some [0, 1, 2, 3, 4, 11, 12, 16] ∧ lookK BG 22 = some [0, 1, 2, 3, 4, 11, 12, 16, 18, 19] ∧ lookK BG 23 = some [0, 1, 2, 3, 4, 11, 16, 18, 19, 20] ∧ lookK BG 24 = some [0, 1, 2, 3, 4, 11, 16, 18, 19, 20, 125] ∧ lookK BG 25 = some [0, 1, 2, 3, 4, 10, 11, 16] ∧ lookK BG 26 = some [0, 2, 3, 4, 10, 11, 16] ∧ lookK BG 27 = some [0, 1, 2, 3, 4, 10, 11] ∧ lookK BG 28 = some [0, 1, 2, 3, 4, 10, 11, 16] ∧ lookK BG 29 = some [0, 1, 3, 4, 10, 11, 16] ∧ lookK BG 30 = some [0, 1, 2, 3, 4, 10, 11] := ⟨rfl, rfl, rfl, rfl, rfl, rfl, rfl, rfl, rfl, rfl, rfl, rfl, rfl, rfl, rfl, rfl, rfl, rfl, rfl, rfl, rfl, rfl, rfl, rfl, rfl, rfl, rfl, rfl, rfl, rfl, rfl⟩
def aCF : List (Nat × List Nat) := [(0, [0, 1, 4]), (1, [])]
theorem K7 : lookK aCF 0 = some [0, 1, 4] ∧ lookK aCF 1 = some [] := ⟨rfl, rfl⟩
set_option maxHeartbeats 8000000 in
theorem aGV {a b c d a' b' c' d' : Int × Int} (lim : Int) (h : Ad Tryz.prog 366 [.c (.ms 0 0 4 4), I 0, I 4, .c (.fn (.func 218) [])] [.cells (c4 a b c d)] (one (.tup []) [.cells (c4 a' b' c' d')])) : Ad Tryz.prog 305 [.c (.ms 0 0 4 4), I 0, I 4, I lim, .c (.fn (.func 218) [])] [.cells (c4 a b c d)] (one (.tup []) [.cells (c4 a' b' c' d')]) := by
 refine Ad.drop2 (Nat.le_refl _) rfl rfl ?_
 refine acall_fitE (bad := [17]) (kp := BG) (X := tx) (nt := 148) (rs := []) Tryz.func305 rfl rfl rfl rfl mo (by kernel_rfl) (fun hf => ?_)
 simp only [c4] at h
 simp (maxSteps := 2000000) only [go_sem, reduceIte, Nat.reduceEqDiff, Nat.reduceAdd, Nat.reduceBEq, K6, K7, c4]
 have w0 : wr .i64 (4 - 0) = 4 := by decide
 refine Ah 1 ?_
 refine Aa (bad := [17]) (kp := BG) mo (by kernel_rfl) ?_
 simp (maxSteps := 2000000) only [go_sem, reduceIte, Nat.reduceEqDiff, Nat.reduceAdd, Nat.reduceBEq, Int.reduceLE, K6, K7, w0]
 refine Ar (h) rfl rfl (by first | exact wk_refls _ | (repeat constructor)) ?_
 simp (maxSteps := 2000000) only [go_sem, reduceIte, Nat.reduceEqDiff, K6, K7]
 all_goals first | exact .refl _ | exact ⟨.refl _, .refl _⟩ | exact ⟨.refl _, .refl _, .refl _⟩ | exact ⟨.refl _, _, rfl⟩ | exact ⟨_, rfl⟩ | exact ⟨.refl _, [], by simp⟩ | exact ⟨[], by simp⟩
theorem aGW : PureG Tryz.prog [] 306 [.c (.d (.int .u64 4))] (I 3) := pure_yres (gh := []) 50000 wmo (Al [] Ae) rfl (by kernel_rfl) rfl rfl
set_option maxHeartbeats 8000000 in
theorem aEG {a b c d a' b' c' d' : Int × Int} (h : Ad Tryz.prog 366 [.c (.ms 0 0 4 4), I 0, I 4, .c (.fn (.func 218) [])] [.cells (c4 a b c d)] (one (.tup []) [.cells (c4 a' b' c' d')])) : Ad Tryz.prog 221 [.c (.ms 0 0 4 4), .c (.fn (.func 218) [])] [.cells (c4 a b c d)] (one (.tup []) [.cells (c4 a' b' c' d')]) := by
 refine Ad.drop2 (Nat.le_refl _) rfl rfl ?_
 refine acall_fitE (bad := []) (kp := aCF) (X := tx) (nt := 14) (rs := []) Tryz.func221 rfl rfl rfl rfl mo (by kernel_rfl) (fun hf => ?_)
 have hp := aGV 3 h
 have hl := fun T => aGW.at rfl (H := T) rfl
 simp only [c4] at hp
 simp (maxSteps := 2000000) only [go_sem, reduceIte, Nat.reduceEqDiff, Nat.reduceAdd, K6, K7, c4]
 have w4 : wr .u64 4 = 4 := by decide
 simp (maxSteps := 2000000) only [go_sem, K6, K7, w4]
 refine Ar (hl _) rfl rfl (by first | exact wk_refls _ | (repeat constructor)) ?_
 simp (maxSteps := 2000000) only [go_sem, reduceIte, Nat.reduceEqDiff, K6, K7]
 refine Ar (hp) rfl rfl (by first | exact wk_refls _ | (repeat constructor)) ?_
 simp (maxSteps := 2000000) only [go_sem, reduceIte, Nat.reduceEqDiff, K6, K7]
 all_goals first | exact .refl _ | exact ⟨.refl _, .refl _⟩ | exact ⟨.refl _, .refl _, .refl _⟩ | exact ⟨.refl _, _, rfl⟩ | exact ⟨_, rfl⟩ | exact ⟨.refl _, [], by simp⟩ | exact ⟨[], by simp⟩
end Go.Proofs.YtfgdbeijjbijnaaGreatDoor
set_option linter.unusedSimpArgs false
set_option linter.unusedVariables false
set_option maxRecDepth 100000
namespace Go.Proofs.YtfgdbeijjbijnaaGreatDoor
open Go Go.Abs Go.Proofs
def Bu : List (Nat × List Nat) := [(0, [0]), (1, [0, 8]), (2, [2]), (3, [0, 3]), (4, [0, 3, 13]), (5, [0, 3]), (6, [0, 3, 25]), (7, [0, 3, 4]), (8, [0, 3, 4, 5]), (9, [0, 3, 4, 5, 32]), (10, [0, 3, 4, 5]), (11, [0, 3, 4, 5, 44]), (12, [0, 3, 4, 5]), (13, [0, 3, 4, 5]), (14, [0, 3]), (15, [2]), (16, [2])]
theorem CG : lookK Bu 0 = some [0] ∧ lookK Bu 1 = some [0, 8] ∧ lookK Bu 2 = some [2] ∧ lookK Bu 3 = some [0, 3] ∧ lookK Bu 4 = some [0, 3, 13] ∧ lookK Bu 5 = some [0, 3] ∧ lookK Bu 6 = some [0, 3, 25] ∧ lookK Bu 7 = some [0, 3, 4] ∧ lookK Bu 8 = some [0, 3, 4, 5] ∧ lookK Bu 9 = some [0, 3, 4, 5, 32] ∧ lookK Bu 10 = some [0, 3, 4, 5] ∧ lookK Bu 11 = some [0, 3, 4, 5, 44] ∧ lookK Bu 12 = some [0, 3, 4, 5] ∧ lookK Bu 13 = some [0, 3, 4, 5] ∧ lookK Bu 14 = some [0, 3] ∧ lookK Bu 15 = some [2] ∧ lookK Bu 16 = some [2] := ⟨rfl, rfl, rfl, rfl, rfl, rfl, rfl, rfl, rfl, rfl, rfl, rfl, rfl, rfl, rfl, rfl, rfl⟩
def MX : List (Nat × List Nat) := [(0, [0, 1]), (1, [0, 1, 5]), (2, [1, 5]), (3, [5]), (4, [4])]
theorem CH : lookK MX 0 = some [0, 1] ∧ lookK MX 1 = some [0, 1, 5] ∧ lookK MX 2 = some [1, 5] ∧ lookK MX 3 = some [5] ∧ lookK MX 4 = some [4] := ⟨rfl, rfl, rfl, rfl, rfl⟩
attribute [go_sem] J9 aE3
set_option maxHeartbeats 8000000 in
theorem Ur {x0 x1 y0 y1 : Int} (hx : x0 < x1) (hy : y0 < y1) : Ad Tryz.prog 302 [.c (.ms 0 0 4 4)] [.cells (c4 (x0, y0) (x0, y1) (x1, y0) (x1, y1))] (one (.c (.ms 0 0 4 4)) [.cells (c4 (x0, y0) (x0, y1) (x1, y0) (x1, y1))]) := by
 refine Ad.drop2 (Nat.le_refl _) rfl rfl ?_
 refine acall_fitE (bad := []) (kp := Bu) (X := tx) (nt := 61) (rs := [.tmp 2]) Tryz.func302 rfl rfl rfl rfl mo (by kernel_rfl) (fun hf => ?_)
 have e1 : ¬ y1 = y0 := by omega
 have e2 : ¬ x1 = x0 := by omega
 simp (maxSteps := 2000000) only [go_sem, reduceIte, Nat.reduceEqDiff, Nat.reduceAdd, Int.reduceLT, CG, CH, c4, e1, e2]
 refine Ah 4 ?_
 refine Aa (bad := []) (kp := Bu) mo (by kernel_rfl) ?_
 simp (maxSteps := 2000000) only [go_sem, reduceIte, Nat.reduceEqDiff, Nat.reduceAdd, Nat.reduceLeDiff, Nat.reduceMul, Int.reduceLT, Int.reduceLE, Int.reduceToNat, CG, CH, e1, e2]
 refine Aa (bad := []) (kp := Bu) mo (by kernel_rfl) ?_
 simp (maxSteps := 2000000) only [go_sem, reduceIte, Nat.reduceEqDiff, Nat.reduceAdd, Nat.reduceLeDiff, Nat.reduceMul, Int.reduceLT, Int.reduceLE, Int.reduceToNat, CG, CH, e1, e2]
 refine Aa (bad := []) (kp := Bu) mo (by kernel_rfl) ?_
 simp (maxSteps := 2000000) only [go_sem, reduceIte, Nat.reduceEqDiff, Nat.reduceAdd, Nat.reduceLeDiff, Nat.reduceMul, Int.reduceLT, Int.reduceLE, Int.reduceToNat, CG, CH, e1, e2]
 refine Aa (bad := []) (kp := Bu) mo (by kernel_rfl) ?_
 simp (maxSteps := 2000000) only [go_sem, reduceIte, Nat.reduceEqDiff, Nat.reduceAdd, Int.reduceLT, CG, CH, e1, e2]
 all_goals first | exact .refl _ | exact ⟨.refl _, .refl _⟩ | exact ⟨.refl _, .refl _, .refl _⟩ | exact ⟨.refl _, _, rfl⟩ | exact ⟨_, rfl⟩ | exact ⟨.refl _, [], by simp⟩ | exact ⟨[], by simp⟩
set_option maxHeartbeats 8000000 in
theorem Us {x y0 y1 : Int} (hy : y0 < y1) : Ad Tryz.prog 302 [.c (.ms 0 0 4 4)] [.cells (c4 (x, y0) (x, y0) (x, y1) (x, y1))] (one (.c (.ms 0 0 2 4)) [.cells (c4 (x, y0) (x, y1) (0, 0) (0, 0))]) := by
 refine Ad.drop2 (Nat.le_refl _) rfl rfl ?_
 refine acall_fitE (bad := []) (kp := Bu) (X := tx) (nt := 61) (rs := [.tmp 2]) Tryz.func302 rfl rfl rfl rfl mo (by kernel_rfl) (fun hf => ?_)
 have e1 : ¬ y1 = y0 := by omega
 simp (maxSteps := 2000000) only [go_sem, reduceIte, Nat.reduceEqDiff, Nat.reduceAdd, Int.reduceLT, CG, CH, c4, e1]
 refine Ah 4 ?_
 refine Aa (bad := []) (kp := Bu) mo (by kernel_rfl) ?_
 simp (maxSteps := 2000000) only [go_sem, reduceIte, Nat.reduceEqDiff, Nat.reduceAdd, Nat.reduceLeDiff, Nat.reduceMul, Nat.reduceSub, Int.reduceLT, Int.reduceLE, Int.reduceToNat, CG, CH, e1]
 refine Ah 4 ?_
 refine Aa (bad := []) (kp := Bu) mo (by kernel_rfl) ?_
 simp (maxSteps := 2000000) only [go_sem, reduceIte, Nat.reduceEqDiff, Nat.reduceAdd, Nat.reduceLeDiff, Nat.reduceMul, Int.reduceLT, Int.reduceLE, Int.reduceToNat, CG, CH, e1]
 refine Aa (bad := []) (kp := Bu) mo (by kernel_rfl) ?_
 simp (maxSteps := 2000000) only [go_sem, reduceIte, Nat.reduceEqDiff, Nat.reduceAdd, Nat.reduceLeDiff, Nat.reduceMul, Int.reduceLT, Int.reduceLE, Int.reduceToNat, CG, CH, e1]
 refine Aa (bad := []) (kp := Bu) mo (by kernel_rfl) ?_
 simp (maxSteps := 2000000) only [go_sem, reduceIte, Nat.reduceEqDiff, Nat.reduceAdd, Nat.reduceMul, Nat.reduceSub, Int.reduceLT, Int.reduceLE, Int.reduceToNat, CG, CH, e1]
 exact ⟨by decide, [], rfl⟩
set_option maxHeartbeats 8000000 in
theorem Ut {x0 x1 y : Int} (hx : x0 < x1) : Ad Tryz.prog 302 [.c (.ms 0 0 4 4)] [.cells (c4 (x0, y) (x0, y) (x1, y) (x1, y))] (one (.c (.ms 0 0 2 4)) [.cells (c4 (x0, y) (x1, y) (0, 0) (0, 0))]) := by
 refine Ad.drop2 (Nat.le_refl _) rfl rfl ?_
 refine acall_fitE (bad := []) (kp := Bu) (X := tx) (nt := 61) (rs := [.tmp 2]) Tryz.func302 rfl rfl rfl rfl mo (by kernel_rfl) (fun hf => ?_)
 have e1 : ¬ x1 = x0 := by omega
 simp (maxSteps := 2000000) only [go_sem, reduceIte, Nat.reduceEqDiff, Nat.reduceAdd, Int.reduceLT, CG, CH, c4, e1]
 refine Ah 4 ?_
 refine Aa (bad := []) (kp := Bu) mo (by kernel_rfl) ?_
 simp (maxSteps := 2000000) only [go_sem, reduceIte, Nat.reduceEqDiff, Nat.reduceAdd, Nat.reduceLeDiff, Nat.reduceMul, Nat.reduceSub, Int.reduceLT, Int.reduceLE, Int.reduceToNat, CG, CH, e1]
 refine Ah 4 ?_
 refine Aa (bad := []) (kp := Bu) mo (by kernel_rfl) ?_
 simp (maxSteps := 2000000) only [go_sem, reduceIte, Nat.reduceEqDiff, Nat.reduceAdd, Nat.reduceLeDiff, Nat.reduceMul, Int.reduceLT, Int.reduceLE, Int.reduceToNat, CG, CH, e1]
 refine Aa (bad := []) (kp := Bu) mo (by kernel_rfl) ?_
 simp (maxSteps := 2000000) only [go_sem, reduceIte, Nat.reduceEqDiff, Nat.reduceAdd, Nat.reduceLeDiff, Nat.reduceMul, Int.reduceLT, Int.reduceLE, Int.reduceToNat, CG, CH, e1]
 refine Aa (bad := []) (kp := Bu) mo (by kernel_rfl) ?_
 simp (maxSteps := 2000000) only [go_sem, reduceIte, Nat.reduceEqDiff, Nat.reduceAdd, Nat.reduceMul, Nat.reduceSub, Int.reduceLT, Int.reduceLE, Int.reduceToNat, CG, CH, e1]
 exact ⟨by decide, [], rfl⟩
set_option maxHeartbeats 8000000 in
theorem Uu {x y : Int} : Ad Tryz.prog 302 [.c (.ms 0 0 4 4)] [.cells (c4 (x, y) (x, y) (x, y) (x, y))] (one (.c (.ms 0 0 1 4)) [.cells (c4 (x, y) (0, 0) (0, 0) (0, 0))]) := by
 refine Ad.drop2 (Nat.le_refl _) rfl rfl ?_
 refine acall_fitE (bad := []) (kp := Bu) (X := tx) (nt := 61) (rs := [.tmp 2]) Tryz.func302 rfl rfl rfl rfl mo (by kernel_rfl) (fun hf => ?_)
 simp (maxSteps := 2000000) only [go_sem, reduceIte, Nat.reduceEqDiff, Nat.reduceAdd, Int.reduceLT, CG, CH, c4]
 refine Ah 4 ?_
 refine Aa (bad := []) (kp := Bu) mo (by kernel_rfl) ?_
 simp (maxSteps := 2000000) only [go_sem, reduceIte, Nat.reduceEqDiff, Nat.reduceAdd, Nat.reduceLeDiff, Nat.reduceMul, Nat.reduceSub, Int.reduceLT, Int.reduceLE, Int.reduceToNat, CG, CH]
 refine Ah 4 ?_
 refine Aa (bad := []) (kp := Bu) mo (by kernel_rfl) ?_
 simp (maxSteps := 2000000) only [go_sem, reduceIte, Nat.reduceEqDiff, Nat.reduceAdd, Nat.reduceLeDiff, Nat.reduceMul, Int.reduceLT, Int.reduceLE, Int.reduceToNat, CG, CH]
 refine Aa (bad := []) (kp := Bu) mo (by kernel_rfl) ?_
 simp (maxSteps := 2000000) only [go_sem, reduceIte, Nat.reduceEqDiff, Nat.reduceAdd, Nat.reduceLeDiff, Nat.reduceMul, Int.reduceLT, Int.reduceLE, Int.reduceToNat, CG, CH]
 refine Aa (bad := []) (kp := Bu) mo (by kernel_rfl) ?_
 simp (maxSteps := 2000000) only [go_sem, reduceIte, Nat.reduceEqDiff, Nat.reduceAdd, Nat.reduceMul, Nat.reduceSub, Int.reduceLT, Int.reduceLE, Int.reduceToNat, CG, CH]
 exact ⟨by decide, [], rfl⟩
set_option maxHeartbeats 8000000 in
theorem Gl {a b c d a' b' c' d' : Int × Int} {k : Nat} {cs : List C} (h : Ad Tryz.prog 366 [.c (.ms 0 0 4 4), I 0, I 4, .c (.fn (.func 218) [])] [.cells (c4 a b c d)] (one (.tup []) [.cells (c4 a' b' c' d')]))
  (hc : Ad Tryz.prog 302 [.c (.ms 0 0 4 4)] [.cells (c4 a' b' c' d')] (one (.c (.ms 0 0 k 4)) [.cells cs])) (hl : C.lowL 1 cs = true) : Ad Tryz.prog 217 [qs [a, b, c, d], .c (.fn (.func 218) [])] [] (one (.c (.ms 0 0 k 4)) [.cells cs]) := by
 refine Ad.drop2 (Nat.zero_le _) rfl (by show (C.lowL 1 cs && true) = true; rw [hl]; rfl) ?_
 refine acall_fitE (bad := []) (kp := MX) (X := tx) (nt := 17) (rs := [.tmp 4]) Tryz.func217 rfl rfl rfl rfl mo (by kernel_rfl) (fun hf => ?_)
 have hs := aEG h
 simp only [c4] at hs hc
 have hsrc : ∀ H, DI H 2 (Nat.min 4 4) (.d (.sl [[.int .i64 a.1, .int .i64 a.2], [.int .i64 b.1, .int .i64 b.2], [.int .i64 c.1, .int .i64 c.2], [.int .i64 d.1, .int .i64 d.2]])) = some [.d (.int .i64 a.1), .d (.int .i64 a.2), .d (.int .i64 b.1), .d (.int .i64 b.2), .d (.int .i64 c.1), .d (.int .i64 c.2), .d (.int .i64 d.1), .d (.int .i64 d.2)] := fun _ => rfl
 simp (maxSteps := 2000000) only [go_sem, reduceIte, Nat.reduceEqDiff, Nat.reduceAdd, Nat.reduceLT, Int.reduceLE, Int.reduceToNat, CG, CH, qs, qD, List.map_cons, List.map_nil, hsrc, setMany, List.set_cons_zero, List.set_cons_succ]
 refine ⟨by decide, ?_⟩
 refine ⟨by decide, ?_⟩
 refine Ar (hs) rfl rfl (by first | exact wk_refls _ | (repeat constructor)) ?_
 simp (maxSteps := 2000000) only [go_sem, reduceIte, Nat.reduceEqDiff, CG, CH]
 refine Ar (hc) rfl rfl (by first | exact wk_refls _ | (repeat constructor)) ?_
 simp (maxSteps := 2000000) only [go_sem, reduceIte, Nat.reduceEqDiff, CG, CH]
 all_goals first | exact .refl _ | exact ⟨.refl _, .refl _⟩ | exact ⟨.refl _, .refl _, .refl _⟩ | exact ⟨.refl _, _, rfl⟩ | exact ⟨_, rfl⟩ | exact ⟨.refl _, [], by simp⟩ | exact ⟨[], by simp⟩
end Go.Proofs.YtfgdbeijjbijnaaGreatDoor
