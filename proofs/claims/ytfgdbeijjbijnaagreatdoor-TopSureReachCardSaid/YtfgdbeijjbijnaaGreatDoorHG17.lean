/- Streets: the data, and the small functions of chapter 7. -/
import Derived.Test.YtfgdbeijjbijnaaGreatDoorHG16
import Derived.Test.YtfgdbeijjbijnaaGreatDoorHG12
set_option linter.unusedSimpArgs false
set_option linter.unusedVariables false
set_option linter.unusedSimpArgs false
set_option linter.unusedVariables false
set_option maxRecDepth 100000
namespace Go.Proofs.YtfgdbeijjbijnaaGreatDoor
open Go Go.Abs Go.Proofs
theorem mo : tx.P.follows .mixedOrders = true := by kernel_rfl
def iD (n : Int) : List D := [.int .i64 n]
def ints (l : List Int) : V := .c (.d (.sl (l.map iD)))
theorem Fz {l : List Int} (h : Hj (ints l)) : l.length ≤ 140737488355328 := by have h : Fit _ := h; have := h.len; simpa [lim] using this
theorem An {i n : Nat} (h : i < n) (hn : n ≤ 140737488355328) : wr .i64 ((i : Int) + 1) = ((i + 1 : Nat) : Int) := by rw [CS] <;> omega
theorem Bm {α : Type} {l : List α} {i : Nat} (h : i < l.length) : ∃ x, l[i]? = some x := ⟨l[i], by simp [h]⟩
theorem DK {α : Type} {l : List α} {i : Nat} {x : α} (h : l[i]? = some x) : l.take (i + 1) = l.take i ++ [x] := by
 rw [List.take_add_one, h]; rfl
theorem CL {α : Type} {l : List α} {P : α → Prop} {i : Nat} {x : α} (h : ∀ (j : Nat) y, j < i → l[j]? = some y → P y) (hx : l[i]? = some x) (hp : P x) : ∀ (j : Nat) y, j < i + 1 → l[j]? = some y → P y := fun j y hj hy => by
 rcases Nat.lt_succ_iff_lt_or_eq.1 hj with h1 | h1
 ·exact h j y h1 hy
 ·subst h1; rw [hx] at hy; cases hy; exact hp
def AZ {α : Type} (p : α → Bool) : List α → Int
 | [] => -1
 | x :: l => if p x then 0 else if AZ p l < 0 then -1 else AZ p l + 1
theorem Dn {α : Type} {p : α → Bool} : ∀ {l : List α} {i : Nat} {x : α}, (∀ j y, j < i → l[j]? = some y → p y = false) → l[i]? = some x → p x = true → AZ p l = i
 | y :: l, 0, x, _, hx, hp => by simp at hx; subst hx; simp [AZ, hp]
 | y :: l, i + 1, x, h, hx, hp => by
  have h0 := h 0 y (by omega) rfl
  have ih := Dn (l := l) (i := i) (fun j z hj hz => h (j + 1) z (by omega) (by simpa using hz)) (by simpa using hx) hp
  simp only [AZ, h0, ih]
  simp; omega
theorem Cd {α : Type} {p : α → Bool} : ∀ {l : List α}, (∀ (j : Nat) y, j < l.length → l[j]? = some y → p y = false) → AZ p l = -1
 | [], _ => rfl
 | y :: l, h => by
  have h0 := h 0 y (by simp) rfl
  have ih := Cd (l := l) (fun j z hj hz => h (j + 1) z (by simpa using hj) (by simpa using hz))
  simp [AZ, h0, ih]
theorem C3 {α : Type} {p : α → Bool} : ∀ (l : List α), 0 ≤ AZ p l ↔ l.any p = true
 | [] => by simp [AZ]
 | y :: l => by
  have ih := C3 (p := p) l
  by_cases hy : p y = true
  ·simp [AZ, hy]
  ·simp only [AZ, hy, List.any_cons, Bool.false_or, if_false, Bool.false_eq_true, ← ih, eq_self]
   split <;> omega
theorem DP {α : Type} {p : α → Bool} (l : List α) : decide (0 ≤ AZ p l) = l.any p := by
 rw [Bool.eq_iff_iff, decide_eq_true_eq, C3]
structure Po where
 fr : Int
 to : Int
 co : Int
structure Rd where
 pl : Int
 de : Int
 di : Int
 ps : List Po
def pD (p : Po) : List D := [.int .i64 p.fr, .int .i64 p.to, .int .i64 p.co]
def pC (p : Po) : List C := [.d (.int .i64 p.fr), .d (.int .i64 p.to), .d (.int .i64 p.co)]
def PW (p : Po) : V := .agg (pC p)
def B5 (l : List Po) : V := .c (.d (.sl (l.map pD)))
def AM (r : Rd) : List C := [.d (.int .i64 r.pl), .d (.int .i64 r.de), .d (.int .i64 r.di), .d (.sl (r.ps.map pD))]
def BF (r : Rd) : V := .agg (AM r)
def upd (f : Nat → Int) (m : Nat) (v : Int) : Nat → Int := fun j => if j = m then v else f j
theorem Ai (f : Nat → Int) (m : Nat) (v : Int) : upd f m v m = v := by simp [upd]
theorem At (f : Nat → Int) {m j : Nat} (v : Int) (h : j ≠ m) : upd f m v j = f j := by simp [upd, h]
def Ar (n : Nat) (f : Nat → Int) : List D := (List.range n).map (fun j => .int .i64 (f j))
theorem A7 (n : Nat) (f : Nat → Int) : (Ar n f).length = n := by simp [Ar]
theorem EI {n : Nat} (f : Nat → Int) {j : Nat} (h : j < n) : (Ar n f)[j]? = some (.int .i64 (f j)) := by simp [Ar, h]
theorem F0 (n : Nat) (f : Nat → Int) (m : Nat) (v : Int) : (Ar n f).set m (.int .i64 v) = Ar n (upd f m v) := by
 refine List.ext_getElem? fun j => ?_
 by_cases e : m = j
 ·subst e
  by_cases hm : m < n
  ·rw [EI _ hm, Ai]; simp [A7, hm]
  ·rw [List.getElem?_eq_none (by simp [A7]; omega), List.getElem?_eq_none (by simp [A7]; omega)]
 ·rw [List.getElem?_set_ne e]
  simp only [Ar, List.getElem?_map]
  cases hj : (List.range n)[j]? with
  | none => rfl
  | some x =>
   have : x = j := by
    rw [List.getElem?_eq_some_iff] at hj
    obtain ⟨h, e⟩ := hj
    simpa using e.symm
   subst this
   simp [At _ _ (Ne.symm e)]
theorem KB (n : Nat) (l : List D) : C.lowL n (l.map .d) = true := by induction l with | nil => rfl | cons a l ih => simp [C.lowL, C.low, ih]
theorem KC (l : List D) : CR (l.map C.d) = some l := by
 induction l with
 | nil => rfl
 | cons a l ih => simp [CR, toD, ih]
def EJ (r : Rd) (st bk : Nat → Int) : List D := .int .i64 r.pl :: .int .i64 r.de :: .int .i64 r.di :: .sl (r.ps.map pD) :: (Ar 24 st ++ Ar 40 bk)
def C4 (r : Rd) (st bk : Nat → Int) : List C := .d (.int .i64 r.pl) :: .d (.int .i64 r.de) :: .d (.int .i64 r.di) :: .d (.sl (r.ps.map pD)) :: (Ar 24 st ++ Ar 40 bk).map .d
def zf : Nat → Int := fun _ => 0
theorem JI (st bk : Nat → Int) : (Ar 24 st ++ Ar 40 bk).length = 64 := by simp [A7]
theorem R7 {st bk : Nat → Int} {i : Nat} (h : i < 24) : (Ar 24 st ++ Ar 40 bk)[i]? = some (.int .i64 (st i)) := by
 rw [List.getElem?_append_left (by rw [A7]; exact h), EI _ h]
theorem aHK {st bk : Nat → Int} {i : Nat} (h : i < 40) : (Ar 24 st ++ Ar 40 bk)[24 + i]? = some (.int .i64 (bk i)) := by
 rw [List.getElem?_append_right (by rw [A7]; omega), A7, Nat.add_sub_cancel_left, EI _ h]
theorem Do (n : Nat) (r : Rd) (st bk : Nat → Int) : C.lowL n (C4 r st bk) = true := by
 simp only [C4, C.lowL, C.low, KB, Bool.and_self]
theorem CM (n : Nat) (r : Rd) : C.lowL n (AM r) = true := rfl
end Go.Proofs.YtfgdbeijjbijnaaGreatDoor
set_option linter.unusedSimpArgs false
set_option linter.unusedVariables false
set_option maxRecDepth 100000
namespace Go.Proofs.YtfgdbeijjbijnaaGreatDoor
open Go Go.Abs Go.Proofs
set_option maxHeartbeats 1000000 in
theorem aPJ (l : List Int) (g : Nat) (caps : List C) (p : Int → Bool) (H : List AB) (hH : H.all (AB.low H.length) = true) (hcaps : C.lowL H.length caps = true)
  (hp : ∀ x ∈ l, Ae Tryz.prog g (I x :: caps.map .c) H (one (B (p x)) H)) : Ae Tryz.prog 295 [.c (.d (.sl (l.map iD))), .c (.fn (.func g) caps)] H (one (I (AZ p l)) H) := by
 refine Cv (X := tx) (nt := 19) (rs := [.tmp 4]) Tryz.func295 rfl rfl rfl rfl mo (by kernel_rfl) rfl hH (fun hf => ?_)
 have hfit : l.length ≤ 140737488355328 := by
  have h : Fit _ := hf (.c (.d (.sl (l.map iD)))) (by simp)
  have := h.len; simpa [lim] using this
 simp only [go_sem, reduceIte, Nat.reduceEqDiff, Int.reduceNeg]
 refine go_loop (fun i : Nat => { slots := [(0, .c (.d (.sl (l.map iD)))), (1, .c (.fn (.func g) caps)), (7, I l.length), (8, I i)], heap := H, marks := [] }) (fun i => i ≤ l.length ∧ ∀ j x, j < i → l[j]? = some x → p x = false) (fun i => l.length - i) 0 mo (by kernel_rfl) ?_ ⟨Nat.zero_le _, by intro j r h; omega⟩ ?_
 ·refine ent_weaken [] (by simp) rfl (Nat.le_refl _) hH rfl ?_
  simp only [go_sem, reduceIte, Nat.reduceEqDiff, hcaps]
  all_goals first | exact .refl _ | exact ⟨.refl _, .refl _⟩ | exact ⟨.refl _, .refl _, .refl _⟩ | exact ⟨.refl _, _, rfl⟩ | exact ⟨_, rfl⟩ | exact ⟨.refl _, [], by simp⟩ | exact ⟨[], by simp⟩
 rintro i ⟨hi, hall⟩
 simp only [go_sem, reduceIte, Nat.reduceEqDiff, Int.reduceNeg]
 refine go_if (fun h => ?_) (fun h => ?_)
 ·have hlt : i < l.length := by simpa using h
  obtain ⟨x, hx⟩ := Bm hlt
  simp only [go_sem, reduceIte, Nat.reduceEqDiff, Int.reduceNeg, hx, iD]
  refine ⟨by simp [hlt], ?_⟩
  refine Az (hp x (List.mem_of_getElem? hx)) rfl rfl (by first | exact wk_refls _ | (repeat constructor)) ?_
  simp only [go_sem, reduceIte, Nat.reduceEqDiff, Int.reduceNeg]
  refine go_if (fun hb => ?_) (fun hb => ?_)
  ·simp only [go_sem, reduceIte, Nat.reduceEqDiff, Int.reduceNeg]
   have e : AZ p l = i := Dn hall hx hb
   rw [e]
   all_goals first | exact .refl _ | exact ⟨.refl _, .refl _⟩ | exact ⟨.refl _, .refl _, .refl _⟩ | exact ⟨.refl _, _, rfl⟩ | exact ⟨_, rfl⟩ | exact ⟨.refl _, [], by simp⟩ | exact ⟨[], by simp⟩
  ·simp only [go_sem, reduceIte, Nat.reduceEqDiff, Int.reduceNeg, An hlt hfit]
   refine ⟨i + 1, ⟨hlt, CL hall hx hb⟩, by omega, ?_⟩
   refine ent_weaken [] (by simp) rfl (Nat.le_refl _) hH rfl ?_
   simp only [go_sem, reduceIte, Nat.reduceEqDiff, hcaps]
 ·have hi' : i = l.length := by simp at h; omega
  have e : AZ p l = -1 := Cd (fun j x hj hx => hall j x (by omega) hx)
  simp only [go_sem, reduceIte, Nat.reduceEqDiff, Int.reduceNeg]
  rw [e]
  all_goals first | exact .refl _ | exact ⟨.refl _, .refl _⟩ | exact ⟨.refl _, .refl _, .refl _⟩ | exact ⟨.refl _, _, rfl⟩ | exact ⟨_, rfl⟩ | exact ⟨.refl _, [], by simp⟩ | exact ⟨[], by simp⟩
set_option maxHeartbeats 1000000 in
theorem aPK (l : List Int) (g : Nat) (caps : List C) (p : Int → Bool) (H : List AB) (hH : H.all (AB.low H.length) = true) (hcaps : C.lowL H.length caps = true)
  (hp : ∀ x ∈ l, Ae Tryz.prog g (I x :: caps.map .c) H (one (B (p x)) H)) : Ae Tryz.prog 187 [.c (.d (.sl (l.map iD))), .c (.fn (.func g) caps)] H (one (B (l.any p)) H) := by
 refine Cv (X := tx) (nt := 9) (rs := [.tmp 4]) Tryz.func187 rfl rfl rfl rfl mo (by kernel_rfl) rfl hH (fun hf => ?_)
 simp only [go_sem, reduceIte, Nat.reduceEqDiff]
 refine Az (aPJ l g caps p H hH hcaps hp) rfl rfl (by first | exact wk_refls _ | (repeat constructor)) ?_
 simp only [go_sem, reduceIte, Nat.reduceEqDiff]
 rw [DP]
 all_goals first | exact .refl _ | exact ⟨.refl _, .refl _⟩ | exact ⟨.refl _, .refl _, .refl _⟩ | exact ⟨.refl _, _, rfl⟩ | exact ⟨_, rfl⟩ | exact ⟨.refl _, [], by simp⟩ | exact ⟨[], by simp⟩
set_option maxHeartbeats 1000000 in
theorem aPL (l : List Po) (g : Nat) (caps : List C) (p : Po → Bool) (H : List AB) (hH : H.all (AB.low H.length) = true) (hcaps : C.lowL H.length caps = true)
  (hp : ∀ x ∈ l, Ae Tryz.prog g (PW x :: caps.map .c) H (one (B (p x)) H)) : Ae Tryz.prog 238 [B5 l, .c (.fn (.func g) caps)] H (one (I (AZ p l)) H) := by
 refine Cv (X := tx) (nt := 19) (rs := [.tmp 4]) Tryz.func238 rfl rfl rfl rfl mo (by kernel_rfl) rfl hH (fun hf => ?_)
 have hfit : l.length ≤ 140737488355328 := by
  have h : Fit _ := hf (B5 l) (by simp)
  have := h.len; simpa [lim] using this
 simp only [go_sem, reduceIte, Nat.reduceEqDiff, Int.reduceNeg, B5]
 refine go_loop (fun i : Nat => { slots := [(0, B5 l), (1, .c (.fn (.func g) caps)), (7, I l.length), (8, I i)], heap := H, marks := [] }) (fun i => i ≤ l.length ∧ ∀ j x, j < i → l[j]? = some x → p x = false) (fun i => l.length - i) 0 mo (by kernel_rfl) ?_ ⟨Nat.zero_le _, by intro j r h; omega⟩ ?_
 ·refine ent_weaken [] (by simp) rfl (Nat.le_refl _) hH rfl ?_
  simp only [go_sem, reduceIte, Nat.reduceEqDiff, hcaps, B5]
  all_goals first | exact .refl _ | exact ⟨.refl _, .refl _⟩ | exact ⟨.refl _, .refl _, .refl _⟩ | exact ⟨.refl _, _, rfl⟩ | exact ⟨_, rfl⟩ | exact ⟨.refl _, [], by simp⟩ | exact ⟨[], by simp⟩
 rintro i ⟨hi, hall⟩
 simp only [go_sem, reduceIte, Nat.reduceEqDiff, Int.reduceNeg, B5]
 refine go_if (fun h => ?_) (fun h => ?_)
 ·have hlt : i < l.length := by simpa using h
  obtain ⟨x, hx⟩ := Bm hlt
  have hpx := hp x (List.mem_of_getElem? hx)
  simp only [PW, pC] at hpx
  simp only [go_sem, reduceIte, Nat.reduceEqDiff, Nat.reduceAdd, Int.reduceNeg, hx, pD]
  refine ⟨by simp [hlt], ?_⟩
  refine Az (hpx) rfl rfl (by first | exact wk_refls _ | (repeat constructor)) ?_
  simp only [go_sem, reduceIte, Nat.reduceEqDiff, Int.reduceNeg]
  refine go_if (fun hb => ?_) (fun hb => ?_)
  ·simp only [go_sem, reduceIte, Nat.reduceEqDiff, Int.reduceNeg]
   have e : AZ p l = i := Dn hall hx hb
   rw [e]
   all_goals first | exact .refl _ | exact ⟨.refl _, .refl _⟩ | exact ⟨.refl _, .refl _, .refl _⟩ | exact ⟨.refl _, _, rfl⟩ | exact ⟨_, rfl⟩ | exact ⟨.refl _, [], by simp⟩ | exact ⟨[], by simp⟩
  ·simp only [go_sem, reduceIte, Nat.reduceEqDiff, Int.reduceNeg, An hlt hfit]
   refine ⟨i + 1, ⟨hlt, CL hall hx hb⟩, by omega, ?_⟩
   refine ent_weaken [] (by simp) rfl (Nat.le_refl _) hH rfl ?_
   simp only [go_sem, reduceIte, Nat.reduceEqDiff, hcaps]
 ·have hi' : i = l.length := by simp at h; omega
  have e : AZ p l = -1 := Cd (fun j x hj hx => hall j x (by omega) hx)
  simp only [go_sem, reduceIte, Nat.reduceEqDiff, Int.reduceNeg]
  rw [e]
  all_goals first | exact .refl _ | exact ⟨.refl _, .refl _⟩ | exact ⟨.refl _, .refl _, .refl _⟩ | exact ⟨.refl _, _, rfl⟩ | exact ⟨_, rfl⟩ | exact ⟨.refl _, [], by simp⟩ | exact ⟨[], by simp⟩
set_option maxHeartbeats 1000000 in
theorem aPM (l : List Po) (g : Nat) (caps : List C) (p : Po → Bool) (H : List AB) (hH : H.all (AB.low H.length) = true) (hcaps : C.lowL H.length caps = true)
  (hp : ∀ x ∈ l, Ae Tryz.prog g (PW x :: caps.map .c) H (one (B (p x)) H)) : Ae Tryz.prog 160 [B5 l, .c (.fn (.func g) caps)] H (one (B (l.any p)) H) := by
 refine Cv (X := tx) (nt := 9) (rs := [.tmp 4]) Tryz.func160 rfl rfl rfl rfl mo (by kernel_rfl) rfl hH (fun hf => ?_)
 simp only [go_sem, reduceIte, Nat.reduceEqDiff]
 refine Az (aPL l g caps p H hH hcaps hp) rfl rfl (by first | exact wk_refls _ | (repeat constructor)) ?_
 simp only [go_sem, reduceIte, Nat.reduceEqDiff]
 rw [DP]
 all_goals first | exact .refl _ | exact ⟨.refl _, .refl _⟩ | exact ⟨.refl _, .refl _, .refl _⟩ | exact ⟨.refl _, _, rfl⟩ | exact ⟨_, rfl⟩ | exact ⟨.refl _, [], by simp⟩ | exact ⟨[], by simp⟩
def Hw (lo hi : Int) : List AB := [.cells [.d (.int .i64 lo)], .cells [.d (.int .i64 hi)]]
theorem aPN (lo hi x : Int) : Ae Tryz.prog 237 [I x, .c (.ptr 0 0), .c (.ptr 1 0)] (Hw lo hi) (one (B (decide (x < lo) || decide (hi < x))) (Hw lo hi)) := by
 refine Cv (X := tx) (nt := 13) (rs := [.tmp 4]) Tryz.func237 rfl rfl rfl rfl mo (by kernel_rfl) rfl rfl (fun hf => ?_)
 by_cases h : x < lo
 ·simp only [go_sem, reduceIte, Nat.reduceEqDiff, Nat.reduceAdd, Hw, h]
  all_goals first | exact .refl _ | exact ⟨.refl _, .refl _⟩ | exact ⟨.refl _, .refl _, .refl _⟩ | exact ⟨.refl _, _, rfl⟩ | exact ⟨_, rfl⟩ | exact ⟨.refl _, [], by simp⟩ | exact ⟨[], by simp⟩
 ·simp only [go_sem, reduceIte, Nat.reduceEqDiff, Nat.reduceAdd, Hw, h]
  all_goals first | exact .refl _ | exact ⟨.refl _, .refl _⟩ | exact ⟨.refl _, .refl _, .refl _⟩ | exact ⟨.refl _, _, rfl⟩ | exact ⟨_, rfl⟩ | exact ⟨.refl _, [], by simp⟩ | exact ⟨[], by simp⟩
def inR (lo hi : Int) (l : List Int) : Bool := !l.any (fun n => decide (n < lo) || decide (hi < n))
theorem aHL (lo hi x : Int) : inR lo hi [x] = decide (lo ≤ x ∧ x ≤ hi) := by
 rw [Bool.eq_iff_iff]; simp [inR]
set_option maxHeartbeats 1000000 in
theorem Hx (lo hi : Int) (l : List Int) : BA Tryz.prog 159 [I lo, I hi, ints l] (B (inR lo hi l)) := by
 refine JB (X := tx) (nt := 11) (rs := [.tmp 6]) Tryz.func159 rfl rfl rfl rfl mo (by kernel_rfl) rfl rfl (fun hf => ?_)
 simp only [go_sem, reduceIte, Nat.reduceEqDiff, Nat.reduceAdd, ints]
 refine Az (aPK l 237 [.ptr 0 0, .ptr 1 0] (fun n => decide (n < lo) || decide (hi < n)) (Hw lo hi) rfl rfl (fun x _ => aPN lo hi x)) rfl rfl (by first | exact wk_refls _ | (repeat constructor)) ?_
 simp only [go_sem, reduceIte, Nat.reduceEqDiff, inR]
def Mf (r : Rd) (p : Po) : Bool := decide (p.fr < 0 ∨ p.to < p.fr ∨ r.pl ≤ p.to ∨ p.co < 0 ∨ 1000000 < p.co)
theorem aFb {r : Rd} (h : 1 ≤ r.pl ∧ r.pl ≤ 40) (p : Po) : (!inR 0 (wr .i64 (r.pl - 1)) [p.fr, p.to, wr .i64 (p.to - p.fr)] || (decide (p.co < 0) || decide (1000000 < p.co))) = Mf r p := by
 have hw : wr .i64 (r.pl - 1) = r.pl - 1 := by rw [CS] <;> omega
 rw [hw, Bool.eq_iff_iff]
 by_cases h1 : 0 ≤ p.fr ∧ p.fr ≤ r.pl - 1 ∧ 0 ≤ p.to ∧ p.to ≤ r.pl - 1
 ·have hw2 : wr .i64 (p.to - p.fr) = p.to - p.fr := by rw [CS] <;> omega
  simp [inR, Mf, hw2]; omega
 ·simp [inR, Mf]; omega
set_option maxHeartbeats 1000000 in
theorem aPO (r : Rd) (p : Po) (h : 1 ≤ r.pl ∧ r.pl ≤ 40) : Ae Tryz.prog 158 [PW p, .c (.ptr 0 0)] [.cells (AM r)] (one (B (Mf r p)) [.cells (AM r)]) := by
 refine Cv (X := tx) (nt := 29) (rs := [.tmp 3]) Tryz.func158 rfl rfl rfl rfl mo (by kernel_rfl) rfl rfl (fun hf => ?_)
 simp only [go_sem, reduceIte, Nat.reduceEqDiff, Nat.reduceAdd, Nat.reduceLeDiff, Nat.reduceBEq, Nat.reduceMul, PW, pC, AM, Be, zc, List.replicate_succ, List.replicate_zero, List.flatten_cons, List.flatten_nil, CR, toD, A4, lim]
 refine Aj (Hx 0 (wr .i64 (r.pl - 1)) [p.fr, p.to, wr .i64 (p.to - p.fr)]) rfl rfl (by first | exact wk_refls _ | (repeat constructor)) ?_
 rw [← aFb h p]
 cases hi : inR 0 (wr .i64 (r.pl - 1)) [p.fr, p.to, wr .i64 (p.to - p.fr)] with
 | false =>
  simp only [go_sem, reduceIte, Nat.reduceEqDiff]
  all_goals first | exact .refl _ | exact ⟨.refl _, .refl _⟩ | exact ⟨.refl _, .refl _, .refl _⟩ | exact ⟨.refl _, _, rfl⟩ | exact ⟨_, rfl⟩ | exact ⟨.refl _, [], by simp⟩ | exact ⟨[], by simp⟩
 | true =>
  by_cases h2 : p.co < 0
  ·simp only [go_sem, reduceIte, Nat.reduceEqDiff, Nat.reduceAdd, Nat.reduceBEq, h2]
   all_goals first | exact .refl _ | exact ⟨.refl _, .refl _⟩ | exact ⟨.refl _, .refl _, .refl _⟩ | exact ⟨.refl _, _, rfl⟩ | exact ⟨_, rfl⟩ | exact ⟨.refl _, [], by simp⟩ | exact ⟨[], by simp⟩
  ·simp only [go_sem, reduceIte, Nat.reduceEqDiff, Nat.reduceAdd, Nat.reduceBEq, h2]
   all_goals first | exact .refl _ | exact ⟨.refl _, .refl _⟩ | exact ⟨.refl _, .refl _, .refl _⟩ | exact ⟨.refl _, _, rfl⟩ | exact ⟨_, rfl⟩ | exact ⟨.refl _, [], by simp⟩ | exact ⟨[], by simp⟩
def BU (r : Rd) : Int := if 24 < r.ps.length then 6 else if r.pl < 1 ∨ 40 < r.pl ∨ r.de < 0 ∨ 2 < r.de ∨ r.di < 0 ∨ 5 < r.di then 2 else if r.ps.any (Mf r) then 2 else 0
set_option maxHeartbeats 2000000 in
theorem Eo (r : Rd) : BA Tryz.prog 75 [BF r] (I (BU r)) := by
 refine JB (X := tx) (nt := 36) (rs := [.tmp 2]) Tryz.func75 rfl rfl rfl rfl mo (by kernel_rfl) rfl rfl (fun hf => ?_)
 simp only [go_sem, reduceIte, Nat.reduceEqDiff, Nat.reduceAdd, Nat.reduceBEq, BF, AM]
 by_cases h24 : 24 < r.ps.length
 ·have h : (24 : Int) < r.ps.length := by omega
  simp only [go_sem, reduceIte, Nat.reduceEqDiff, h, BU, h24]
 have h24' : ¬ (24 : Int) < r.ps.length := by omega
 simp only [go_sem, reduceIte, Nat.reduceEqDiff, Nat.reduceAdd, Nat.reduceLeDiff, Nat.reduceBEq, Nat.reduceMul, h24', Be, zc, List.replicate_succ, List.replicate_zero, List.flatten_cons, List.flatten_nil, CR, toD, A4, lim]
 refine Aj (Hx 1 40 [r.pl]) rfl rfl (by first | exact wk_refls _ | (repeat constructor)) ?_
 simp only [go_sem, reduceIte, Nat.reduceEqDiff, aHL]
 by_cases h1 : 1 ≤ r.pl ∧ r.pl ≤ 40
 case neg =>
  have e : BU r = 2 := by simp only [BU, h24, if_false]; rw [if_pos (by omega)]
  simp only [go_sem, reduceIte, Nat.reduceEqDiff, h1, e]
 simp only [go_sem, reduceIte, Nat.reduceEqDiff, Nat.reduceAdd, Nat.reduceLeDiff, Nat.reduceBEq, Nat.reduceMul, h1, Be, zc, List.replicate_succ, List.replicate_zero, List.flatten_cons, List.flatten_nil, CR, toD, A4, lim]
 refine Aj (Hx 0 2 [r.de]) rfl rfl (by first | exact wk_refls _ | (repeat constructor)) ?_
 simp only [go_sem, reduceIte, Nat.reduceEqDiff, aHL]
 by_cases h2 : 0 ≤ r.de ∧ r.de ≤ 2
 case neg =>
  have e : BU r = 2 := by simp only [BU, h24, if_false]; rw [if_pos (by omega)]
  simp only [go_sem, reduceIte, Nat.reduceEqDiff, h2, e]
 simp only [go_sem, reduceIte, Nat.reduceEqDiff, Nat.reduceAdd, Nat.reduceLeDiff, Nat.reduceBEq, Nat.reduceMul, h2, Be, zc, List.replicate_succ, List.replicate_zero, List.flatten_cons, List.flatten_nil, CR, toD, A4, lim]
 refine Aj (Hx 0 5 [r.di]) rfl rfl (by first | exact wk_refls _ | (repeat constructor)) ?_
 simp only [go_sem, reduceIte, Nat.reduceEqDiff, aHL]
 by_cases h3 : 0 ≤ r.di ∧ r.di ≤ 5
 case neg =>
  have e : BU r = 2 := by simp only [BU, h24, if_false]; rw [if_pos (by omega)]
  simp only [go_sem, reduceIte, Nat.reduceEqDiff, h3, e]
 have e : BU r = if r.ps.any (Mf r) then 2 else 0 := by simp only [BU, h24, if_false]; rw [if_neg (by omega)]
 simp only [go_sem, reduceIte, Nat.reduceEqDiff, Nat.reduceAdd, Nat.reduceBEq, h3]
 refine Az (aPM r.ps 158 [.ptr 0 0] (Mf r) [.cells (AM r)] rfl rfl (fun x _ => aPO r x h1)) rfl rfl (by first | exact wk_refls _ | (repeat constructor)) ?_
 rw [e]
 cases h4 : r.ps.any (Mf r) with
 | false => simp only [go_sem, reduceIte, Nat.reduceEqDiff]
 | true => simp only [go_sem, reduceIte, Nat.reduceEqDiff]
end Go.Proofs.YtfgdbeijjbijnaaGreatDoor
set_option linter.unusedSimpArgs false
set_option linter.unusedVariables false
set_option maxRecDepth 100000
namespace Go.Proofs.YtfgdbeijjbijnaaGreatDoor
open Go Go.Abs Go.Proofs
theorem R8 {α : Type} {l : List α} {P : Nat → α → Prop} {i : Nat} {x : α} (h : ∀ (j : Nat) y, j < i → l[j]? = some y → P j y) (hx : l[i]? = some x) (hp : P i x) : ∀ (j : Nat) y, j < i + 1 → l[j]? = some y → P j y := fun j y hj hy => by
 rcases Nat.lt_succ_iff_lt_or_eq.1 hj with h1 | h1
 ·exact h j y h1 hy
 ·subst h1; rw [hx] at hy; cases hy; exact hp
def Bk : List Int → Int → Int → Bool
 | [], _, _ => true
 | x :: l, last, n => decide (last < x ∧ x < n) && Bk l x n
def FA (l : List Int) (n : Int) : Bool := Bk l (-1) n
def PX (l : List Int) (i : Nat) : Int := if i = 0 then -1 else (l[i - 1]?).getD 0
theorem Ij : ∀ {l : List Int} {last n : Int} {i : Nat} {x : Int}, l[i]? = some x → ¬ ((if i = 0 then last else (l[i - 1]?).getD 0) < x ∧ x < n) → Bk l last n = false
 | y :: l, last, n, 0, x, h, hb => by simp at h; subst h; simp only [if_true] at hb; simp only [Bk, decide_eq_false hb, Bool.false_and]
 | y :: l, last, n, i + 1, x, h, hb => by
  have : Bk l y n = false := by
   refine Ij (i := i) (x := x) (by simpa using h) (fun h2 => hb ?_)
   cases i with
   | zero => simpa using h2
   | succ i => simpa using h2
  simp [Bk, this]
theorem ML : ∀ {l : List Int} {last n : Int}, (∀ (i : Nat) x, i < l.length → l[i]? = some x → (if i = 0 then last else (l[i - 1]?).getD 0) < x ∧ x < n) → Bk l last n = true
 | [], _, _, _ => rfl
 | y :: l, last, n, h => by
  have h0 := h 0 y (by simp) rfl
  simp only [if_true] at h0
  simp only [Bk, decide_eq_true h0, Bool.true_and]
  refine ML (fun i x hi hx => ?_)
  have := h (i + 1) x (by simpa using hi) (by simpa using hx)
  cases i with
  | zero => simpa using this
  | succ i => simpa using this
theorem UT {l : List Int} {i : Nat} {x : Int} (h : l[i]? = some x) : PX l (i + 1) = x := by simp [PX, h]
set_option maxHeartbeats 1000000 in
theorem PY (l : List Int) (n : Int) : BA Tryz.prog 156 [ints l, I n] (B (FA l n)) := by
 refine JB (X := tx) (nt := 24) (rs := [.tmp 4]) Tryz.func156 rfl rfl rfl rfl mo (by kernel_rfl) rfl rfl (fun hf => ?_)
 have hfit := Fz (hf (ints l) (by simp))
 simp only [go_sem, reduceIte, Nat.reduceEqDiff, Int.reduceNeg, ints]
 refine go_loop (fun i : Nat => { slots := [(1, I n), (5, I (PX l i)), (8, ints l), (9, I l.length), (10, I i)], heap := [], marks := [] }) (fun i => i ≤ l.length ∧ ∀ j x, j < i → l[j]? = some x → PX l j < x ∧ x < n) (fun i => l.length - i) 0 mo (by kernel_rfl) ?_ ⟨Nat.zero_le _, by intro j r h; omega⟩ ?_
 ·refine ent_weaken [] rfl rfl (Nat.zero_le _) rfl rfl ?_
  simp only [go_sem, reduceIte, Nat.reduceEqDiff, Nat.reduceSub, Int.reduceNeg, ints, PX]
  all_goals first | exact .refl _ | exact ⟨.refl _, .refl _⟩ | exact ⟨.refl _, .refl _, .refl _⟩ | exact ⟨.refl _, _, rfl⟩ | exact ⟨_, rfl⟩ | exact ⟨.refl _, [], by simp⟩ | exact ⟨[], by simp⟩
 rintro i ⟨hi, hall⟩
 simp only [go_sem, reduceIte, Nat.reduceEqDiff, ints]
 refine go_if (fun h => ?_) (fun h => ?_)
 ·have hlt : i < l.length := by simpa using h
  obtain ⟨x, hx⟩ := Bm hlt
  by_cases h1 : x ≤ PX l i
  ·have e : FA l n = false := Ij hx (fun h2 => absurd h2.1 (by unfold PX at h1; omega))
   simp only [go_sem, reduceIte, Nat.reduceEqDiff, hx, iD, h1, e]
   simp [hlt]
  by_cases h2 : n ≤ x
  ·have e : FA l n = false := Ij hx (fun h3 => absurd h3.2 (by omega))
   simp only [go_sem, reduceIte, Nat.reduceEqDiff, hx, iD, h1, h2, e]
   simp [hlt]
  simp only [go_sem, reduceIte, Nat.reduceEqDiff, hx, iD, h1, h2, An hlt hfit]
  refine ⟨by simp [hlt], i + 1, ⟨hlt, R8 (P := fun j x => PX l j < x ∧ x < n) hall hx ⟨by omega, by omega⟩⟩, by omega, ?_⟩
  refine ent_weaken [] rfl rfl (Nat.zero_le _) rfl rfl ?_
  simp only [go_sem, reduceIte, Nat.reduceEqDiff, UT hx]
 ·have hi' : i = l.length := by simp at h; omega
  have e : FA l n = true := ML (fun j x hj hx => hall j x (by omega) hx)
  simp only [go_sem, reduceIte, Nat.reduceEqDiff, e]
theorem Oo {i n : Nat} (h : i < n) (h0 : 0 < i) (hn : n ≤ 140737488355328) : wr .i64 ((i : Int) - 1) = ((i - 1 : Nat) : Int) := by rw [CS] <;> omega
def po (r : Rd) (i : Int) : Po := (r.ps[i.toNat]?).getD ⟨0, 0, 0⟩
def litB (r : Rd) (p : Po) (k : Int) : Bool := decide (p.fr + r.di ≤ k ∧ k ≤ p.to - r.di)
structure OkR (r : Rd) : Prop where
 len : r.ps.length ≤ 24
 p1 : 1 ≤ r.pl
 p40 : r.pl ≤ 40
 d0 : 0 ≤ r.de
 d2 : r.de ≤ 2
 i0 : 0 ≤ r.di
 i5 : r.di ≤ 5
 ok : ∀ p ∈ r.ps, 0 ≤ p.fr ∧ p.fr ≤ p.to ∧ p.to < r.pl ∧ 0 ≤ p.co ∧ p.co ≤ 1000000
end Go.Proofs.YtfgdbeijjbijnaaGreatDoor
set_option linter.unusedSimpArgs false
set_option linter.unusedVariables false
set_option maxRecDepth 100000
namespace Go.Proofs.YtfgdbeijjbijnaaGreatDoor
open Go Go.Abs Go.Proofs
def aFc : List (Nat × List Nat) := [(0, [0, 1]), (1, [4, 5])]
theorem Df : lookK aFc 0 = some [0, 1] ∧ lookK aFc 1 = some [4, 5] := ⟨rfl, rfl⟩
def TD : List (Nat × List Nat) := [(0, [0, 1, 2]), (1, [2, 7, 8]), (2, [6])]
theorem BP : lookK TD 0 = some [0, 1, 2] ∧ lookK TD 1 = some [2, 7, 8] ∧ lookK TD 2 = some [6] := ⟨rfl, rfl, rfl⟩
def Gc : List (Nat × List Nat) := [(0, [0]), (1, [0, 3]), (2, [0, 3, 17, 18]), (3, [0, 3, 17, 18, 19]), (4, [0, 3, 4, 17, 18]), (5, [0, 3, 4, 17, 18, 22, 23]), (6, [0, 3, 4, 17, 18, 22, 23, 24]), (7, [0, 3, 4, 5, 17, 18, 22, 23]), (8, [0, 3, 4, 5, 17, 18, 22, 23, 29]), (9, [0, 3, 4, 17, 18, 22, 23]), (10, [0, 3, 4, 17, 18, 22, 23]), (11, [0, 3, 17, 18]), (12, [2])]
theorem Dp : lookK Gc 0 = some [0] ∧ lookK Gc 1 = some [0, 3] ∧ lookK Gc 2 = some [0, 3, 17, 18] ∧ lookK Gc 3 = some [0, 3, 17, 18, 19] ∧ lookK Gc 4 = some [0, 3, 4, 17, 18] ∧ lookK Gc 5 = some [0, 3, 4, 17, 18, 22, 23] ∧ lookK Gc 6 = some [0, 3, 4, 17, 18, 22, 23, 24] ∧ lookK Gc 7 = some [0, 3, 4, 5, 17, 18, 22, 23] ∧ lookK Gc 8 = some [0, 3, 4, 5, 17, 18, 22, 23, 29] ∧ lookK Gc 9 = some [0, 3, 4, 17, 18, 22, 23] ∧ lookK Gc 10 = some [0, 3, 4, 17, 18, 22, 23] ∧ lookK Gc 11 = some [0, 3, 17, 18] ∧ lookK Gc 12 = some [2] := ⟨rfl, rfl, rfl, rfl, rfl, rfl, rfl, rfl, rfl, rfl, rfl, rfl, rfl⟩
def Ju : List (Nat × List Nat) := [(0, [0]), (1, [0, 3]), (2, [0, 3, 10, 11, 12]), (3, [0, 3, 10, 11, 12, 13]), (4, [0, 3, 4, 5, 10, 11, 12]), (5, [0, 3, 10, 11, 12]), (6, [0, 3, 10, 11, 12]), (7, [2])]
theorem CP : lookK Ju 0 = some [0] ∧ lookK Ju 1 = some [0, 3] ∧ lookK Ju 2 = some [0, 3, 10, 11, 12] ∧ lookK Ju 3 = some [0, 3, 10, 11, 12, 13] ∧ lookK Ju 4 = some [0, 3, 4, 5, 10, 11, 12] ∧ lookK Ju 5 = some [0, 3, 10, 11, 12] ∧ lookK Ju 6 = some [0, 3, 10, 11, 12] ∧ lookK Ju 7 = some [2] := ⟨rfl, rfl, rfl, rfl, rfl, rfl, rfl, rfl⟩
theorem BQ {x : Int} (h1 : -9223372036854775808 ≤ x) (h2 : x ≤ 9223372036854775807) : wr .i64 x = x := by rw [CS] <;> omega
theorem OkR.post {r : Rd} (h : OkR r) {i : Int} (h0 : 0 ≤ i) (hi : i < r.ps.length) : r.ps[i.toNat]? = some (po r i) ∧ 0 ≤ (po r i).fr ∧ (po r i).fr ≤ (po r i).to ∧ (po r i).to < r.pl ∧ 0 ≤ (po r i).co ∧ (po r i).co ≤ 1000000 := by
 obtain ⟨p, hp⟩ := Bm (l := r.ps) (i := i.toNat) (by omega)
 have hpo : po r i = p := by simp [po, hp]
 rw [hpo]
 exact ⟨hp, h.ok p (List.mem_of_getElem? hp)⟩
theorem UU {r : Rd} (h : BU r = 0) : OkR r := by
 unfold BU at h
 split at h
 ·simp at h
 split at h
 ·simp at h
 split at h
 ·simp at h
 rename_i h1 h2 h3
 refine ⟨by omega, by omega, by omega, by omega, by omega, by omega, by omega, fun p hp => ?_⟩
 have := List.any_eq_false.1 (by simpa using h3) p hp
 simp [Mf] at this
 omega
theorem OkR.zero {r : Rd} (h : OkR r) : BU r = 0 := by
 have := h.len; have := h.p1; have := h.p40; have := h.d0; have := h.d2; have := h.i0; have := h.i5
 unfold BU
 rw [if_neg (by omega), if_neg (by omega), if_neg]
 rw [Bool.not_eq_true, List.any_eq_false]
 intro p hp
 have := h.ok p hp
 simp [Mf]; omega
def As (r : Rd) (i : Int) : Int := (po r i).fr + r.di
def rTo (r : Rd) (i : Int) : Int := (po r i).to - r.di + 1
set_option maxHeartbeats 1000000 in
theorem aFd (r : Rd) (st bk : Nat → Int) (i : Int) (hr : OkR r) (h0 : 0 ≤ i) (hi : i < r.ps.length) : BA Tryz.prog 88 [.c (.dp (EJ r st bk)), I i] (.tup [I (As r i), I (rTo r i)]) := by
 refine pure_wkE (bad := [1]) (kp := aFc) (X := tx) (nt := 37) (rs := [.tmp 4, .tmp 5]) Tryz.func88 rfl rfl rfl rfl mo (by kernel_rfl) rfl rfl (fun hf => ?_)
 obtain ⟨hp, q0, q1, q2, q3, q4⟩ := hr.post h0 hi
 have := hr.p40
 have := hr.i0
 have := hr.i5
 have w1 : wr .i64 ((po r i).fr + r.di) = (po r i).fr + r.di := by rw [CS] <;> omega
 have w2 : wr .i64 ((po r i).to - r.di) = (po r i).to - r.di := by rw [CS] <;> omega
 have w3 : wr .i64 ((po r i).to - r.di + 1) = (po r i).to - r.di + 1 := by rw [CS] <;> omega
 have hc : decide (0 ≤ i) = true := by simpa using h0
 have hd : decide (i < r.ps.length) = true := by simpa using hi
 have hl := JI st bk
 simp (maxSteps := 2000000) only [go_sem, reduceIte, Nat.reduceEqDiff, Nat.reduceAdd, Nat.reduceLeDiff, Nat.reduceBEq, Df, BP, Dp, CP, EJ, hp, pD, w1, w2, w3, hc, hd, As, rTo, hl]
 exact (by kernel_rfl : _ = true)
set_option maxHeartbeats 1000000 in
theorem aCH (r : Rd) (st bk : Nat → Int) (i k : Int) (hr : OkR r) (h0 : 0 ≤ i) (hi : i < r.ps.length) : BA Tryz.prog 157 [.c (.dp (EJ r st bk)), I i, I k] (B (litB r (po r i) k)) := by
 refine pure_wkE (bad := []) (kp := TD) (X := tx) (nt := 23) (rs := [.tmp 6]) Tryz.func157 rfl rfl rfl rfl mo (by kernel_rfl) rfl rfl (fun hf => ?_)
 simp (maxSteps := 2000000) only [go_sem, reduceIte, Nat.reduceEqDiff, Nat.reduceAdd, Df, BP, Dp, CP]
 refine Aj (aFd r st bk i hr h0 hi) rfl rfl (by first | exact wk_refls _ | (repeat constructor)) ?_
 by_cases h1 : As r i ≤ k
 ·have e : litB r (po r i) k = decide (k < rTo r i) := by
   simp only [As] at h1
   rw [litB, rTo, decide_eq_decide]; omega
  simp (maxSteps := 2000000) only [go_sem, reduceIte, Nat.reduceEqDiff, Df, BP, Dp, CP, h1, e]
 ·have e : litB r (po r i) k = false := by
   simp only [As] at h1
   rw [litB]; simp; omega
  simp (maxSteps := 2000000) only [go_sem, reduceIte, Nat.reduceEqDiff, Df, BP, Dp, CP, h1, e]
def litP (r : Rd) (st : Nat → Int) : Nat → Int → Int
 | 0, _ => 0
 | m + 1, k => litP r st m k + if litB r (po r m) k then st m else 0
def Jv (r : Rd) (st : Nat → Int) : List Int := (List.range r.pl.toNat).map fun k : Nat => litP r st r.ps.length (k : Int)
theorem KD {r : Rd} {st : Nat → Int} (h : ∀ i, 0 ≤ st i ∧ st i ≤ 1) (k : Int) : ∀ m : Nat, 0 ≤ litP r st m k ∧ litP r st m k ≤ m
 | 0 => by simp [litP]
 | m + 1 => by
  have := KD (r := r) h k m
  have := h m
  simp only [litP]
  split <;> omega
def GL (r : Rd) (st : Nat → Int) (i j : Nat) : Nat → Int := fun k => if k < j then litP r st (i + 1) (k : Int) else litP r st i (k : Int)
theorem UV (r : Rd) (st : Nat → Int) (i : Nat) : GL r st i 0 = fun k : Nat => litP r st i (k : Int) := by funext k; simp [GL]
theorem aCI (r : Rd) (st : Nat → Int) (i n : Nat) : Ar n (GL r st i n) = Ar n (fun k : Nat => litP r st (i + 1) (k : Int)) := by
 refine List.map_congr_left fun k hk => ?_
 simp at hk
 simp [GL, hk]
theorem aCJ {r : Rd} {st : Nat → Int} {i j : Nat} {v : Int} (h : v = litP r st (i + 1) j) : upd (GL r st i j) j v = GL r st i (j + 1) := by
 funext k
 by_cases e : k = j
 ·subst e; rw [Ai, h]; simp [GL]
 ·rw [At _ _ e]
  simp only [GL]
  have : k < j + 1 ↔ k < j := by omega
  simp only [this]
theorem UW {r : Rd} {st : Nat → Int} {i j : Nat} (h : litB r (po r i) j = false) : GL r st i j = GL r st i (j + 1) := by
 funext k
 simp only [GL]
 by_cases e : k = j
 ·subst e; simp [litP, h]
 ·have : k < j + 1 ↔ k < j := by omega
  simp only [this]
theorem EY (n : Nat) (f : Nat → Int) : A4 1 n (Ar n f) = (List.range n).map (fun k => iD (f k)) := by
 refine List.ext_getElem? fun i => ?_
 by_cases h : i < n
 ·rw [DO 1 n _ i h, Nat.mul_one]
  have hlt : i < (Ar n f).length := by rw [A7]; exact h
  rw [List.drop_eq_getElem_cons hlt]
  have e : (Ar n f)[i]? = some (Ar n f)[i] := List.getElem?_eq_getElem hlt
  rw [EI f h] at e
  rw [← Option.some.inj e]
  simp [h, iD]
 ·rw [List.getElem?_eq_none (by rw [BR]; omega), List.getElem?_eq_none (by simp; omega)]
def Ac (n : Nat) (f : Nat → Int) : List C := (Ar n f).map .d
theorem AH (m n : Nat) (f : Nat → Int) : C.lowL m (Ac n f) = true := KB _ _
theorem BK (n : Nat) (f : Nat → Int) (m : Nat) (v : Int) : (Ac n f).set m (.d (.int .i64 v)) = Ac n (upd f m v) := by
 rw [Ac, Ac, ← List.map_set, F0]
theorem TE (n : Nat) : zc [C.d (.int .i64 0)] n = Ac n (fun _ => 0) := by
 rw [VP]
 refine List.ext_getElem? fun j => ?_
 by_cases h : j < n
 ·simp [Ac, Ar, h, List.getElem?_replicate]
 ·rw [List.getElem?_eq_none (by simp; omega), List.getElem?_eq_none (by simp [Ac, Ar]; omega)]
theorem AY {n : Nat} (f : Nat → Int) {j : Nat} (h : j < n) : (Ac n f)[j]? = some (.d (.int .i64 (f j))) := by rw [Ac, List.getElem?_map, EI _ h]; rfl
theorem Ah (n : Nat) (f : Nat → Int) : (Ac n f).length = n := by simp [Ac, Ar]
set_option maxHeartbeats 4000000 in
theorem aF2 (r : Rd) (st bk : Nat → Int) (hr : OkR r) (hs : ∀ i, 0 ≤ st i ∧ st i ≤ 1) : BA Tryz.prog 72 [.c (.dp (EJ r st bk))] (ints (Jv r st)) := by
 refine pure_fzE (bad := []) (kp := Gc) (X := tx) (nt := 45) (rs := [.tmp 2]) Tryz.func72 rfl rfl rfl rfl mo (by kernel_rfl) rfl rfl (fun hf => ?_)
 have h1 := hr.p1
 have h40 := hr.p40
 have hlen := hr.len
 have hl := JI st bk
 have d1 : decide (0 ≤ r.pl) = true := by simp; omega
 have d2 : decide (r.pl ≤ 140737488355328) = true := by simp; omega
 have d3 : decide (8 * r.pl ≤ 140737488355328) = true := by simp; omega
 have d4 : decide (r.pl.toNat ≤ 140737488355328) = true := by simp; omega
 simp (maxSteps := 2000000) only [go_sem, reduceIte, Nat.reduceEqDiff, Nat.reduceAdd, Nat.reduceLeDiff, Nat.reduceBEq, Df, BP, Dp, CP, EJ, d1, d2, d3, d4, TE, hl]
 refine ⟨by rw [Bool.and_eq_true, Bool.and_eq_true]; exact ⟨⟨decide_eq_true (Int.le_refl _), decide_eq_true (Int.le_trans (Int.mul_le_mul_of_nonneg_left h40 (by decide)) (show (8 : Int) * 40 ≤ 140737488355328 by decide))⟩, decide_eq_true (Int.le_trans h40 (show (40 : Int) ≤ 140737488355328 by decide))⟩, ?_⟩
 refine goE_loop (bad := []) (kp := Gc) (fun i : Nat => { slots := [(0, .c (.dp (EJ r st bk))), (3, .c (.ms 0 0 r.pl.toNat r.pl.toNat)), (17, I r.ps.length), (18, I i)], heap := [.cells (Ac r.pl.toNat (fun k : Nat => litP r st i (k : Int)))], marks := [] }) (fun i => i ≤ r.ps.length) (fun i => r.ps.length - i) 0 mo (by kernel_rfl) ?_ (Nat.zero_le _) ?_
 ·refine ent_weaken [] (by simp only [litP, List.append_nil, ← TE]; rfl) rfl (Nat.zero_le _) (by simp [AB.low, AH]) rfl ?_
  simp (maxSteps := 2000000) only [go_sem, reduceIte, Nat.reduceEqDiff, Nat.reduceLT, Df, BP, Dp, CP, EJ]
  all_goals first | exact .refl _ | exact ⟨.refl _, .refl _⟩ | exact ⟨.refl _, .refl _, .refl _⟩ | exact ⟨.refl _, _, rfl⟩ | exact ⟨_, rfl⟩ | exact ⟨.refl _, [], by simp⟩ | exact ⟨[], by simp⟩
 rintro i hi
 simp (maxSteps := 2000000) only [go_sem, reduceIte, Nat.reduceEqDiff, Nat.reduceAdd, Df, BP, Dp, CP]
 refine goE_if (fun h => ?_) (fun h => ?_)
 ·have hlt : i < r.ps.length := by simpa using h
  simp (maxSteps := 2000000) only [go_sem, reduceIte, Nat.reduceEqDiff, Nat.reduceAdd, Df, BP, Dp, CP]
  refine goE_loop (bad := []) (kp := Gc) (fun j : Nat => { slots := [(0, .c (.dp (EJ r st bk))), (3, .c (.ms 0 0 r.pl.toNat r.pl.toNat)), (4, I i), (17, I r.ps.length), (18, I i), (22, I r.pl.toNat), (23, I j)], heap := [.cells (Ac r.pl.toNat (GL r st i j))], marks := [] }) (fun j => j ≤ r.pl.toNat) (fun j => r.pl.toNat - j) 0 mo (by kernel_rfl) ?_ (Nat.zero_le _) ?_
  ·refine ent_weaken [] (by simp [UV]) rfl (Nat.zero_le _) (by simp [AB.low, AH]) rfl ?_
   simp (maxSteps := 2000000) only [go_sem, reduceIte, Nat.reduceEqDiff, Nat.reduceLT, Df, BP, Dp, CP]
   all_goals first | exact .refl _ | exact ⟨.refl _, .refl _⟩ | exact ⟨.refl _, .refl _, .refl _⟩ | exact ⟨.refl _, _, rfl⟩ | exact ⟨_, rfl⟩ | exact ⟨.refl _, [], by simp⟩ | exact ⟨[], by simp⟩
  rintro j hj
  simp (maxSteps := 2000000) only [go_sem, reduceIte, Nat.reduceEqDiff, Nat.reduceAdd, Df, BP, Dp, CP]
  refine goE_if (fun h => ?_) (fun h => ?_)
  ·have hjl : j < r.pl.toNat := by simp only [decide_eq_true_eq] at h; omega
   have hjl' : (j : Int) < r.pl := by omega
   simp (maxSteps := 2000000) only [go_sem, reduceIte, Nat.reduceEqDiff, Nat.reduceAdd, Df, BP, Dp, CP]
   refine Aj (aCH r st bk i j hr (by omega) (by omega)) rfl rfl (by first | exact wk_refls _ | (repeat constructor)) ?_
   simp (maxSteps := 2000000) only [go_sem, reduceIte, Nat.reduceEqDiff, Df, BP, Dp, CP]
   refine goE_if (fun h => ?_) (fun h => ?_)
   ·have g1 := AY (GL r st i j) hjl
    have g2 := R7 (st := st) (bk := bk) (i := i) (by omega)
    have g3 : GL r st i j j = litP r st i (j : Int) := by simp [GL]
    have b1 := KD (r := r) hs (j : Int) i
    have b2 := hs i
    have g4 : wr .i64 (litP r st i (j : Int) + st i) = litP r st (i + 1) (j : Int) := by
     rw [BQ (by omega) (by omega)]; simp [litP, h]
    have c1 : decide ((j : Int) < (r.pl.toNat : Int)) = true := by simp; omega
    have c2 : decide ((i : Int) < 24) = true := by simp; omega
    have c3 : decide (j + 1 ≤ r.pl.toNat) = true := by simp; omega
    have c4 : decide (1 ≤ 64 - i) = true := by simp; omega
    have c5 : (decide ((0 : Int) ≤ (i : Int)) && decide ((i : Int) < ((24 : Nat) : Int))) = true := by simp; omega
    have c6 : decide ((0 : Int) ≤ (j : Int)) = true := by simp
    simp (maxSteps := 2000000) only [go_sem, reduceIte, Nat.reduceEqDiff, Nat.reduceAdd, Nat.reduceBEq, Df, BP, Dp, CP, EJ, g1, g2, g3, g4, c1, c2, c3, c4, c5, c6, Nat.mul_one, List.getElem?_drop, hl, Ah, List.length_drop]
    simp (maxSteps := 2000000) only [go_sem, Df, BP, Dp, CP, An hjl (show r.pl.toNat ≤ 140737488355328 by omega)]
    refine ⟨j + 1, by omega, by omega, ?_⟩
    refine ent_weaken [] (by simp only [BK, aCJ, List.append_nil]) rfl (Nat.zero_le _) (by simp [AB.low, AH]) rfl ?_
    simp (maxSteps := 2000000) only [go_sem, reduceIte, Nat.reduceEqDiff, Nat.reduceLT, Df, BP, Dp, CP]
   ·simp (maxSteps := 2000000) only [go_sem, reduceIte, Nat.reduceEqDiff, Nat.reduceAdd, Df, BP, Dp, CP, An hjl (show r.pl.toNat ≤ 140737488355328 by omega)]
    refine ⟨j + 1, by omega, by omega, ?_⟩
    refine ent_weaken [] (by simp only [UW h, List.append_nil]) rfl (Nat.zero_le _) (by simp [AB.low, AH]) rfl ?_
    simp (maxSteps := 2000000) only [go_sem, reduceIte, Nat.reduceEqDiff, Nat.reduceLT, Df, BP, Dp, CP]
  ·have hj' : j = r.pl.toNat := by simp only [decide_eq_false_iff_not] at h; omega
   subst hj'
   simp (maxSteps := 2000000) only [go_sem, reduceIte, Nat.reduceEqDiff, Nat.reduceAdd, Df, BP, Dp, CP, An hlt (show r.ps.length ≤ 140737488355328 by omega)]
   refine ⟨i + 1, by omega, by omega, ?_⟩
   refine ent_weaken [] (by simp only [Ac, aCI, List.append_nil]) rfl (Nat.zero_le _) (by simp [AB.low, AH]) rfl ?_
   simp (maxSteps := 2000000) only [go_sem, reduceIte, Nat.reduceEqDiff, Nat.reduceLT, Df, BP, Dp, CP]
 ·have hi' : i = r.ps.length := by simp at h; omega
  subst hi'
  simp (maxSteps := 2000000) only [go_sem, reduceIte, Nat.reduceEqDiff, Nat.reduceAdd, Df, BP, Dp, CP]
  refine ⟨0, Ac r.pl.toNat (fun k : Nat => litP r st r.ps.length (k : Int)), Ar r.pl.toNat (fun k : Nat => litP r st r.ps.length (k : Int)), _, rfl, KC _, .v (.c (.ms 0 1 r.pl.toNat r.pl.toNat (by rw [A7]; omega) (Nat.le_refl _) (by unfold lim; omega))), ?_⟩
  rw [List.drop_zero, EY, ints, Jv, List.map_map]
  all_goals first | exact .refl _ | exact ⟨.refl _, .refl _⟩ | exact ⟨.refl _, .refl _, .refl _⟩ | exact ⟨.refl _, _, rfl⟩ | exact ⟨_, rfl⟩ | exact ⟨.refl _, [], by simp⟩ | exact ⟨[], by simp⟩
def costP (r : Rd) (st : Nat → Int) : Nat → Int
 | 0 => 0
 | m + 1 => costP r st m + (po r m).co * st m
theorem Dq {r : Rd} {st : Nat → Int} (hr : OkR r) (h : ∀ i, 0 ≤ st i ∧ st i ≤ 1) : ∀ m : Nat, m ≤ r.ps.length → 0 ≤ costP r st m ∧ costP r st m ≤ 1000000 * m
 | 0, _ => by simp [costP]
 | m + 1, hm => by
  have ih := Dq hr h m (by omega)
  obtain ⟨_, _, _, _, q3, q4⟩ := hr.post (i := (m : Int)) (by omega) (by omega)
  have hb := h m
  have : st m = 0 ∨ st m = 1 := by omega
  simp only [costP]
  rcases this with e | e <;> rw [e] <;> omega
set_option maxHeartbeats 2000000 in
theorem aHM (r : Rd) (st bk : Nat → Int) (hr : OkR r) (hs : ∀ i, 0 ≤ st i ∧ st i ≤ 1) : BA Tryz.prog 74 [.c (.dp (EJ r st bk))] (I (costP r st r.ps.length)) := by
 refine pure_wkE (bad := []) (kp := Ju) (X := tx) (nt := 30) (rs := [.tmp 2]) Tryz.func74 rfl rfl rfl rfl mo (by kernel_rfl) rfl rfl (fun hf => ?_)
 have hlen := hr.len
 have hl := JI st bk
 simp (maxSteps := 2000000) only [go_sem, reduceIte, Nat.reduceEqDiff, Nat.reduceAdd, Nat.reduceLeDiff, Nat.reduceBEq, Df, BP, Dp, CP, EJ]
 refine goE_loop (bad := []) (kp := Ju) (fun i : Nat => { slots := [(0, .c (.dp (EJ r st bk))), (3, I (costP r st i)), (10, B5 r.ps), (11, I r.ps.length), (12, I i)], heap := [], marks := [] }) (fun i => i ≤ r.ps.length) (fun i => r.ps.length - i) 0 mo (by kernel_rfl) ?_ (Nat.zero_le _) ?_
 ·refine ent_weaken [] rfl rfl (Nat.zero_le _) rfl rfl ?_
  simp (maxSteps := 2000000) only [go_sem, reduceIte, Nat.reduceEqDiff, Df, BP, Dp, CP, EJ, B5, costP]
  all_goals first | exact .refl _ | exact ⟨.refl _, .refl _⟩ | exact ⟨.refl _, .refl _, .refl _⟩ | exact ⟨.refl _, _, rfl⟩ | exact ⟨_, rfl⟩ | exact ⟨.refl _, [], by simp⟩ | exact ⟨[], by simp⟩
 rintro i hi
 simp (maxSteps := 2000000) only [go_sem, reduceIte, Nat.reduceEqDiff, Nat.reduceAdd, Df, BP, Dp, CP, B5]
 refine goE_if (fun h => ?_) (fun h => ?_)
 ·have hlt : i < r.ps.length := by simpa using h
  obtain ⟨hp, _, _, _, q3, q4⟩ := hr.post (i := (i : Int)) (by omega) (by omega)
  have hp : r.ps[i]? = some (po r i) := hp
  have b1 := Dq hr hs i hi
  have b3 := Dq hr hs (i + 1) hlt
  have b2 := hs i
  have g2 := R7 (st := st) (bk := bk) (i := i) (by omega)
  have w1 : wr .i64 ((po r i).co * st i) = (po r i).co * st i := by
   have : st i = 0 ∨ st i = 1 := by omega
   rcases this with e | e <;> rw [e] <;> exact BQ (by omega) (by omega)
  have w2 : wr .i64 (costP r st i + (po r i).co * st i) = costP r st (i + 1) := by
   rw [costP] at b3
   rw [costP]; exact BQ (by omega) (by omega)
  have c4 : decide (1 ≤ 64 - i) = true := by simp; omega
  have c5 : (decide ((0 : Int) ≤ (i : Int)) && decide ((i : Int) < ((24 : Nat) : Int))) = true := by simp; omega
  have c6 : (decide ((0 : Int) ≤ (i : Int)) && decide ((i : Int) < (r.ps.length : Int))) = true := by simp; omega
  simp (maxSteps := 2000000) only [go_sem, reduceIte, Nat.reduceEqDiff, Nat.reduceAdd, Nat.reduceBEq, Df, BP, Dp, CP, EJ, hp, pD, g2, w1, w2, c4, c5, c6, Nat.mul_one, List.getElem?_drop, hl, List.length_drop, An hlt (show r.ps.length ≤ 140737488355328 by omega)]
  refine ⟨i + 1, hlt, by omega, ?_⟩
  refine ent_weaken [.cells (pC (po r i))] rfl rfl (Nat.zero_le _) rfl rfl ?_
  simp (maxSteps := 2000000) only [go_sem, reduceIte, Nat.reduceEqDiff, Df, BP, Dp, CP]
 ·have hi' : i = r.ps.length := by simp at h; omega
  simp (maxSteps := 2000000) only [go_sem, reduceIte, Nat.reduceEqDiff, Nat.reduceAdd, Df, BP, Dp, CP, hi']
end Go.Proofs.YtfgdbeijjbijnaaGreatDoor
set_option linter.unusedSimpArgs false
set_option linter.unusedVariables false
set_option maxRecDepth 100000
namespace Go.Proofs.YtfgdbeijjbijnaaGreatDoor
open Go Go.Abs Go.Proofs
def Dr : List (Nat × List Nat) := [(0, [0, 1, 13, 14]), (1, [0, 1, 13, 14, 15]), (2, [0, 1, 3, 13, 14]), (3, [0, 1, 13, 14, 41]), (4, [0, 1, 13, 14]), (5, [0, 1, 47, 48, 49]), (6, [0, 1, 47, 48, 49, 50]), (7, [0, 1, 4, 5, 47, 48, 49]), (8, [0, 1, 4, 5, 6, 7, 47, 48, 49]), (9, [0, 1, 4, 5, 6, 7, 8, 47, 48, 49]), (10, [0, 1, 4, 5, 6, 7, 8, 47, 48, 49, 72]), (11, [0, 1, 6, 7, 8, 47, 48, 49]), (12, [0, 1, 47, 48, 49, 88]), (13, [0, 1, 47, 48, 49])]
theorem B4 : lookK Dr 0 = some [0, 1, 13, 14] ∧ lookK Dr 1 = some [0, 1, 13, 14, 15] ∧ lookK Dr 2 = some [0, 1, 3, 13, 14] ∧ lookK Dr 3 = some [0, 1, 13, 14, 41] ∧ lookK Dr 4 = some [0, 1, 13, 14] ∧ lookK Dr 5 = some [0, 1, 47, 48, 49] ∧ lookK Dr 6 = some [0, 1, 47, 48, 49, 50] ∧ lookK Dr 7 = some [0, 1, 4, 5, 47, 48, 49] ∧ lookK Dr 8 = some [0, 1, 4, 5, 6, 7, 47, 48, 49] ∧ lookK Dr 9 = some [0, 1, 4, 5, 6, 7, 8, 47, 48, 49] ∧ lookK Dr 10 = some [0, 1, 4, 5, 6, 7, 8, 47, 48, 49, 72] ∧ lookK Dr 11 = some [0, 1, 6, 7, 8, 47, 48, 49] ∧ lookK Dr 12 = some [0, 1, 47, 48, 49, 88] ∧ lookK Dr 13 = some [0, 1, 47, 48, 49] := ⟨rfl, rfl, rfl, rfl, rfl, rfl, rfl, rfl, rfl, rfl, rfl, rfl, rfl, rfl⟩
structure Stp where
 fr : Int
 to : Int
 co : Int
 po : Int
def sC (s : Stp) : List C := [.d (.int .i64 s.fr), .d (.int .i64 s.to), .d (.int .i64 s.co), .d (.int .i64 s.po)]
def sV (s : Stp) : V := .agg (sC s)
def Ep (bk : Nat → Int) (k : Nat) : List Stp := ⟨(k : Int) + 1, k, 0, -1⟩ :: (if 0 < bk k then [⟨k, (k : Int) + 1, 0, -1⟩] else [])
def A0 (r : Rd) (st : Nat → Int) (i : Nat) : Stp := if st i = 1 then ⟨rTo r i, As r i, -(po r i).co, i⟩ else ⟨As r i, rTo r i, (po r i).co, i⟩
def Ea (r : Rd) (st : Nat → Int) (i : Nat) : List Stp := if As r i < rTo r i then [A0 r st i] else []
def Av (r : Rd) (st bk : Nat → Int) : List Stp := (List.range r.pl.toNat).flatMap (Ep bk) ++ (List.range r.ps.length).flatMap (Ea r st)
theorem KE {α : Type} (f : Nat → List α) {k n : Nat} (h : k < n) : ∃ suf, (List.range n).flatMap f = (List.range k).flatMap f ++ (f k ++ suf) := by
 induction n with
 | zero => omega
 | succ n ih =>
  rw [List.range_succ, List.flatMap_append]
  by_cases e : k = n
  ·subst e; exact ⟨[], by simp⟩
  ·obtain ⟨suf, hs⟩ := ih (by omega)
   exact ⟨suf ++ f n, by rw [hs]; simp⟩
theorem DQ {α : Type} (f : Nat → List α) (k : Nat) : (List.range (k + 1)).flatMap f = (List.range k).flatMap f ++ f k := by
 rw [List.range_succ, List.flatMap_append]; simp
structure FS where
 far : Nat → Int
 by' : List (Int × Stp)
def fnd (k : Int) : List (Int × Stp) → Nat → Option (Nat × Stp)
 | [], _ => none
 | e :: es, i => if k = e.1 then some (i, e.2) else fnd k es (i + 1)
def DJ (k : Int) (s : Stp) (es : List (Int × Stp)) : List (Int × Stp) := match fnd k es 0 with
 | some (i, _) => es.set i (k, s)
 | none => es ++ [(k, s)]
def Fx (k : Int) (es : List (Int × Stp)) : List (Int × Stp) := match fnd k es 0 with
 | some (i, _) => es.eraseIdx i
 | none => es
def byE (es : List (Int × Stp)) : List (V × V) := es.map fun e => (I e.1, sV e.2)
theorem PZ (k : Int) : ∀ (es : List (Int × Stp)) (i : Nat), By (I k) (byE es) i = some ((fnd k es i).map fun p => (p.1, sV p.2))
 | [], i => rfl
 | e :: es, i => by
  have ih := PZ k es (i + 1)
  simp only [byE, List.map_cons, By, I, Gl, if_true] at ih ⊢
  by_cases h : k = e.1
  ·simp [h, fnd]
  ·simp only [h, decide_false, fnd, if_false]; exact ih
theorem aFe (k : Int) (s : Stp) (es : List (Int × Stp)) : RB (I k) (sV s) (byE es) ((fnd k es 0).map fun p => (p.1, sV p.2)) = byE (DJ k s es) := by
 unfold DJ
 cases h : fnd k es 0 with
 | none => simp [RB, byE]
 | some p => simp [RB, byE, List.map_set]
theorem MM {α β : Type} (f : α → β) : ∀ (l : List α) (i : Nat), (l.map f).eraseIdx i = (l.eraseIdx i).map f
 | [], _ => rfl
 | _ :: _, 0 => rfl
 | a :: l, i + 1 => by simp [MM f l i]
def Au : Int := 1125899906842624
def Br (q : FS) (s : Stp) : FS :=
  if q.far s.fr.toNat = Au then q else
  ⟨upd q.far s.to.toNat (min (q.far s.to.toNat) (wr .i64 (q.far s.fr.toNat + s.co))),
   if min (q.far s.to.toNat) (wr .i64 (q.far s.fr.toNat + s.co)) < q.far s.to.toNat then DJ s.to s q.by' else q.by'⟩
def AC (l : List Stp) (q : FS) : FS := l.foldl Br q
theorem KF (a b : List Stp) (q : FS) : AC (a ++ b) q = AC b (AC a q) := List.foldl_append ..
def FB : List D := [.int .i64 0, .int .i64 0, .int .i64 0, .int .i64 (-2)]
def slF : List (Nat × V) := [(0, .c (.ptr 3 0)), (2, .c (.ptr 6 0)), (4, .c (.ptr 7 0)), (6, .c (.ptr 9 0)), (7, .c (.ptr 10 0)), (20, .c (.fn (.func 312) [.ptr 11 0]))]
structure FP where
 r : Rd
 st : Nat → Int
 bk : Nat → Int
 z : Nat → Int
 f5 : Nat → Int
 bf : Nat → Int
 A : Code
 Bd : Code
def HF (p : FP) (q : FS) (sta : LoopState) : List AB :=
  [.gl 0 FB, .cells (AM p.r), .cells (AM p.r), .cells (C4 p.r p.st p.bk), .cells (Ac 41 p.z), .cells (Ac 41 p.f5),
   .cells (Ac 41 zf), .cells (Ac 41 q.far), .mp (byE q.by'), .cells [.mp 8], .cells (Ac 41 p.bf), .cells [.ptr 3 0], .df,
   .lp { state := sta, pend := none, slots := slF, nt := 52, ps := #[21], assign := p.A, body := p.Bd, D := 12 }]
theorem F1 (n : Nat) (es : List (Int × Stp)) : (byE es).all (fun e => e.1.low n && e.2.low n) = true := by
 rw [List.all_eq_true]
 intro e he
 obtain ⟨x, _, rfl⟩ := List.mem_map.1 he
 rfl
theorem DA (p : FP) (q : FS) (sta : LoopState) (n : Nat) (h : 14 ≤ n) : (HF p q sta).all (AB.low n) = true := by
 have h8 : decide (8 < n) = true := by simp; omega
 have h3 : decide (3 < n) = true := by simp; omega
 have h12 : decide (12 < n) = true := by simp; omega
 have h6 : decide (6 < n) = true := by simp; omega
 have h7 : decide (7 < n) = true := by simp; omega
 have h9 : decide (9 < n) = true := by simp; omega
 have h10 : decide (10 < n) = true := by simp; omega
 have h11 : decide (11 < n) = true := by simp; omega
 simp [HF, List.all_cons, List.all_nil, AB.low, AH, Do, CM, C.lowL, C.low, slF, V.low, F1, Aq]; omega
theorem EK (r : Rd) (st bk : Nat → Int) : (C4 r st bk).length = 68 := by simp [C4, A7]
theorem nC0 (r : Rd) (st bk : Nat → Int) : (C4 r st bk)[0]? = some (.d (.int .i64 r.pl)) := rfl
theorem nC1 (r : Rd) (st bk : Nat → Int) : (C4 r st bk)[1]? = some (.d (.int .i64 r.de)) := rfl
theorem nC3 (r : Rd) (st bk : Nat → Int) : (C4 r st bk)[3]? = some (.d (.sl (r.ps.map pD))) := rfl
theorem aFf (r : Rd) (st bk : Nat → Int) {i : Nat} (h : i < 24) : (C4 r st bk)[4 + i]? = some (.d (.int .i64 (st i))) := by
 rw [Nat.add_comm 4 i]
 show ((Ar 24 st ++ Ar 40 bk).map C.d)[i]? = _
 rw [List.getElem?_map, R7 h]; rfl
theorem aHN (r : Rd) (st bk : Nat → Int) {i : Nat} (h : i < 40) : (C4 r st bk)[28 + i]? = some (.d (.int .i64 (bk i))) := by
 rw [show 28 + i = (24 + i) + 4 by omega]
 show ((Ar 24 st ++ Ar 40 bk).map C.d)[24 + i]? = _
 rw [List.getElem?_map, aHK h]; rfl
set_option maxHeartbeats 1000000 in
theorem aCK (r : Rd) (st bk : Nat → Int) (i : Int) (hr : OkR r) (h0 : 0 ≤ i) (hi : i < r.ps.length) (H : List AB) (hH : H.all (AB.low H.length) = true) (h3 : H[3]? = some (.cells (C4 r st bk))) :
  Ae Tryz.prog 88 [.c (.ptr 3 0), I i] H (one (.tup [I (As r i), I (rTo r i)]) H) := by
 refine acall_atE (bad := [1]) (kp := aFc) (X := tx) (nt := 37) (rs := [.tmp 4, .tmp 5]) Tryz.func88 rfl rfl rfl rfl mo (by kernel_rfl) rfl hH (fun hf => ?_)
 obtain ⟨hp, q0, q1, q2, q3, q4⟩ := hr.post h0 hi
 have := hr.p40
 have := hr.i0
 have := hr.i5
 have w1 : wr .i64 ((po r i).fr + r.di) = (po r i).fr + r.di := by rw [CS] <;> omega
 have w2 : wr .i64 ((po r i).to - r.di) = (po r i).to - r.di := by rw [CS] <;> omega
 have w3 : wr .i64 ((po r i).to - r.di + 1) = (po r i).to - r.di + 1 := by rw [CS] <;> omega
 have hc : decide (0 ≤ i) = true := by simpa using h0
 have hd : decide (i < r.ps.length) = true := by simpa using hi
 have hl := JI st bk
 simp (maxSteps := 2000000) only [go_sem, reduceIte, Nat.reduceEqDiff, Nat.reduceAdd, Nat.reduceLeDiff, Nat.reduceBEq, B4, h3, C4, hp, pD, w1, w2, w3, hc, hd, As, rTo, hl, Df]
 refine ⟨by kernel_rfl, [], by simp⟩
theorem aFg (p : FP) (q : FS) (sta : LoopState) (a : Po) : (HF p q sta ++ [AB.cells (pC a)]).all (AB.low (HF p q sta ++ [AB.cells (pC a)]).length) = true := by
 rw [List.all_append, DA _ _ _ _ (by simp [HF])]; rfl
theorem aFh (p : FP) (q : FS) (sta : LoopState) (a : Po) (b : Stp) : (HF p q sta ++ [AB.cells (pC a), AB.cells (sC b)]).all (AB.low (HF p q sta ++ [AB.cells (pC a), AB.cells (sC b)]).length) = true := by
 rw [List.all_append, DA _ _ _ _ (by simp [HF])]; rfl
set_option maxHeartbeats 8000000 in
theorem aFi (p : FP) (q : FS) (hr : OkR p.r) (hst : ∀ i, 0 ≤ p.st i ∧ p.st i ≤ 1)
  (hy : ∀ pre x suf T, Av p.r p.st p.bk = pre ++ x :: suf → (T = [] ∨ ∃ a b, T = [.cells (pC a), .cells (sC b)]) → YC Tryz.prog 13 (HF p (AC pre q) .ready ++ T) (sV x) (one (B true) (HF p (AC (pre ++ [x]) q) .ready ++ T))) :
  Ae Tryz.prog 312 [.c (.yd 13), .c (.ptr 11 0)] (HF p q .ready) (fun _ H' => H' = HF p (AC (Av p.r p.st p.bk) q) .ready) := by
 refine acall_fitE (bad := []) (kp := Dr) (X := tx) (nt := 90) (rs := []) Tryz.func312 rfl rfl rfl rfl mo (by kernel_rfl) (fun hf => ?_)
 have h1 := hr.p1
 have h40 := hr.p40
 have hlen := hr.len
 have nl := EK p.r p.st p.bk
 have n0 := nC0 p.r p.st p.bk
 have n3 := nC3 p.r p.st p.bk
 simp (maxSteps := 2000000) only [go_sem, reduceIte, Nat.reduceEqDiff, Nat.reduceAdd, Nat.reduceLeDiff, Nat.reduceBEq, Int.reduceNeg, B4, HF, nl, n0, n3]
 refine goE_loop (bad := []) (kp := Dr) (fun k : Nat => { slots := [(0, .c (.yd 13)), (1, .c (.ptr 11 0)), (13, I p.r.pl), (14, I k)], heap := HF p (AC ((List.range k).flatMap (Ep p.bk)) q) .ready, marks := [] }) (fun k => (k : Int) ≤ p.r.pl) (fun k => p.r.pl.toNat - k) 0 mo (by kernel_rfl) ?_ (by simp; omega) ?_
 ·refine ent_weaken [] (by simp only [HF, AC, List.range_zero, List.flatMap_nil, List.foldl_nil, List.append_nil]) rfl (Nat.le_refl _) (DA _ _ _ _ (Nat.le_refl _)) rfl ?_
  simp (maxSteps := 2000000) only [go_sem, reduceIte, Nat.reduceEqDiff, Nat.reduceAdd, Nat.reduceLT, B4, HF]
  all_goals first | exact .refl _ | exact ⟨.refl _, .refl _⟩ | exact ⟨.refl _, .refl _, .refl _⟩ | exact ⟨.refl _, _, rfl⟩ | exact ⟨_, rfl⟩ | exact ⟨.refl _, [], by simp⟩ | exact ⟨[], by simp⟩
 rintro k hk
 simp (maxSteps := 2000000) only [go_sem, reduceIte, Nat.reduceEqDiff, Nat.reduceAdd, Int.reduceNeg, B4, HF]
 refine goE_if (fun h => ?_) (fun h => ?_)
 ·have hlt : (k : Int) < p.r.pl := by simpa using h
  obtain ⟨suf, hs⟩ := KE (Ep p.bk) (k := k) (n := p.r.pl.toNat) (by omega)
  have w1 : wr .i64 ((k : Int) + 1) = (k : Int) + 1 := BQ (by omega) (by omega)
  have e1 : ((k + 1 : Nat) : Int) = (k : Int) + 1 := by omega
  have hall : Av p.r p.st p.bk = (List.range k).flatMap (Ep p.bk) ++ ⟨(k : Int) + 1, k, 0, -1⟩ :: ((if 0 < p.bk k then [⟨k, (k : Int) + 1, 0, -1⟩] else []) ++ (suf ++ (List.range p.r.ps.length).flatMap (Ea p.r p.st))) := by
   rw [Av, hs]; simp [Ep]
  have y1 := hy _ _ _ [] hall (.inl rfl)
  simp only [List.append_nil] at y1
  simp (maxSteps := 2000000) only [go_sem, reduceIte, Nat.reduceEqDiff, Nat.reduceAdd, Nat.reduceLeDiff, Nat.reduceBEq, Int.reduceNeg, B4, Be, Dv, w1]
  refine JD y1 rfl rfl (fun y H' h => ?_)
  obtain ⟨rfl, rfl⟩ := h
  have nb := aHN p.r p.st p.bk (i := k) (by omega)
  have c1 : decide (28 + k + 1 ≤ 68) = true := by simp; omega
  have c2 : (decide ((0 : Int) ≤ (k : Int)) && decide ((k : Int) < ((40 : Nat) : Int))) = true := by simp; omega
  by_cases hb : 0 < p.bk k
  ·simp (maxSteps := 2000000) only [go_sem, reduceIte, Nat.reduceEqDiff, Nat.reduceAdd, Nat.reduceLeDiff, Nat.reduceBEq, Int.reduceNeg, B4, HF, nb, nl, hb, c1, c2, Nat.mul_one, Be, Dv, w1]
   refine ⟨by simp; omega, ?_⟩
   have y2 := hy ((List.range k).flatMap (Ep p.bk) ++ [⟨(k : Int) + 1, k, 0, -1⟩]) ⟨k, (k : Int) + 1, 0, -1⟩ (suf ++ (List.range p.r.ps.length).flatMap (Ea p.r p.st)) [] (by rw [hall]; simp [hb]) (.inl rfl)
   simp only [List.append_nil] at y2
   refine JD y2 rfl rfl (fun y H' h => ?_)
   obtain ⟨rfl, rfl⟩ := h
   simp (maxSteps := 2000000) only [go_sem, reduceIte, Nat.reduceEqDiff, Nat.reduceAdd, Int.reduceNeg, B4, HF, w1]
   refine ⟨k + 1, by omega, by omega, ?_⟩
   refine ent_weaken [] (by simp only [HF, DQ, Ep, hb, if_true, List.append_assoc, List.cons_append, List.nil_append, List.append_nil]) rfl (Nat.le_refl _) (DA _ _ _ _ (Nat.le_refl _)) rfl ?_
   simp (maxSteps := 2000000) only [go_sem, reduceIte, Nat.reduceEqDiff, Nat.reduceAdd, Nat.reduceLT, B4, HF, e1]
  ·simp (maxSteps := 2000000) only [go_sem, reduceIte, Nat.reduceEqDiff, Nat.reduceAdd, Nat.reduceLeDiff, Nat.reduceBEq, Int.reduceNeg, B4, HF, nb, nl, hb, c1, c2, Nat.mul_one, w1]
   refine ⟨by simp; omega, ?_⟩
   refine ⟨k + 1, by omega, by omega, ?_⟩
   refine ent_weaken [] (by simp only [HF, DQ, Ep, hb, if_false, List.append_assoc, List.cons_append, List.nil_append, List.append_nil]) rfl (Nat.le_refl _) (DA _ _ _ _ (Nat.le_refl _)) rfl ?_
   simp (maxSteps := 2000000) only [go_sem, reduceIte, Nat.reduceEqDiff, Nat.reduceAdd, Nat.reduceLT, B4, HF, e1]
 ·have hk' : p.r.pl.toNat = k := by simp at h; omega
  simp (maxSteps := 2000000) only [go_sem, reduceIte, Nat.reduceEqDiff, Nat.reduceAdd, Nat.reduceLeDiff, Nat.reduceBEq, Int.reduceNeg, B4, nl, n3]
  refine goE_loop (bad := []) (kp := Dr) (fun i : Nat => { slots := [(0, .c (.yd 13)), (1, .c (.ptr 11 0)), (47, B5 p.r.ps), (48, I p.r.ps.length), (49, I i)], heap := HF p (AC ((List.range p.r.pl.toNat).flatMap (Ep p.bk) ++ (List.range i).flatMap (Ea p.r p.st)) q) .ready, marks := [] }) (fun i => i ≤ p.r.ps.length) (fun i => p.r.ps.length - i) 0 mo (by kernel_rfl) ?_ (Nat.zero_le _) ?_
  ·refine ent_weaken [] (by simp only [HF, hk', List.range_zero, List.flatMap_nil, List.append_nil]) rfl (Nat.le_refl _) (DA _ _ _ _ (Nat.le_refl _)) rfl ?_
   simp (maxSteps := 2000000) only [go_sem, reduceIte, Nat.reduceEqDiff, Nat.reduceAdd, Nat.reduceLT, B4, HF, B5]
   all_goals first | exact .refl _ | exact ⟨.refl _, .refl _⟩ | exact ⟨.refl _, .refl _, .refl _⟩ | exact ⟨.refl _, _, rfl⟩ | exact ⟨_, rfl⟩ | exact ⟨.refl _, [], by simp⟩ | exact ⟨[], by simp⟩
  clear h hk hk'
  rintro i hi
  simp (maxSteps := 2000000) only [go_sem, reduceIte, Nat.reduceEqDiff, Nat.reduceAdd, B4, HF, B5]
  refine goE_if (fun h => ?_) (fun h => ?_)
  ·have hlt : i < p.r.ps.length := by simpa using h
   obtain ⟨hp, _, _, _, q3, q4⟩ := hr.post (i := (i : Int)) (by omega) (by omega)
   have hp : p.r.ps[i]? = some (po p.r i) := hp
   obtain ⟨suf, hs⟩ := KE (Ea p.r p.st) (k := i) (n := p.r.ps.length) hlt
   have w2 : wr .i64 (-(po p.r i).co) = -(po p.r i).co := BQ (by omega) (by omega)
   have c6 : (decide ((0 : Int) ≤ (i : Int)) && decide ((i : Int) < (p.r.ps.length : Int))) = true := by simp; omega
   have ns := aFf p.r p.st p.bk (i := i) (by omega)
   have c1 : decide (4 + i + 1 ≤ 68) = true := by simp; omega
   have c1' : decide (4 + i ≤ 67) = true := by simp; omega
   have c2 : (decide ((0 : Int) ≤ (i : Int)) && decide ((i : Int) < ((24 : Nat) : Int))) = true := by simp; omega
   have hss : ∀ x, A0 p.r p.st i = x → As p.r i < rTo p.r i → Av p.r p.st p.bk = ((List.range p.r.pl.toNat).flatMap (Ep p.bk) ++ (List.range i).flatMap (Ea p.r p.st)) ++ x :: suf := by
    intro x hx hft
    rw [Av, hs, Ea, if_pos hft, hx]; simp
   have wi := An hlt (show p.r.ps.length ≤ 140737488355328 by omega)
   simp (maxSteps := 2000000) only [go_sem, reduceIte, Nat.reduceEqDiff, Nat.reduceAdd, Nat.reduceLeDiff, B4, hp, pD, c6]
   have hre := aCK p.r p.st p.bk (i : Int) hr (by omega) (by omega) (HF p (AC ((List.range p.r.pl.toNat).flatMap (Ep p.bk) ++ (List.range i).flatMap (Ea p.r p.st)) q) .ready ++ [AB.cells (pC (po p.r i))]) (aFg _ _ _ _) rfl
   simp only [HF, pC, List.cons_append, List.nil_append] at hre
   refine Az (hre) rfl rfl (by first | exact wk_refls _ | (repeat constructor)) ?_
   by_cases hone : p.st i = 1
   ·have hps : A0 p.r p.st i = ⟨rTo p.r i, As p.r i, -(po p.r i).co, i⟩ := by simp [A0, hone]
    by_cases hft : As p.r i < rTo p.r i
    ·have y3 := hy _ _ _ [AB.cells (pC (po p.r i)), AB.cells (sC ⟨rTo p.r i, As p.r i, -(po p.r i).co, i⟩)] (hss _ hps hft) (.inr ⟨_, _, rfl⟩)
     simp (maxSteps := 2000000) only [go_sem, reduceIte, Nat.reduceEqDiff, Nat.reduceAdd, Nat.reduceLeDiff, Nat.reduceBEq, B4, HF, pC, Be, Dv, nl, ns, hone, c1, c1', c2, Nat.mul_one, w2, hft]
     refine JD y3 rfl rfl (fun y H' h => ?_)
     obtain ⟨rfl, rfl⟩ := h
     simp (maxSteps := 2000000) only [go_sem, reduceIte, Nat.reduceEqDiff, Nat.reduceAdd, B4, HF, pC, sC, wi]
     refine ⟨i + 1, hlt, by omega, ?_⟩
     refine ent_weaken [AB.cells (pC (po p.r i)), AB.cells (sC ⟨rTo p.r i, As p.r i, -(po p.r i).co, i⟩)] (by simp only [HF, DQ, Ea, hft, if_true, hps, List.append_assoc, List.cons_append, List.nil_append, List.append_nil, pC, sC]) rfl (Nat.le_refl _) (DA _ _ _ _ (Nat.le_refl _)) rfl ?_
     simp (maxSteps := 2000000) only [go_sem, reduceIte, Nat.reduceEqDiff, Nat.reduceAdd, Nat.reduceLT, B4, HF]
    ·simp (maxSteps := 2000000) only [go_sem, reduceIte, Nat.reduceEqDiff, Nat.reduceAdd, Nat.reduceLeDiff, Nat.reduceBEq, B4, HF, pC, Be, Dv, nl, ns, hone, c1, c1', c2, Nat.mul_one, w2, hft, wi]
     refine ⟨i + 1, hlt, by omega, ?_⟩
     refine ent_weaken [AB.cells (pC (po p.r i)), AB.cells (sC ⟨rTo p.r i, As p.r i, -(po p.r i).co, i⟩)] (by simp only [HF, DQ, Ea, hft, if_false, List.append_assoc, List.cons_append, List.nil_append, List.append_nil, pC, sC]) rfl (Nat.le_refl _) (DA _ _ _ _ (Nat.le_refl _)) rfl ?_
     simp (maxSteps := 2000000) only [go_sem, reduceIte, Nat.reduceEqDiff, Nat.reduceAdd, Nat.reduceLT, B4, HF]
   ·have hps : A0 p.r p.st i = ⟨As p.r i, rTo p.r i, (po p.r i).co, i⟩ := by simp [A0, hone]
    by_cases hft : As p.r i < rTo p.r i
    ·have y3 := hy _ _ _ [AB.cells (pC (po p.r i)), AB.cells (sC ⟨As p.r i, rTo p.r i, (po p.r i).co, i⟩)] (hss _ hps hft) (.inr ⟨_, _, rfl⟩)
     simp (maxSteps := 2000000) only [go_sem, reduceIte, Nat.reduceEqDiff, Nat.reduceAdd, Nat.reduceLeDiff, Nat.reduceBEq, B4, HF, pC, Be, Dv, nl, ns, hone, c1, c1', c2, Nat.mul_one, w2, hft]
     refine JD y3 rfl rfl (fun y H' h => ?_)
     obtain ⟨rfl, rfl⟩ := h
     simp (maxSteps := 2000000) only [go_sem, reduceIte, Nat.reduceEqDiff, Nat.reduceAdd, B4, HF, pC, sC, wi]
     refine ⟨i + 1, hlt, by omega, ?_⟩
     refine ent_weaken [AB.cells (pC (po p.r i)), AB.cells (sC ⟨As p.r i, rTo p.r i, (po p.r i).co, i⟩)] (by simp only [HF, DQ, Ea, hft, if_true, hps, List.append_assoc, List.cons_append, List.nil_append, List.append_nil, pC, sC]) rfl (Nat.le_refl _) (DA _ _ _ _ (Nat.le_refl _)) rfl ?_
     simp (maxSteps := 2000000) only [go_sem, reduceIte, Nat.reduceEqDiff, Nat.reduceAdd, Nat.reduceLT, B4, HF]
    ·simp (maxSteps := 2000000) only [go_sem, reduceIte, Nat.reduceEqDiff, Nat.reduceAdd, Nat.reduceLeDiff, Nat.reduceBEq, B4, HF, pC, Be, Dv, nl, ns, hone, c1, c1', c2, Nat.mul_one, w2, hft, wi]
     refine ⟨i + 1, hlt, by omega, ?_⟩
     refine ent_weaken [AB.cells (pC (po p.r i)), AB.cells (sC ⟨As p.r i, rTo p.r i, (po p.r i).co, i⟩)] (by simp only [HF, DQ, Ea, hft, if_false, List.append_assoc, List.cons_append, List.nil_append, List.append_nil, pC, sC]) rfl (Nat.le_refl _) (DA _ _ _ _ (Nat.le_refl _)) rfl ?_
     simp (maxSteps := 2000000) only [go_sem, reduceIte, Nat.reduceEqDiff, Nat.reduceAdd, Nat.reduceLT, B4, HF]
  ·have hi' : i = p.r.ps.length := by simp at h; omega
   subst hi'
   simp (maxSteps := 2000000) only [go_sem, reduceIte, B4]
   rfl
end Go.Proofs.YtfgdbeijjbijnaaGreatDoor
