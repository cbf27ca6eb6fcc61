/- Metamers: truths. -/
import Derived.Test.YtfgdbeijjbijnaaGreatDoorJG18
set_option linter.unusedSimpArgs false
set_option linter.unusedVariables false
set_option linter.unusedSimpArgs false
set_option linter.unusedVariables false
set_option maxRecDepth 100000
namespace Go.Proofs.YtfgdbeijjbijnaaGreatDoor.Me
open Go Go.Abs Go.Proofs
def ES : List (Nat × List Nat) := [(0, [2, 3]), (1, [2, 3, 5]), (2, [2, 3, 30]), (3, [4]), (4, [2, 3, 33, 34, 35]), (5, [2, 3, 33, 34, 35, 36]), (6, [2, 3, 6, 7, 33, 34, 35]), (7, [2, 3, 6, 33, 34, 35, 51]), (8, [4]), (9, [2, 3, 6, 33, 34, 35, 53, 54, 55]), (10, [2, 3, 6, 33, 34, 35, 53, 54, 55, 56]), (11, [2, 3, 6, 8, 9, 33, 34, 35, 53, 54, 55]), (12, [2, 3, 6, 33, 34, 35, 53, 54, 55, 86]), (13, [4]), (14, [2, 3, 6, 33, 34, 35, 53, 54, 55]), (15, [2, 3, 33, 34, 35]), (16, [4])]
theorem BT : lookK ES 0 = some [2, 3] ∧ lookK ES 1 = some [2, 3, 5] ∧ lookK ES 2 = some [2, 3, 30] ∧ lookK ES 3 = some [4] ∧ lookK ES 4 = some [2, 3, 33, 34, 35] ∧ lookK ES 5 = some [2, 3, 33, 34, 35, 36] ∧ lookK ES 6 = some [2, 3, 6, 7, 33, 34, 35] ∧ lookK ES 7 = some [2, 3, 6, 33, 34, 35, 51] ∧ lookK ES 8 = some [4] ∧ lookK ES 9 = some [2, 3, 6, 33, 34, 35, 53, 54, 55] ∧ lookK ES 10 = some [2, 3, 6, 33, 34, 35, 53, 54, 55, 56] ∧ lookK ES 11 = some [2, 3, 6, 8, 9, 33, 34, 35, 53, 54, 55] ∧ lookK ES 12 = some [2, 3, 6, 33, 34, 35, 53, 54, 55, 86] ∧ lookK ES 13 = some [4] ∧ lookK ES 14 = some [2, 3, 6, 33, 34, 35, 53, 54, 55] ∧ lookK ES 15 = some [2, 3, 33, 34, 35] ∧ lookK ES 16 = some [4] := ⟨rfl, rfl, rfl, rfl, rfl, rfl, rfl, rfl, rfl, rfl, rfl, rfl, rfl, rfl, rfl, rfl, rfl⟩
def D3 : List (Nat × List Nat) := [(0, [2, 3]), (1, [2, 3, 5]), (2, [2, 3, 5, 22]), (3, [4]), (4, [2, 3, 5, 6]), (5, [2, 3, 5, 6, 24]), (6, [2, 3, 5, 6]), (7, [2, 3, 5, 6, 34]), (8, [4]), (9, [2, 3, 5, 7]), (10, [2, 3, 5, 7, 37]), (11, [2, 3, 5, 7]), (12, [2, 3, 5, 7, 65]), (13, [4]), (14, [2, 3, 5, 7, 8]), (15, [2, 3, 5, 7, 8, 67]), (16, [2, 3, 5, 7, 8]), (17, [2, 3, 5, 7, 8, 107]), (18, [4]), (19, [4])]
theorem BU : lookK D3 0 = some [2, 3] ∧ lookK D3 1 = some [2, 3, 5] ∧ lookK D3 2 = some [2, 3, 5, 22] ∧ lookK D3 3 = some [4] ∧ lookK D3 4 = some [2, 3, 5, 6] ∧ lookK D3 5 = some [2, 3, 5, 6, 24] ∧ lookK D3 6 = some [2, 3, 5, 6] ∧ lookK D3 7 = some [2, 3, 5, 6, 34] ∧ lookK D3 8 = some [4] ∧ lookK D3 9 = some [2, 3, 5, 7] ∧ lookK D3 10 = some [2, 3, 5, 7, 37] ∧ lookK D3 11 = some [2, 3, 5, 7] ∧ lookK D3 12 = some [2, 3, 5, 7, 65] ∧ lookK D3 13 = some [4] ∧ lookK D3 14 = some [2, 3, 5, 7, 8] ∧ lookK D3 15 = some [2, 3, 5, 7, 8, 67] ∧ lookK D3 16 = some [2, 3, 5, 7, 8] ∧ lookK D3 17 = some [2, 3, 5, 7, 8, 107] ∧ lookK D3 18 = some [4] ∧ lookK D3 19 = some [4] := ⟨rfl, rfl, rfl, rfl, rfl, rfl, rfl, rfl, rfl, rfl, rfl, rfl, rfl, rfl, rfl, rfl, rfl, rfl, rfl, rfl⟩
def upd (f : Nat → Int) (m : Nat) (v : Int) : Nat → Int := fun j => if j = m then v else f j
theorem Ao (f : Nat → Int) (m : Nat) (v : Int) : upd f m v m = v := by simp [upd]
theorem AJ (f : Nat → Int) {m j : Nat} (v : Int) (h : j ≠ m) : upd f m v j = f j := by simp [upd, h]
def Bo (n : Nat) (f : Nat → Int) : List D := (List.range n).map (fun j => .int .i64 (f j))
theorem BV (n : Nat) (f : Nat → Int) : (Bo n f).length = n := by simp [Bo]
theorem Dw {n : Nat} (f : Nat → Int) {j : Nat} (h : j < n) : (Bo n f)[j]? = some (.int .i64 (f j)) := by simp [Bo, h]
theorem Iv (n : Nat) (f : Nat → Int) (m : Nat) (v : Int) : (Bo n f).set m (.int .i64 v) = Bo n (upd f m v) := by
 refine List.ext_getElem? fun j => ?_
 by_cases e : m = j
 ·subst e
  by_cases hm : m < n
  ·rw [Dw _ hm, Ao]; simp [BV, hm]
  ·rw [List.getElem?_eq_none (by simp [BV]; omega), List.getElem?_eq_none (by simp [BV]; omega)]
 ·rw [List.getElem?_set_ne e]
  simp only [Bo, List.getElem?_map]
  cases hj : (List.range n)[j]? with
  | none => rfl
  | some x =>
   have : x = j := by
    rw [List.getElem?_eq_some_iff] at hj
    obtain ⟨h, e⟩ := hj
    simpa using e.symm
   subst this
   simp [AJ _ _ (Ne.symm e)]
theorem GW (n : Nat) (f : Nat → Int) : BC 1 n (Bo n f) = (List.range n).map (fun k => iD (f k)) := by
 refine List.ext_getElem? fun i => ?_
 by_cases h : i < n
 ·rw [Dq 1 n _ i h, Nat.mul_one]
  have hlt : i < (Bo n f).length := by rw [BV]; exact h
  rw [List.drop_eq_getElem_cons hlt]
  have e : (Bo n f)[i]? = some (Bo n f)[i] := List.getElem?_eq_getElem hlt
  rw [Dw f h] at e
  rw [← Option.some.inj e]
  simp [h, iD]
 ·rw [List.getElem?_eq_none (by rw [BW]; omega), List.getElem?_eq_none (by simp; omega)]
def AH (n : Nat) (f : Nat → Int) : List C := (Bo n f).map .d
theorem Ba (m n : Nat) (f : Nat → Int) : C.lowL m (AH n f) = true := RF _ _
theorem Dx (n : Nat) (f : Nat → Int) (m : Nat) (v : Int) : (AH n f).set m (.d (.int .i64 v)) = AH n (upd f m v) := by
 rw [AH, AH, ← List.map_set, Iv]
theorem Tn (n : Nat) : zc [C.d (.int .i64 0)] n = AH n (fun _ => 0) := by
 rw [Q8]
 refine List.ext_getElem? fun j => ?_
 by_cases h : j < n
 ·simp [AH, Bo, h, List.getElem?_replicate]
 ·rw [List.getElem?_eq_none (by simp; omega), List.getElem?_eq_none (by simp [AH, Bo]; omega)]
theorem CM {n : Nat} (f : Nat → Int) {j : Nat} (h : j < n) : (AH n f)[j]? = some (.d (.int .i64 (f j))) := by rw [AH, List.getElem?_map, Dw _ h]; rfl
theorem BI (n : Nat) (f : Nat → Int) : (AH n f).length = n := by simp [AH, Bo]
def rg0 : Rg := ⟨0, 0⟩
def gI (l : List Int) (b : Nat) : Int := l.getD b 0
theorem Iw {l : List Int} {b : Nat} {x : Int} (h : l[b]? = some x) : gI l b = x := by simp [gI, List.getD, h]
theorem ET {l : List Int} {b : Nat} (h : b < l.length) : l[b]? = some (gI l b) := by obtain ⟨x, hx⟩ := AD h; rw [Iw hx, hx]
def Cs.l (c : Cs) (b : Nat) : Rg := c.lamp.getD b rg0
def Cs.e (c : Cs) (i b : Nat) : Rg := (c.eye.getD i []).getD b rg0
def Tr.l (x : Tr) (b : Nat) : Int := gI x.lamp b
def Tr.e (x : Tr) (i b : Nat) : Int := gI (x.eye.getD i []) b
theorem Fh {α : Type} {l : List α} {b : Nat} {x d : α} (h : l[b]? = some x) : l.getD b d = x := by simp [List.getD, h]
theorem Cs.l_lt {c : Cs} {b : Nat} (h : b < c.lamp.length) : c.lamp[b]? = some (c.l b) := by obtain ⟨x, hx⟩ := AD h; rw [Cs.l, Fh hx, hx]
theorem Cs.e_at {c : Cs} {i b : Nat} {row : List Rg} (h : c.eye[i]? = some row) (hb : b < row.length) : row[b]? = some (c.e i b) := by
 obtain ⟨x, hx⟩ := AD hb; rw [Cs.e, Fh h, Fh hx, hx]
theorem Tr.l_lt {c : Tr} {b : Nat} (h : b < c.lamp.length) : c.lamp[b]? = some (c.l b) := ET h
theorem Tr.e_at {c : Tr} {i b : Nat} {row : List Int} (h : c.eye[i]? = some row) (hb : b < row.length) : row[b]? = some (c.e i b) := by
 rw [Tr.e, Fh h]; exact ET hb
theorem OkC.row {c : Cs} (h : OkC c) {i : Nat} (hi : i < 3) : ∃ row, c.eye[i]? = some row ∧ row.length = c.lamp.length := by
 obtain ⟨x, hx⟩ := AD (show i < c.eye.length by rw [h.e3]; exact hi)
 exact ⟨x, hx, h.er x (List.mem_of_getElem? hx)⟩
theorem PF (t : Int) (r : Rg) : Cg t r = true ↔ 0 ≤ r.lo ∧ r.lo ≤ r.hi ∧ r.hi ≤ t := by simp [Cg]
theorem OkC.bl {c : Cs} (h : OkC c) (b : Nat) : 0 ≤ (c.l b).lo ∧ (c.l b).lo ≤ (c.l b).hi ∧ (c.l b).hi ≤ 100 := by
 by_cases hb : b < c.lamp.length
 ·exact (PF _ _).1 (h.lr _ (List.mem_of_getElem? (Cs.l_lt hb)))
 ·have e : c.l b = rg0 := by rw [Cs.l, List.getD, List.getElem?_eq_none (by omega)]; rfl
  rw [e]; simp [rg0]
theorem OkC.be {c : Cs} (h : OkC c) (i b : Nat) : 0 ≤ (c.e i b).lo ∧ (c.e i b).lo ≤ (c.e i b).hi ∧ (c.e i b).hi ≤ 100 := by
 have e0 : (0 : Int) ≤ rg0.lo ∧ rg0.lo ≤ rg0.hi ∧ rg0.hi ≤ 100 := by simp [rg0]
 by_cases hi : i < 3
 ·obtain ⟨row, hr, hl⟩ := h.row hi
  by_cases hb : b < c.lamp.length
  ·exact (PF _ _).1 (h.rr row (List.mem_of_getElem? hr) _ (List.mem_of_getElem? (Cs.e_at hr (by omega))))
  ·have e : c.e i b = rg0 := by rw [Cs.e, Fh hr, List.getD, List.getElem?_eq_none (show row.length ≤ b by omega)]; rfl
   rw [e]; exact e0
 ·have e : c.e i b = rg0 := by rw [Cs.e, show c.eye.getD i [] = [] by rw [List.getD, List.getElem?_eq_none (by rw [h.e3]; omega)]; rfl]; rfl
  rw [e]; exact e0
def Rg.has (r : Rg) (v : Int) : Bool := decide (r.lo ≤ v ∧ v ≤ r.hi)
theorem Rg.has_iff (r : Rg) (v : Int) : r.has v = true ↔ r.lo ≤ v ∧ v ≤ r.hi := by simp [Rg.has]
def CF (c : Cs) (x : Tr) : Bool := decide (x.lamp.length = c.lamp.length) && (decide (x.eye.length = 3) && x.eye.all (fun r => decide (r.length = c.lamp.length)))
def Fi (c : Cs) (x : Tr) (b : Nat) : Bool := (c.l b).has (x.l b) && (List.range 3).all (fun i => (c.e i b).has (x.e i b))
def inT (c : Cs) (x : Tr) : Bool := (List.range c.lamp.length).all (Fi c x)
def FU (c : Cs) (x : Tr) : Int := if CF c x then (if inT c x then 0 else 3) else 15
theorem Ei (c : Cs) (x : Tr) : CF c x = true ↔ x.lamp.length = c.lamp.length ∧ x.eye.length = 3 ∧ ∀ r ∈ x.eye, r.length = c.lamp.length := by
 simp [CF]
theorem CY (c : Cs) (x : Tr) (b : Nat) : Fi c x b = true ↔ (c.l b).has (x.l b) = true ∧ ∀ i, i < 3 → (c.e i b).has (x.e i b) = true := by
 simp [Fi]
theorem HK (c : Cs) (x : Tr) : inT c x = true ↔ ∀ b, b < c.lamp.length → Fi c x b = true := by
 simp [inT]
structure OkT (c : Cs) (x : Tr) : Prop where
 ln : x.lamp.length = c.lamp.length
 e3 : x.eye.length = 3
 er : ∀ r ∈ x.eye, r.length = c.lamp.length
 bl : ∀ b, b < c.lamp.length → (c.l b).lo ≤ x.l b ∧ x.l b ≤ (c.l b).hi
 be : ∀ i b, i < 3 → b < c.lamp.length → (c.e i b).lo ≤ x.e i b ∧ x.e i b ≤ (c.e i b).hi
theorem okTr_iff (c : Cs) (x : Tr) : FU c x = 0 ↔ OkT c x := by
 unfold FU
 constructor
 ·intro h
  by_cases h1 : CF c x = true
  ·rw [if_pos h1] at h
   by_cases h2 : inT c x = true
   ·obtain ⟨a1, a2, a3⟩ := (Ei c x).1 h1
    rw [HK] at h2
    exact ⟨a1, a2, a3, fun b hb => (Rg.has_iff _ _).1 ((CY c x b).1 (h2 b hb)).1, fun i b hi hb => (Rg.has_iff _ _).1 (((CY c x b).1 (h2 b hb)).2 i hi)⟩
   ·rw [if_neg h2] at h; cases h
  ·rw [if_neg h1] at h; cases h
 ·intro h
  rw [if_pos ((Ei c x).2 ⟨h.ln, h.e3, h.er⟩), if_pos ((HK c x).2 fun b hb => (CY c x b).2 ⟨(Rg.has_iff _ _).2 (h.bl b hb), fun i hi => (Rg.has_iff _ _).2 (h.be i b hi hb)⟩)]
theorem Gi {c : Cs} {x : Tr} (h : CF c x = false) : FU c x = 15 := by simp only [FU, h, Bool.false_eq_true, if_false]
theorem RJ {c : Cs} {x : Tr} (h : CF c x = true) : FU c x = if inT c x then 0 else 3 := by simp only [FU, if_pos h]
theorem Ix {c : Cs} {x : Tr} {b : Nat} (h : CF c x = true) (hb : b < c.lamp.length) (h2 : Fi c x b = false) : FU c x = 3 := by
 rw [RJ h, if_neg]; rw [HK]; intro h3; rw [h3 b hb] at h2; cases h2
theorem RK {c : Cs} {x : Tr} {b : Nat} (h : (c.l b).has (x.l b) = false) : Fi c x b = false := by rw [← Bool.not_eq_true, CY]; rintro ⟨h2, _⟩; rw [h] at h2; cases h2
theorem RL {c : Cs} {x : Tr} {i b : Nat} (hi : i < 3) (h : (c.e i b).has (x.e i b) = false) : Fi c x b = false := by rw [← Bool.not_eq_true, CY]; rintro ⟨_, h2⟩; rw [h2 i hi] at h; cases h
theorem Tr.row {c : Cs} {x : Tr} (h : CF c x = true) {i : Nat} (hi : i < 3) : ∃ row, x.eye[i]? = some row ∧ row.length = c.lamp.length := by
 obtain ⟨_, a2, a3⟩ := (Ei c x).1 h
 obtain ⟨y, hy⟩ := AD (show i < x.eye.length by rw [a2]; exact hi)
 exact ⟨y, hy, a3 y (List.mem_of_getElem? hy)⟩
theorem To (r : Rg) (v : Int) : inR r.lo r.hi [v] = r.has v := by rw [inR1]; rfl
set_option maxHeartbeats 4000000 in
theorem aEq (c : Cs) (x : Tr) (hc : OkC c) : AF Tryz.prog 47 [csV c, trV x] (I (FU c x)) := by
 refine pure_wkE (bad := []) (kp := ES) (X := tx) (nt := 89) (rs := [.tmp 4]) Tryz.func47 rfl rfl rfl rfl mo (by kernel_rfl) rfl rfl (fun hf => ?_)
 have hfx := aB1 (hf (trV x) (by simp))
 have hn8 := hc.n8
 have he3 := hc.e3
 by_cases h1 : x.lamp.length = c.lamp.length
 case neg =>
  have h1' : ¬ (x.lamp.length : Int) = c.lamp.length := by omega
  have e := Gi (c := c) (x := x) (by simp [CF, h1])
  simp (maxSteps := 2000000) only [go_sem, reduceIte, Nat.reduceEqDiff, Nat.reduceAdd, Nat.reduceBEq, BT, BU, csV, csC, trV, trC, h1', e]
 have h1' : (x.lamp.length : Int) = c.lamp.length := by omega
 by_cases h3 : x.eye.length = 3
 case neg =>
  have h3' : ¬ (x.eye.length : Int) = 3 := by omega
  have e := Gi (c := c) (x := x) (by simp [CF, h3])
  simp (maxSteps := 2000000) only [go_sem, reduceIte, Nat.reduceEqDiff, Nat.reduceAdd, Nat.reduceLeDiff, Nat.reduceBEq, BT, BU, csV, csC, trV, trC, h1', h3', e]
 have h3' : (x.eye.length : Int) = 3 := by omega
 simp (maxSteps := 2000000) only [go_sem, reduceIte, Nat.reduceEqDiff, Nat.reduceAdd, Nat.reduceLeDiff, Nat.reduceBEq, BT, BU, csV, csC, trV, trC, h1', h3']
 refine Ar (aOO x.eye 124 [.ptr 2 0] (fun r => !decide ((r.length : Int) = c.lamp.length)) [.cells (csC c), .cells (trC x), .cells [.d (.int .i64 c.lamp.length)]] rfl rfl (fun y _ => aOS c.lamp.length y _ 2 rfl rfl)) rfl rfl (by first | exact wk_refls _ | (repeat constructor)) ?_
 have eany : x.eye.any (fun r => !decide ((r.length : Int) = c.lamp.length)) = !CF c x := by
  rw [Bool.eq_iff_iff]; simp [CF, h3, h1]; constructor <;> (rintro ⟨x, hx, h⟩; exact ⟨x, hx, by omega⟩)
 rw [eany]
 cases hl : CF c x with
 | false =>
  have e := Gi hl
  simp (maxSteps := 2000000) only [go_sem, reduceIte, Nat.reduceEqDiff, Nat.reduceAdd, BT, BU, csC, trC, e]
 | true =>
 simp (maxSteps := 2000000) only [go_sem, reduceIte, Nat.reduceEqDiff, Nat.reduceAdd, Nat.reduceBEq, BT, BU, csC, trC]
 refine goE_loop (bad := []) (kp := ES) (fun b : Nat => { slots := [(2, .c (.ptr 0 0)), (3, .c (.ptr 1 0)), (33, rgs c.lamp), (34, I c.lamp.length), (35, I b)], heap := [.cells (csC c), .cells (trC x)], marks := [] }) (fun b => b ≤ c.lamp.length ∧ ∀ j, j < b → Fi c x j = true) (fun b => c.lamp.length - b) 0 mo (by kernel_rfl) ?_ ⟨Nat.zero_le _, by intro j h; omega⟩ ?_
 ·refine ent_weaken [.cells [.d (.int .i64 c.lamp.length)]] rfl rfl (Nat.zero_le _) rfl rfl ?_
  simp (maxSteps := 2000000) only [go_sem, reduceIte, Nat.reduceEqDiff, Nat.reduceAdd, Nat.reduceLT, BT, BU, csC, trC, rgs]
  all_goals first | exact .refl _ | exact ⟨.refl _, .refl _⟩ | exact ⟨.refl _, .refl _, .refl _⟩ | exact ⟨.refl _, _, rfl⟩ | exact ⟨_, rfl⟩ | exact ⟨.refl _, [], by simp⟩ | exact ⟨[], by simp⟩
 rintro b ⟨hb, hall⟩
 simp (maxSteps := 2000000) only [go_sem, reduceIte, Nat.reduceEqDiff, Nat.reduceAdd, BT, BU, csC, trC, rgs]
 by_cases hlt : b < c.lamp.length
 ·have hlt' : (b : Int) < c.lamp.length := by omega
  have hy := Cs.l_lt hlt
  have hx := Tr.l_lt (c := x) (b := b) (by omega)
  simp (maxSteps := 2000000) only [go_sem, reduceIte, Nat.reduceEqDiff, Nat.reduceAdd, Nat.reduceLT, Nat.reduceLeDiff, Nat.reduceBEq, Nat.reduceMul, BT, BU, hlt', hy, hx, rgD, iD, nn, h1']
  refine Af (HH (c.l b).lo (c.l b).hi [x.l b]) rfl rfl (by first | exact wk_refls _ | (repeat constructor)) (by kernel_rfl) ?_
  rw [To]
  simp (maxSteps := 2000000) only [go_sem, reduceIte, Nat.reduceEqDiff, Nat.reduceAdd, BT, BU]
  cases hh : (c.l b).has (x.l b) with
  | false =>
   have e := Ix hl hlt (RK hh)
   simp (maxSteps := 2000000) only [go_sem, reduceIte, Nat.reduceEqDiff, Nat.reduceAdd, BT, BU, e]
  | true =>
  simp (maxSteps := 2000000) only [go_sem, reduceIte, Nat.reduceEqDiff, Nat.reduceAdd, Nat.reduceLeDiff, Nat.reduceBEq, BT, BU, csC, trC, h3']
  refine goE_loop (bad := []) (kp := ES) (fun i : Nat => { slots := [(2, .c (.ptr 0 0)), (3, .c (.ptr 1 0)), (6, I b), (33, rgs c.lamp), (34, I c.lamp.length), (35, I b), (53, Dm x.eye), (54, I 3), (55, I i)], heap := [.cells (csC c), .cells (trC x)], marks := [] }) (fun i => i ≤ 3 ∧ ∀ j, j < i → (c.e j b).has (x.e j b) = true) (fun i => 3 - i) 0 mo (by kernel_rfl) ?_ ⟨Nat.zero_le _, by intro j h; omega⟩ ?_
  ·refine ent_weaken [.cells (rgC (c.l b))] rfl rfl (Nat.zero_le _) rfl rfl ?_
   simp (maxSteps := 2000000) only [go_sem, reduceIte, Nat.reduceEqDiff, Nat.reduceAdd, Nat.reduceLT, BT, BU, csC, trC, rgs, Dm]
   all_goals first | exact .refl _ | exact ⟨.refl _, .refl _⟩ | exact ⟨.refl _, .refl _, .refl _⟩ | exact ⟨.refl _, _, rfl⟩ | exact ⟨_, rfl⟩ | exact ⟨.refl _, [], by simp⟩ | exact ⟨[], by simp⟩
  rintro i ⟨hi, hall2⟩
  simp (maxSteps := 2000000) only [go_sem, reduceIte, Nat.reduceEqDiff, Nat.reduceAdd, BT, BU, csC, trC, rgs, Dm]
  by_cases hlt2 : i < 3
  ·have hlt2' : (i : Int) < 3 := by omega
   obtain ⟨row, hrow, hrl⟩ := hc.row hlt2
   obtain ⟨rox, hrox, hrxl⟩ := Tr.row hl hlt2
   have g1 := Cs.e_at hrow (b := b) (by omega)
   have g2 := Tr.e_at hrox (b := b) (by omega)
   have k1 : (i : Int) < c.eye.length := by omega
   have k2 : (b : Int) < row.length := by omega
   have k3 : (b : Int) < rox.length := by omega
   simp (maxSteps := 2000000) only [go_sem, reduceIte, Nat.reduceEqDiff, Nat.reduceAdd, Nat.reduceLT, Nat.reduceLeDiff, Nat.reduceBEq, Nat.reduceMul, BT, BU, hlt2', hrow, hrox, g1, g2, rgD, iD, rowR, Ff, nn, h3', k1, k2, k3]
   refine Af (HH (c.e i b).lo (c.e i b).hi [x.e i b]) rfl rfl (by first | exact wk_refls _ | (repeat constructor)) (by kernel_rfl) ?_
   rw [To]
   simp (maxSteps := 2000000) only [go_sem, reduceIte, Nat.reduceEqDiff, Nat.reduceAdd, BT, BU]
   cases hh2 : (c.e i b).has (x.e i b) with
   | false =>
    have e := Ix hl hlt (RL hlt2 hh2)
    simp (maxSteps := 2000000) only [go_sem, reduceIte, Nat.reduceEqDiff, Nat.reduceAdd, BT, BU, e]
   | true =>
   have w : wr .i64 ((i : Int) + 1) = ((i + 1 : Nat) : Int) := Az hlt2 (by omega)
   simp (maxSteps := 2000000) only [go_sem, reduceIte, Nat.reduceEqDiff, Nat.reduceAdd, BT, BU, w]
   refine ⟨i + 1, ⟨hlt2, fun j hj => ?_⟩, by omega, ?_⟩
   ·rcases Nat.lt_succ_iff_lt_or_eq.1 hj with h | h
    ·exact hall2 j h
    ·rw [h]; exact hh2
   refine ent_weaken [] rfl rfl (Nat.zero_le _) rfl rfl ?_
   simp (maxSteps := 2000000) only [go_sem, reduceIte, Nat.reduceEqDiff, Nat.reduceAdd, Nat.reduceLT, BT, BU, csC, trC]
   all_goals first | exact .refl _ | exact ⟨.refl _, .refl _⟩ | exact ⟨.refl _, .refl _, .refl _⟩ | exact ⟨.refl _, _, rfl⟩ | exact ⟨_, rfl⟩ | exact ⟨.refl _, [], by simp⟩ | exact ⟨[], by simp⟩
  ·have hlt2' : ¬ (i : Int) < 3 := by omega
   simp (maxSteps := 2000000) only [go_sem, reduceIte, Nat.reduceEqDiff, Nat.reduceAdd, BT, BU, hlt2', Az hlt (show c.lamp.length ≤ 140737488355328 by omega)]
   refine ⟨b + 1, ⟨hlt, fun j hj => ?_⟩, by omega, ?_⟩
   ·rcases Nat.lt_succ_iff_lt_or_eq.1 hj with h | h
    ·exact hall j h
    ·rw [h]; exact (CY c x b).2 ⟨hh, fun j hj => hall2 j (by omega)⟩
   refine ent_weaken [] rfl rfl (Nat.zero_le _) rfl rfl ?_
   simp (maxSteps := 2000000) only [go_sem, reduceIte, Nat.reduceEqDiff, Nat.reduceAdd, Nat.reduceLT, BT, BU, csC, trC]
   all_goals first | exact .refl _ | exact ⟨.refl _, .refl _⟩ | exact ⟨.refl _, .refl _, .refl _⟩ | exact ⟨.refl _, _, rfl⟩ | exact ⟨_, rfl⟩ | exact ⟨.refl _, [], by simp⟩ | exact ⟨[], by simp⟩
 ·have hlt' : ¬ (b : Int) < c.lamp.length := by omega
  have e : FU c x = 0 := by rw [RJ hl, (HK c x).2 (fun j hj => hall j (by omega))]; rfl
  simp (maxSteps := 2000000) only [go_sem, reduceIte, Nat.reduceEqDiff, Nat.reduceAdd, BT, BU, hlt', e]
theorem RM {c : Cs} {x : Tr} {i : Nat} {row : List Int} (h : x.eye[i]? = some row) (hr : ¬ row.length = c.lamp.length) : CF c x = false := by
 rw [← Bool.not_eq_true, Ei]; rintro ⟨_, _, h2⟩; exact hr (h2 row (List.mem_of_getElem? h))
set_option maxHeartbeats 4000000 in
theorem checkTrue30 (c : Cs) (x : Tr) (hc : OkC c) : AF Tryz.prog 20 [csV c, trV x] (I (FU c x)) := by
 refine pure_wkE (bad := []) (kp := D3) (X := tx) (nt := 108) (rs := [.tmp 4]) Tryz.func20 rfl rfl rfl rfl mo (by kernel_rfl) rfl rfl (fun hf => ?_)
 have hfx := aB1 (hf (trV x) (by simp))
 have hn8 := hc.n8
 have he3 := hc.e3
 by_cases h1 : x.lamp.length = c.lamp.length
 case neg =>
  have h1' : ¬ (x.lamp.length : Int) = c.lamp.length := by omega
  have e := Gi (c := c) (x := x) (by simp [CF, h1])
  simp (maxSteps := 2000000) only [go_sem, reduceIte, Nat.reduceEqDiff, Nat.reduceAdd, Nat.reduceBEq, BT, BU, csV, csC, trV, trC, h1', e]
 have h1' : (x.lamp.length : Int) = c.lamp.length := by omega
 by_cases h3 : x.eye.length = 3
 case neg =>
  have h3' : ¬ (x.eye.length : Int) = 3 := by omega
  have e := Gi (c := c) (x := x) (by simp [CF, h3])
  simp (maxSteps := 2000000) only [go_sem, reduceIte, Nat.reduceEqDiff, Nat.reduceAdd, Nat.reduceLeDiff, Nat.reduceBEq, BT, BU, csV, csC, trV, trC, h1', h3', e]
 have h3' : (x.eye.length : Int) = 3 := by omega
 have he3' : (c.eye.length : Int) = 3 := by omega
 simp (maxSteps := 2000000) only [go_sem, reduceIte, Nat.reduceEqDiff, Nat.reduceAdd, Nat.reduceLeDiff, Nat.reduceBEq, BT, BU, csV, csC, trV, trC, h1', h3']
 refine goE_loop (bad := []) (kp := D3) (fun i : Nat => { slots := [(2, .c (.ptr 0 0)), (3, .c (.ptr 1 0)), (5, I c.lamp.length), (6, I i)], heap := [.cells (csC c), .cells (trC x)], marks := [] }) (fun i => i ≤ 3 ∧ ∀ j r, j < i → x.eye[j]? = some r → r.length = c.lamp.length) (fun i => 3 - i) 0 mo (by kernel_rfl) ?_ ⟨Nat.zero_le _, by intro j r h; omega⟩ ?_
 ·refine ent_weaken [] rfl rfl (Nat.zero_le _) rfl rfl ?_
  simp (maxSteps := 2000000) only [go_sem, reduceIte, Nat.reduceEqDiff, Nat.reduceAdd, Nat.reduceLT, BT, BU, csC, trC]
  all_goals first | exact .refl _ | exact ⟨.refl _, .refl _⟩ | exact ⟨.refl _, .refl _, .refl _⟩ | exact ⟨.refl _, _, rfl⟩ | exact ⟨_, rfl⟩ | exact ⟨.refl _, [], by simp⟩ | exact ⟨[], by simp⟩
 rintro i ⟨hi, hall⟩
 simp (maxSteps := 2000000) only [go_sem, reduceIte, Nat.reduceEqDiff, Nat.reduceAdd, BT, BU, csC, trC]
 by_cases hlt : i < 3
 ·have hlt' : (i : Int) < 3 := by omega
  obtain ⟨r, hr⟩ := AD (show i < x.eye.length by omega)
  have k1 : (i : Int) < x.eye.length := by omega
  simp (maxSteps := 2000000) only [go_sem, reduceIte, Nat.reduceEqDiff, Nat.reduceAdd, Nat.reduceLeDiff, Nat.reduceBEq, BT, BU, hr, Ff, nn, k1, hlt', h3']
  by_cases hxl : r.length = c.lamp.length
  ·have hxl' : (r.length : Int) = c.lamp.length := by omega
   have m1 : 3 - (i + 1) < 3 - i := by omega
   have w : wr .i64 ((i : Int) + 1) = ((i + 1 : Nat) : Int) := Az hlt (by omega)
   simp (maxSteps := 2000000) only [go_sem, reduceIte, Nat.reduceEqDiff, Nat.reduceAdd, BT, BU, hxl', w]
   refine ⟨i + 1, ⟨hlt, Bw hall hr hxl⟩, m1, ?_⟩
   refine ent_weaken [] rfl rfl (Nat.zero_le _) rfl rfl ?_
   simp (maxSteps := 2000000) only [go_sem, reduceIte, Nat.reduceEqDiff, Nat.reduceAdd, Nat.reduceLT, BT, BU]
  ·have hxl' : ¬ (r.length : Int) = c.lamp.length := by omega
   have e := Gi (RM hr hxl)
   simp (maxSteps := 2000000) only [go_sem, reduceIte, Nat.reduceEqDiff, Nat.reduceAdd, BT, BU, hxl', e]
 have hlt' : ¬ (i : Int) < 3 := by omega
 have hl : CF c x = true := (Ei c x).2 ⟨h1, h3, fun r hr => by
  obtain ⟨j, hj⟩ := List.getElem?_of_mem hr
  exact hall j r (by have := (List.getElem?_eq_some_iff.1 hj).1; omega) hj⟩
 clear hall
 simp (maxSteps := 2000000) only [go_sem, reduceIte, Nat.reduceEqDiff, Nat.reduceAdd, BT, BU, hlt']
 refine goE_loop (bad := []) (kp := D3) (fun b : Nat => { slots := [(2, .c (.ptr 0 0)), (3, .c (.ptr 1 0)), (5, I c.lamp.length), (7, I b)], heap := [.cells (csC c), .cells (trC x)], marks := [] }) (fun b => b ≤ c.lamp.length ∧ ∀ j, j < b → Fi c x j = true) (fun b => c.lamp.length - b) 0 mo (by kernel_rfl) ?_ ⟨Nat.zero_le _, by intro j h; omega⟩ ?_
 ·refine ent_weaken [] rfl rfl (Nat.zero_le _) rfl rfl ?_
  simp (maxSteps := 2000000) only [go_sem, reduceIte, Nat.reduceEqDiff, Nat.reduceAdd, Nat.reduceLT, BT, BU, csC, trC]
  all_goals first | exact .refl _ | exact ⟨.refl _, .refl _⟩ | exact ⟨.refl _, .refl _, .refl _⟩ | exact ⟨.refl _, _, rfl⟩ | exact ⟨_, rfl⟩ | exact ⟨.refl _, [], by simp⟩ | exact ⟨[], by simp⟩
 rintro b ⟨hb, hall⟩
 simp (maxSteps := 2000000) only [go_sem, reduceIte, Nat.reduceEqDiff, Nat.reduceAdd, BT, BU, csC, trC]
 by_cases hlt : b < c.lamp.length
 case neg =>
  have hlt' : ¬ (b : Int) < c.lamp.length := by omega
  have e : FU c x = 0 := by rw [RJ hl, (HK c x).2 (fun j hj => hall j (by omega))]; rfl
  simp (maxSteps := 2000000) only [go_sem, reduceIte, Nat.reduceEqDiff, Nat.reduceAdd, BT, BU, hlt', e]
 have hlb' : (b : Int) < c.lamp.length := by omega
 have hy := Cs.l_lt hlt
 have hx := Tr.l_lt (c := x) (b := b) (by omega)
 by_cases q1 : x.l b < (c.l b).lo
 ·have e := Ix hl hlt (RK (by rw [← Bool.not_eq_true, Rg.has_iff]; omega))
  simp (maxSteps := 2000000) only [go_sem, reduceIte, Nat.reduceEqDiff, Nat.reduceAdd, Nat.reduceLeDiff, Nat.reduceBEq, BT, BU, hlb', hy, hx, rgD, iD, nn, h1', q1, e]
 by_cases q2 : (c.l b).hi < x.l b
 ·have e := Ix hl hlt (RK (by rw [← Bool.not_eq_true, Rg.has_iff]; omega))
  simp (maxSteps := 2000000) only [go_sem, reduceIte, Nat.reduceEqDiff, Nat.reduceAdd, Nat.reduceLeDiff, Nat.reduceBEq, BT, BU, hlb', hy, hx, rgD, iD, nn, h1', q1, q2, e]
 have hh : (c.l b).has (x.l b) = true := (Rg.has_iff _ _).2 (by omega)
 simp (maxSteps := 2000000) only [go_sem, reduceIte, Nat.reduceEqDiff, Nat.reduceAdd, Nat.reduceLeDiff, Nat.reduceBEq, BT, BU, hlb', hy, hx, rgD, iD, nn, h1', q1, q2]
 refine goE_loop (bad := []) (kp := D3) (fun i : Nat => { slots := [(2, .c (.ptr 0 0)), (3, .c (.ptr 1 0)), (5, I c.lamp.length), (7, I b), (8, I i)], heap := [.cells (csC c), .cells (trC x)], marks := [] }) (fun i => i ≤ 3 ∧ ∀ j, j < i → (c.e j b).has (x.e j b) = true) (fun i => 3 - i) 0 mo (by kernel_rfl) ?_ ⟨Nat.zero_le _, by intro j h; omega⟩ ?_
 ·refine ent_weaken [] rfl rfl (Nat.zero_le _) rfl rfl ?_
  simp (maxSteps := 2000000) only [go_sem, reduceIte, Nat.reduceEqDiff, Nat.reduceAdd, Nat.reduceLT, BT, BU, csC, trC]
  all_goals first | exact .refl _ | exact ⟨.refl _, .refl _⟩ | exact ⟨.refl _, .refl _, .refl _⟩ | exact ⟨.refl _, _, rfl⟩ | exact ⟨_, rfl⟩ | exact ⟨.refl _, [], by simp⟩ | exact ⟨[], by simp⟩
 rintro i ⟨hi, hall2⟩
 simp (maxSteps := 2000000) only [go_sem, reduceIte, Nat.reduceEqDiff, Nat.reduceAdd, BT, BU, csC, trC]
 by_cases hlt2 : i < 3
 ·have hlt2' : (i : Int) < 3 := by omega
  obtain ⟨row, hrow, hrl⟩ := hc.row hlt2
  obtain ⟨rox, hrox, hrxl⟩ := Tr.row hl hlt2
  have g1 := Cs.e_at hrow (b := b) (by omega)
  have g2 := Tr.e_at hrox (b := b) (by omega)
  have k2 : (b : Int) < row.length := by omega
  have k3 : (b : Int) < rox.length := by omega
  by_cases q1 : x.e i b < (c.e i b).lo
  ·have e := Ix hl hlt (RL hlt2 (by rw [← Bool.not_eq_true, Rg.has_iff]; omega))
   simp (maxSteps := 2000000) only [go_sem, reduceIte, Nat.reduceEqDiff, Nat.reduceAdd, Nat.reduceLeDiff, Nat.reduceBEq, BT, BU, hlt2', hrow, hrox, g1, g2, rgD, iD, rowR, Ff, nn, h3', he3', k2, k3, q1, e]
  by_cases q2 : (c.e i b).hi < x.e i b
  ·have e := Ix hl hlt (RL hlt2 (by rw [← Bool.not_eq_true, Rg.has_iff]; omega))
   simp (maxSteps := 2000000) only [go_sem, reduceIte, Nat.reduceEqDiff, Nat.reduceAdd, Nat.reduceLeDiff, Nat.reduceBEq, BT, BU, hlt2', hrow, hrox, g1, g2, rgD, iD, rowR, Ff, nn, h3', he3', k2, k3, q1, q2, e]
  have hh2 : (c.e i b).has (x.e i b) = true := (Rg.has_iff _ _).2 (by omega)
  have m1 : 3 - (i + 1) < 3 - i := by omega
  have w : wr .i64 ((i : Int) + 1) = ((i + 1 : Nat) : Int) := Az hlt2 (by omega)
  simp (maxSteps := 2000000) only [go_sem, reduceIte, Nat.reduceEqDiff, Nat.reduceAdd, Nat.reduceLeDiff, Nat.reduceBEq, BT, BU, hlt2', hrow, hrox, g1, g2, rgD, iD, rowR, Ff, nn, h3', he3', k2, k3, q1, q2, w]
  refine ⟨i + 1, ⟨hlt2, fun j hj => ?_⟩, m1, ?_⟩
  ·rcases Nat.lt_succ_iff_lt_or_eq.1 hj with h | h
   ·exact hall2 j h
   ·rw [h]; exact hh2
  refine ent_weaken [] rfl rfl (Nat.zero_le _) rfl rfl ?_
  simp (maxSteps := 2000000) only [go_sem, reduceIte, Nat.reduceEqDiff, Nat.reduceAdd, Nat.reduceLT, BT, BU]
 ·have hlt2' : ¬ (i : Int) < 3 := by omega
  simp (maxSteps := 2000000) only [go_sem, reduceIte, Nat.reduceEqDiff, Nat.reduceAdd, BT, BU, hlt2', Az hlt (show c.lamp.length ≤ 140737488355328 by omega)]
  refine ⟨b + 1, ⟨hlt, fun j hj => ?_⟩, by omega, ?_⟩
  ·rcases Nat.lt_succ_iff_lt_or_eq.1 hj with h | h
   ·exact hall j h
   ·rw [h]; exact (CY c x b).2 ⟨hh, fun j hj => hall2 j (by omega)⟩
  refine ent_weaken [] rfl rfl (Nat.zero_le _) rfl rfl ?_
  simp (maxSteps := 2000000) only [go_sem, reduceIte, Nat.reduceEqDiff, Nat.reduceAdd, Nat.reduceLT, BT, BU]
end Go.Proofs.YtfgdbeijjbijnaaGreatDoor.Me
set_option linter.unusedSimpArgs false
set_option linter.unusedVariables false
set_option maxRecDepth 100000
namespace Go.Proofs.YtfgdbeijjbijnaaGreatDoor.Me
open Go Go.Abs Go.Proofs
def FB : List (Nat × List Nat) := [(0, [1, 2, 6]), (1, [1, 2, 6, 7]), (2, [2, 6, 7, 11, 12, 13]), (3, [2, 6, 7, 11, 12, 13, 14]), (4, [2, 6, 7, 8, 9, 11, 12, 13]), (5, [2, 6, 7, 8, 9, 11, 12, 13, 18]), (6, [2, 6, 7, 8, 9, 11, 12, 13, 18, 19]), (7, [2, 6, 7, 8, 9, 10, 11, 12, 13, 18]), (8, [2, 6, 7, 8, 9, 11, 12, 13, 18]), (9, [2, 6, 7, 8, 9, 11, 12, 13, 18]), (10, [2, 6, 7, 11, 12, 13]), (11, [6])]
theorem Dy : lookK FB 0 = some [1, 2, 6] ∧ lookK FB 1 = some [1, 2, 6, 7] ∧ lookK FB 2 = some [2, 6, 7, 11, 12, 13] ∧ lookK FB 3 = some [2, 6, 7, 11, 12, 13, 14] ∧ lookK FB 4 = some [2, 6, 7, 8, 9, 11, 12, 13] ∧ lookK FB 5 = some [2, 6, 7, 8, 9, 11, 12, 13, 18] ∧ lookK FB 6 = some [2, 6, 7, 8, 9, 11, 12, 13, 18, 19] ∧ lookK FB 7 = some [2, 6, 7, 8, 9, 10, 11, 12, 13, 18] ∧ lookK FB 8 = some [2, 6, 7, 8, 9, 11, 12, 13, 18] ∧ lookK FB 9 = some [2, 6, 7, 8, 9, 11, 12, 13, 18] ∧ lookK FB 10 = some [2, 6, 7, 11, 12, 13] ∧ lookK FB 11 = some [6] := ⟨rfl, rfl, rfl, rfl, rfl, rfl, rfl, rfl, rfl, rfl, rfl, rfl⟩
def aGK : List (Nat × List Nat) := [(0, [0, 1, 2]), (1, [5])]
theorem Dz : lookK aGK 0 = some [0, 1, 2] ∧ lookK aGK 1 = some [5] := ⟨rfl, rfl⟩
def aB2 : List (Nat × List Nat) := [(0, [1, 2, 3]), (1, [6])]
theorem Cc : lookK aB2 0 = some [1, 2, 3] ∧ lookK aB2 1 = some [6] := ⟨rfl, rfl⟩
def aB3 : List (Nat × List Nat) := [(0, [1, 2, 3]), (1, [6])]
theorem Ce : lookK aB3 0 = some [1, 2, 3] ∧ lookK aB3 1 = some [6] := ⟨rfl, rfl⟩
def CN (f : Nat → Int) : Nat → Int
 | 0 => 0
 | n + 1 => CN f n + f n
theorem Fj {f : Nat → Int} : ∀ {n : Nat}, (∀ b, b < n → -10000000 ≤ f b ∧ f b ≤ 10000000) → -(10000000 * (n : Int)) ≤ CN f n ∧ CN f n ≤ 10000000 * n
 | 0, _ => by simp [CN]
 | n + 1, h => by
  have ih := Fj (f := f) (n := n) (fun b hb => h b (by omega))
  have h1 := h n (by omega)
  simp only [CN]; omega
theorem DA {f g : Nat → Int} : ∀ {n : Nat}, (∀ b, b < n → f b = g b) → CN f n = CN g n
 | 0, _ => rfl
 | n + 1, h => by rw [CN, CN, DA (fun b hb => h b (by omega)), h n (by omega)]
theorem KV (f g : Nat → Int) : ∀ n : Nat, CN f n + CN g n = CN (fun b => f b + g b) n
 | 0 => rfl
 | n + 1 => by have := KV f g n; simp only [CN] at this ⊢; omega
theorem DB {x p : Int} (hx : -1000 ≤ x ∧ x ≤ 1000) (hp : 0 ≤ p ∧ p ≤ 10000) : -10000000 ≤ x * p ∧ x * p ≤ 10000000 := by
 obtain ⟨x0, x1⟩ := hx
 obtain ⟨p0, p1⟩ := hp
 constructor
 ·have h1 := Int.mul_le_mul_of_nonneg_right x0 p0
  omega
 ·have h1 := Int.mul_le_mul_of_nonneg_right x1 p0
  omega
structure EU (l : List Int) : Prop where
 n8 : l.length ≤ 8
 b : ∀ x ∈ l, -1000 ≤ x ∧ x ≤ 1000
theorem EU.g {l : List Int} (h : EU l) {b : Nat} (hb : b < l.length) : -1000 ≤ gI l b ∧ gI l b ≤ 1000 := h.b _ (List.mem_of_getElem? (ET hb))
def PG (n : Nat) (p : Nat → Nat → Int) : Prop := ∀ i b, i < 3 → b < n → 0 ≤ p i b ∧ p i b ≤ 10000
def Ej (p : Nat → Nat → Int) (l : List Int) (k b : Nat) : Int := CN (fun b => gI l b * p k b) b
def GX (p : Nat → Nat → Int) (l : List Int) (b i : Nat) : Nat → Int := fun k => if k < i then Ej p l k (b + 1) else Ej p l k b
theorem MT (p : Nat → Nat → Int) (l : List Int) (b : Nat) : GX p l b 0 = fun k : Nat => Ej p l k b := by funext k; simp [GX]
theorem PH (p : Nat → Nat → Int) (l : List Int) (b : Nat) : Bo 3 (GX p l b 3) = Bo 3 (fun k : Nat => Ej p l k (b + 1)) := by
 refine List.map_congr_left fun k hk => ?_
 simp at hk
 simp [GX, hk]
theorem Tp (p : Nat → Nat → Int) (l : List Int) (b i : Nat) : GX p l b i i = Ej p l i b := by simp [GX]
theorem PI {p : Nat → Nat → Int} {l : List Int} {b i : Nat} {v : Int} (h : v = Ej p l i (b + 1)) : upd (GX p l b i) i v = GX p l b (i + 1) := by
 funext k
 by_cases e : k = i
 ·subst e; rw [Ao, h]; simp [GX]
 ·rw [AJ _ _ e]
  simp only [GX]
  have : k < i + 1 ↔ k < i := by omega
  simp only [this]
theorem Fk {p : Nat → Nat → Int} {l : List Int} (hl : EU l) (hp : PG l.length p) {k b : Nat} (hk : k < 3) (hb : b ≤ l.length) : -80000000 ≤ Ej p l k b ∧ Ej p l k b ≤ 80000000 := by
 have h := Fj (f := fun b => gI l b * p k b) (n := b) (fun j hj => DB (hl.g (by omega)) (hp k j hk (by omega)))
 have := hl.n8
 unfold Ej
 omega
def B2 (p : Nat → Nat → Int) (l : List Int) : Nat → Int := fun k => Ej p l k l.length
theorem low5 (c c2 : Cs) (x : Tr) (f g : Nat → Int) : List.all [AB.cells (csC c2), AB.cells (trC x), AB.cells (csC c), AB.cells (AH 3 f), AB.cells (AH 3 g)] (AB.low 5) = true := by simp [AB.low, Ba, csC, trC, C.lowL, C.low]
def th (f : Nat → Int) : V := .agg (AH 3 f)
theorem Fl (f : Nat → Int) : AH 3 f = [.d (.int .i64 (f 0)), .d (.int .i64 (f 1)), .d (.int .i64 (f 2))] := rfl
set_option maxHeartbeats 4000000 in
theorem aB4 (c : Cs) (l : List Int) (g : Nat) (p : Nat → Nat → Int) (hl : EU l) (hp : PG l.length p) (hg : ∀ i b : Nat, i < 3 → b < l.length → AF Tryz.prog g [csV c, I i, I b] (I (p i b))) :
  AF Tryz.prog 48 [csV c, ints l, .c (.ma (.func g) (csC c))] (th (B2 p l)) := by
 refine pure_wkE (bad := []) (kp := FB) (X := tx) (nt := 35) (rs := [.cell 6 118]) Tryz.func48 rfl rfl rfl rfl mo (by kernel_rfl) rfl rfl (fun hf => ?_)
 have hn8 := hl.n8
 have hlen : l.length ≤ 140737488355328 := by omega
 simp (maxSteps := 2000000) only [go_sem, reduceIte, Nat.reduceEqDiff, Nat.reduceAdd, Dy, Dz, Cc, Ce, csV, csC, ints, trC]
 refine goE_loop (bad := []) (kp := FB) (fun b : Nat => { slots := [(2, .c (.ma (.func g) (csC c))), (6, .c (.ptr 1 0)), (7, .c (.ptr 2 0)), (11, ints l), (12, I l.length), (13, I b)], heap := [.cells (csC c), .cells (AH 3 (fun _ => 0)), .cells (AH 3 (fun k : Nat => Ej p l k b))], marks := [] }) (fun b => b ≤ l.length) (fun b => l.length - b) 0 mo (by kernel_rfl) ?_ (Nat.zero_le _) ?_
 ·refine ent_weaken [] rfl rfl (show 0 ≤ 3 by decide) (by simp [AB.low, Ba, csC, trC, C.lowL, C.low]) rfl ?_
  simp (maxSteps := 2000000) only [go_sem, reduceIte, Nat.reduceEqDiff, Nat.reduceAdd, Nat.reduceLT, Dy, Dz, Cc, Ce, csC, ints, trC]
  all_goals first | exact .refl _ | exact ⟨.refl _, .refl _⟩ | exact ⟨.refl _, .refl _, .refl _⟩ | exact ⟨.refl _, _, rfl⟩ | exact ⟨_, rfl⟩ | exact ⟨.refl _, [], by simp⟩ | exact ⟨[], by simp⟩
 rintro b hb
 simp (maxSteps := 2000000) only [go_sem, reduceIte, Nat.reduceEqDiff, Nat.reduceAdd, Dy, Dz, Cc, Ce, csC, ints, trC]
 by_cases hlt : b < l.length
 ·have hlt' : (b : Int) < l.length := by omega
  have g0 := ET hlt
  have m0 : l.length - (b + 1) < l.length - b := by omega
  simp (maxSteps := 2000000) only [go_sem, reduceIte, Nat.reduceEqDiff, Nat.reduceAdd, Dy, Dz, Cc, Ce, hlt', g0, nn, iD]
  refine goE_loop (bad := []) (kp := FB) (fun i : Nat => { slots := [(2, .c (.ma (.func g) (csC c))), (6, .c (.ptr 1 0)), (7, .c (.ptr 2 0)), (8, I b), (9, I (gI l b)), (11, ints l), (12, I l.length), (13, I b), (18, I i)], heap := [.cells (csC c), .cells (AH 3 (fun _ => 0)), .cells (AH 3 (GX p l b i))], marks := [] }) (fun i => i ≤ 3) (fun i => 3 - i) 0 mo (by kernel_rfl) ?_ (Nat.zero_le _) ?_
  ·refine ent_weaken [] (by simp [MT, csC, trC]) rfl (show 0 ≤ 3 by decide) (by simp [AB.low, Ba, csC, trC, C.lowL, C.low]) rfl ?_
   simp (maxSteps := 2000000) only [go_sem, reduceIte, Nat.reduceEqDiff, Nat.reduceAdd, Nat.reduceLT, Dy, Dz, Cc, Ce, ints, csC, trC]
   all_goals first | exact .refl _ | exact ⟨.refl _, .refl _⟩ | exact ⟨.refl _, .refl _, .refl _⟩ | exact ⟨.refl _, _, rfl⟩ | exact ⟨_, rfl⟩ | exact ⟨.refl _, [], by simp⟩ | exact ⟨[], by simp⟩
  rintro i hi
  simp (maxSteps := 2000000) only [go_sem, reduceIte, Nat.reduceEqDiff, Nat.reduceAdd, Dy, Dz, Cc, Ce, csC, trC]
  by_cases hlt2 : i < 3
  ·have hlt2' : (i : Int) < 3 := by omega
   have m1 : 3 - (i + 1) < 3 - i := by omega
   have g1 := CM (GX p l b i) hlt2
   rw [Tp] at g1
   have b1 := Fk hl hp hlt2 hb
   have b2 := Fk hl hp hlt2 (show b + 1 ≤ l.length from hlt)
   have b3 := DB (hl.g hlt) (hp i b hlt2 hlt)
   have e1 : Ej p l i b + gI l b * p i b = Ej p l i (b + 1) := rfl
   have r1 : decide ((i : Int) < ((3 : Nat) : Int)) = true := by simp; omega
   have r2 : decide (i ≤ 2) = true := by simp; omega
   have r3 : decide (i + 1 ≤ 3) = true := by simp; omega
   have w3 : wr .i64 ((i : Int) + 1) = ((i + 1 : Nat) : Int) := by rw [Cl] <;> omega
   have w1 : wr .i64 (gI l b * p i b) = gI l b * p i b := by rw [Cl] <;> omega
   have w2 : wr .i64 (Ej p l i b + gI l b * p i b) = Ej p l i (b + 1) := by rw [Cl, e1] <;> omega
   clear b1 b2 b3 e1
   simp (maxSteps := 2000000) only [go_sem, reduceIte, Nat.reduceEqDiff, Nat.reduceAdd, Nat.reduceLeDiff, Dy, Dz, Cc, Ce, hlt2', nn, g1, r1, r2, r3, BI, Nat.mul_one, Nat.zero_add]
   refine Af (hg i b hlt2 hlt) rfl rfl (by first | exact wk_refls _ | (repeat constructor)) (by kernel_rfl) ?_
   simp (maxSteps := 2000000) only [go_sem, reduceIte, Nat.reduceEqDiff, Nat.reduceAdd, Nat.reduceLeDiff, Dy, Dz, Cc, Ce, w1, w2, w3, hlt2', nn, g1, r1, r2, r3, BI, Nat.mul_one, Nat.zero_add]
   refine ⟨i + 1, hlt2, m1, ?_⟩
   refine ent_weaken [] (by simp only [Dx, PI rfl, List.append_nil, csC, trC]) rfl (show 0 ≤ 3 by decide) (by simp [AB.low, Ba, csC, trC, C.lowL, C.low]) rfl ?_
   simp (maxSteps := 2000000) only [go_sem, reduceIte, Nat.reduceEqDiff, Nat.reduceAdd, Nat.reduceLT, Dy, Dz, Cc, Ce, csC, trC, ints]
   all_goals first | exact .refl _ | exact ⟨.refl _, .refl _⟩ | exact ⟨.refl _, .refl _, .refl _⟩ | exact ⟨.refl _, _, rfl⟩ | exact ⟨_, rfl⟩ | exact ⟨.refl _, [], by simp⟩ | exact ⟨[], by simp⟩
  ·have hlt2' : ¬ (i : Int) < 3 := by omega
   have e : i = 3 := by omega
   subst e
   have w3 : wr .i64 ((b : Int) + 1) = ((b + 1 : Nat) : Int) := Az hlt hlen
   simp (maxSteps := 2000000) only [go_sem, reduceIte, Nat.reduceEqDiff, Nat.reduceAdd, Nat.reduceSub, Dy, Dz, Cc, Ce, hlt2', w3]
   refine ⟨b + 1, hlt, m0, ?_⟩
   refine ent_weaken [] (by simp only [AH, PH, List.append_nil, csC, trC]) rfl (show 0 ≤ 3 by decide) (by simp [AB.low, Ba, csC, trC, C.lowL, C.low]) rfl ?_
   simp (maxSteps := 2000000) only [go_sem, reduceIte, Nat.reduceEqDiff, Nat.reduceAdd, Nat.reduceLT, Dy, Dz, Cc, Ce, csC, trC, ints]
   all_goals first | exact .refl _ | exact ⟨.refl _, .refl _⟩ | exact ⟨.refl _, .refl _, .refl _⟩ | exact ⟨.refl _, _, rfl⟩ | exact ⟨_, rfl⟩ | exact ⟨.refl _, [], by simp⟩ | exact ⟨[], by simp⟩
 ·have hlt' : ¬ (b : Int) < l.length := by omega
  have e : b = l.length := by omega
  subst e
  simp (maxSteps := 2000000) only [go_sem, reduceIte, Nat.reduceEqDiff, Nat.reduceAdd, Dy, Dz, Cc, Ce, hlt', Fl, th, B2, csC, trC]
  all_goals first | exact .refl _ | exact ⟨.refl _, .refl _⟩ | exact ⟨.refl _, .refl _, .refl _⟩ | exact ⟨.refl _, _, rfl⟩ | exact ⟨_, rfl⟩ | exact ⟨.refl _, [], by simp⟩ | exact ⟨[], by simp⟩
set_option maxHeartbeats 4000000 in
theorem aGL (c c2 : Cs) (x : Tr) (l : List Int) (p : Nat → Nat → Int) (hl : EU l) (hp : PG l.length p) (hg : ∀ i b : Nat, i < 3 → b < l.length → ∀ H, H[1]? = some (.cells (trC x)) → H.all (AB.low H.length) = true → Ad Tryz.prog 49 [I i, I b, .c (.ptr 1 0)] H (one (I (p i b)) H)) :
  Ad Tryz.prog 48 [csV c, ints l, .c (.fn (.func 49) [.ptr 1 0])] [.cells (csC c2), .cells (trC x)] (one (th (B2 p l)) [.cells (csC c2), .cells (trC x)]) := by
 refine acall_atE (bad := []) (kp := FB) (X := tx) (nt := 35) (rs := [.cell 6 118]) Tryz.func48 rfl rfl rfl rfl mo (by kernel_rfl) rfl rfl (fun hf => ?_)
 have hn8 := hl.n8
 have hlen : l.length ≤ 140737488355328 := by omega
 simp (maxSteps := 2000000) only [go_sem, reduceIte, Nat.reduceEqDiff, Nat.reduceAdd, Dy, Dz, Cc, Ce, csV, csC, ints, trC]
 refine goE_loop (bad := []) (kp := FB) (fun b : Nat => { slots := [(2, .c (.fn (.func 49) [.ptr 1 0])), (6, .c (.ptr 3 0)), (7, .c (.ptr 4 0)), (11, ints l), (12, I l.length), (13, I b)], heap := [.cells (csC c2), .cells (trC x), .cells (csC c), .cells (AH 3 (fun _ => 0)), .cells (AH 3 (fun k : Nat => Ej p l k b))], marks := [] }) (fun b => b ≤ l.length) (fun b => l.length - b) 0 mo (by kernel_rfl) ?_ (Nat.zero_le _) ?_
 ·refine ent_weaken [] rfl rfl (show 2 ≤ 5 by decide) (by simp [AB.low, Ba, csC, trC, C.lowL, C.low]) rfl ?_
  simp (maxSteps := 2000000) only [go_sem, reduceIte, Nat.reduceEqDiff, Nat.reduceAdd, Nat.reduceLT, Dy, Dz, Cc, Ce, csC, ints, trC]
  all_goals first | exact .refl _ | exact ⟨.refl _, .refl _⟩ | exact ⟨.refl _, .refl _, .refl _⟩ | exact ⟨.refl _, _, rfl⟩ | exact ⟨_, rfl⟩ | exact ⟨.refl _, [], by simp⟩ | exact ⟨[], by simp⟩
 rintro b hb
 simp (maxSteps := 2000000) only [go_sem, reduceIte, Nat.reduceEqDiff, Nat.reduceAdd, Dy, Dz, Cc, Ce, csC, ints, trC]
 by_cases hlt : b < l.length
 ·have hlt' : (b : Int) < l.length := by omega
  have g0 := ET hlt
  have m0 : l.length - (b + 1) < l.length - b := by omega
  simp (maxSteps := 2000000) only [go_sem, reduceIte, Nat.reduceEqDiff, Nat.reduceAdd, Dy, Dz, Cc, Ce, hlt', g0, nn, iD]
  refine goE_loop (bad := []) (kp := FB) (fun i : Nat => { slots := [(2, .c (.fn (.func 49) [.ptr 1 0])), (6, .c (.ptr 3 0)), (7, .c (.ptr 4 0)), (8, I b), (9, I (gI l b)), (11, ints l), (12, I l.length), (13, I b), (18, I i)], heap := [.cells (csC c2), .cells (trC x), .cells (csC c), .cells (AH 3 (fun _ => 0)), .cells (AH 3 (GX p l b i))], marks := [] }) (fun i => i ≤ 3) (fun i => 3 - i) 0 mo (by kernel_rfl) ?_ (Nat.zero_le _) ?_
  ·refine ent_weaken [] (by simp [MT, csC, trC]) rfl (show 2 ≤ 5 by decide) (by simp [AB.low, Ba, csC, trC, C.lowL, C.low]) rfl ?_
   simp (maxSteps := 2000000) only [go_sem, reduceIte, Nat.reduceEqDiff, Nat.reduceAdd, Nat.reduceLT, Dy, Dz, Cc, Ce, ints, csC, trC]
   all_goals first | exact .refl _ | exact ⟨.refl _, .refl _⟩ | exact ⟨.refl _, .refl _, .refl _⟩ | exact ⟨.refl _, _, rfl⟩ | exact ⟨_, rfl⟩ | exact ⟨.refl _, [], by simp⟩ | exact ⟨[], by simp⟩
  rintro i hi
  simp (maxSteps := 2000000) only [go_sem, reduceIte, Nat.reduceEqDiff, Nat.reduceAdd, Dy, Dz, Cc, Ce, csC, trC]
  by_cases hlt2 : i < 3
  ·have hlt2' : (i : Int) < 3 := by omega
   have m1 : 3 - (i + 1) < 3 - i := by omega
   have g1 := CM (GX p l b i) hlt2
   rw [Tp] at g1
   have b1 := Fk hl hp hlt2 hb
   have b2 := Fk hl hp hlt2 (show b + 1 ≤ l.length from hlt)
   have b3 := DB (hl.g hlt) (hp i b hlt2 hlt)
   have e1 : Ej p l i b + gI l b * p i b = Ej p l i (b + 1) := rfl
   have r1 : decide ((i : Int) < ((3 : Nat) : Int)) = true := by simp; omega
   have r2 : decide (i ≤ 2) = true := by simp; omega
   have r3 : decide (i + 1 ≤ 3) = true := by simp; omega
   have w3 : wr .i64 ((i : Int) + 1) = ((i + 1 : Nat) : Int) := by rw [Cl] <;> omega
   have w1 : wr .i64 (gI l b * p i b) = gI l b * p i b := by rw [Cl] <;> omega
   have w2 : wr .i64 (Ej p l i b + gI l b * p i b) = Ej p l i (b + 1) := by rw [Cl, e1] <;> omega
   clear b1 b2 b3 e1
   simp (maxSteps := 2000000) only [go_sem, reduceIte, Nat.reduceEqDiff, Nat.reduceAdd, Nat.reduceLeDiff, Dy, Dz, Cc, Ce, hlt2', nn, g1, r1, r2, r3, BI, Nat.mul_one, Nat.zero_add]
   have hLow := low5 c c2 x (fun _ => 0) (GX p l b i)
   refine S2 (hg i b hlt2 hlt _ rfl hLow) rfl rfl (by first | exact wk_refls _ | (repeat constructor)) (by kernel_rfl) ?_
   simp (maxSteps := 2000000) only [go_sem, reduceIte, Nat.reduceEqDiff, Nat.reduceAdd, Nat.reduceLeDiff, Dy, Dz, Cc, Ce, w1, w2, w3, hlt2', nn, g1, r1, r2, r3, BI, Nat.mul_one, Nat.zero_add]
   refine ⟨i + 1, hlt2, m1, ?_⟩
   refine ent_weaken [] (by simp only [Dx, PI rfl, List.append_nil, csC, trC]) rfl (show 2 ≤ 5 by decide) (by simp [AB.low, Ba, csC, trC, C.lowL, C.low]) rfl ?_
   simp (maxSteps := 2000000) only [go_sem, reduceIte, Nat.reduceEqDiff, Nat.reduceAdd, Nat.reduceLT, Dy, Dz, Cc, Ce, csC, trC, ints]
   all_goals first | exact .refl _ | exact ⟨.refl _, .refl _⟩ | exact ⟨.refl _, .refl _, .refl _⟩ | exact ⟨.refl _, _, rfl⟩ | exact ⟨_, rfl⟩ | exact ⟨.refl _, [], by simp⟩ | exact ⟨[], by simp⟩
  ·have hlt2' : ¬ (i : Int) < 3 := by omega
   have e : i = 3 := by omega
   subst e
   have w3 : wr .i64 ((b : Int) + 1) = ((b + 1 : Nat) : Int) := Az hlt hlen
   simp (maxSteps := 2000000) only [go_sem, reduceIte, Nat.reduceEqDiff, Nat.reduceAdd, Nat.reduceSub, Dy, Dz, Cc, Ce, hlt2', w3]
   refine ⟨b + 1, hlt, m0, ?_⟩
   refine ent_weaken [] (by simp only [AH, PH, List.append_nil, csC, trC]) rfl (show 2 ≤ 5 by decide) (by simp [AB.low, Ba, csC, trC, C.lowL, C.low]) rfl ?_
   simp (maxSteps := 2000000) only [go_sem, reduceIte, Nat.reduceEqDiff, Nat.reduceAdd, Nat.reduceLT, Dy, Dz, Cc, Ce, csC, trC, ints]
   all_goals first | exact .refl _ | exact ⟨.refl _, .refl _⟩ | exact ⟨.refl _, .refl _, .refl _⟩ | exact ⟨.refl _, _, rfl⟩ | exact ⟨_, rfl⟩ | exact ⟨.refl _, [], by simp⟩ | exact ⟨[], by simp⟩
 ·have hlt' : ¬ (b : Int) < l.length := by omega
  have e : b = l.length := by omega
  subst e
  simp (maxSteps := 2000000) only [go_sem, reduceIte, Nat.reduceEqDiff, Nat.reduceAdd, Dy, Dz, Cc, Ce, hlt', Fl, th, B2, csC, trC]
  all_goals first | exact .refl _ | exact ⟨.refl _, .refl _⟩ | exact ⟨.refl _, .refl _, .refl _⟩ | exact ⟨.refl _, _, rfl⟩ | exact ⟨_, rfl⟩ | exact ⟨.refl _, [], by simp⟩ | exact ⟨[], by simp⟩
def pX (x : Tr) (i b : Nat) : Int := x.e i b * x.l b
def pL (c : Cs) (i b : Nat) : Int := (c.e i b).lo * (c.l b).lo
def pH (c : Cs) (i b : Nat) : Int := (c.e i b).hi * (c.l b).hi
theorem GY {x y : Int} (hx : 0 ≤ x ∧ x ≤ 100) (hy : 0 ≤ y ∧ y ≤ 100) : 0 ≤ x * y ∧ x * y ≤ 10000 := by
 refine ⟨Int.mul_nonneg hx.1 hy.1, ?_⟩
 have h1 := Int.mul_le_mul_of_nonneg_right hx.2 hy.1
 omega
theorem OkC.okL {c : Cs} (h : OkC c) (n : Nat) : PG n (pL c) := fun i b _ _ => GY (by have := h.be i b; omega) (by have := h.bl b; omega)
theorem OkC.okH {c : Cs} (h : OkC c) (n : Nat) : PG n (pH c) := fun i b _ _ => GY (by have := h.be i b; omega) (by have := h.bl b; omega)
theorem OkC.okLH {c : Cs} (h : OkC c) (i b : Nat) : pL c i b ≤ pH c i b := by
 have h1 := h.be i b; have h2 := h.bl b
 exact Int.mul_le_mul (by omega) (by omega) (by omega) (by omega)
theorem OkT.okX {c : Cs} {x : Tr} (hc : OkC c) (h : OkT c x) {n : Nat} (hn : n ≤ c.lamp.length) : PG n (pX x) := fun i b hi hb =>
 GY (by have := h.be i b hi (by omega); have := hc.be i b; omega) (by have := h.bl b (by omega); have := hc.bl b; omega)
set_option maxHeartbeats 1000000 in
theorem aOT {c : Cs} (x : Tr) (hc : OkC c) (hT : OkT c x) (i b : Nat) (hi : i < 3) (hb : b < c.lamp.length) (H : List AB) (h1 : H[1]? = some (.cells (trC x))) (hH : H.all (AB.low H.length) = true) : Ad Tryz.prog 49 [I i, I b, .c (.ptr 1 0)] H (one (I (pX x i b)) H) := by
 have hlt := (List.getElem?_eq_some_iff.1 h1).1
 refine acall_atE (bad := []) (kp := aGK) (X := tx) (nt := 20) (rs := [.tmp 5]) Tryz.func49 rfl rfl rfl rfl mo (by kernel_rfl) ?_ hH (fun hf => ?_)
 ·rfl
 obtain ⟨row, hr⟩ := AD (show i < x.eye.length by rw [hT.e3]; exact hi)
 have hrl := hT.er row (List.mem_of_getElem? hr)
 have g1 := Tr.e_at hr (b := b) (by omega)
 have g2 := Tr.l_lt (c := x) (b := b) (by rw [hT.ln]; exact hb)
 have b1 := (OkT.okX hc hT (Nat.le_refl _)) i b hi hb
 have w : wr .i64 (x.e i b * x.l b) = pX x i b := by rw [Cl] <;> unfold pX at b1 <;> first | rfl | omega
 have k1 : (i : Int) < x.eye.length := by rw [hT.e3]; omega
 have k2 : (b : Int) < row.length := by omega
 have k3 : (b : Int) < x.lamp.length := by rw [hT.ln]; omega
 simp (maxSteps := 2000000) only [go_sem, reduceIte, Nat.reduceEqDiff, Nat.reduceAdd, Nat.reduceLeDiff, Nat.reduceBEq, Dy, Dz, Cc, Ce, h1, hr, Ff, trC, iD, g1, g2, w, k1, k2, k3, nn]
 all_goals first | exact .refl _ | exact ⟨.refl _, .refl _⟩ | exact ⟨.refl _, .refl _, .refl _⟩ | exact ⟨.refl _, _, rfl⟩ | exact ⟨_, rfl⟩ | exact ⟨.refl _, [], by simp⟩ | exact ⟨[], by simp⟩
set_option maxHeartbeats 1000000 in
theorem PJ (c : Cs) (hc : OkC c) (i b : Nat) (hi : i < 3) (hb : b < c.lamp.length) : AF Tryz.prog 121 [csV c, I i, I b] (I (pL c i b)) := by
 refine pure_wkE (bad := []) (kp := aB2) (X := tx) (nt := 25) (rs := [.tmp 6]) Tryz.func121 rfl rfl rfl rfl mo (by kernel_rfl) rfl rfl (fun hf => ?_)
 obtain ⟨row, hr, hrl⟩ := hc.row hi
 have g1 := Cs.e_at hr (b := b) (by omega)
 have g2 := Cs.l_lt hb
 have b1 := hc.okL (b + 1) i b hi (by omega)
 have w : wr .i64 ((c.e i b).lo * (c.l b).lo) = pL c i b := by rw [Cl] <;> unfold pL at b1 <;> first | rfl | omega
 have k1 : (i : Int) < c.eye.length := by rw [hc.e3]; omega
 have k2 : (b : Int) < row.length := by omega
 have k3 : (b : Int) < c.lamp.length := by omega
 simp (maxSteps := 2000000) only [go_sem, reduceIte, Nat.reduceEqDiff, Nat.reduceAdd, Nat.reduceLeDiff, Nat.reduceBEq, Dy, Dz, Cc, Ce, csV, csC, hr, rowR, rgD, g1, g2, w, k1, k2, k3, nn]
set_option maxHeartbeats 1000000 in
theorem Og (c : Cs) (hc : OkC c) (i b : Nat) (hi : i < 3) (hb : b < c.lamp.length) : AF Tryz.prog 122 [csV c, I i, I b] (I (pH c i b)) := by
 refine pure_wkE (bad := []) (kp := aB3) (X := tx) (nt := 25) (rs := [.tmp 6]) Tryz.func122 rfl rfl rfl rfl mo (by kernel_rfl) rfl rfl (fun hf => ?_)
 obtain ⟨row, hr, hrl⟩ := hc.row hi
 have g1 := Cs.e_at hr (b := b) (by omega)
 have g2 := Cs.l_lt hb
 have b1 := hc.okH (b + 1) i b hi (by omega)
 have w : wr .i64 ((c.e i b).hi * (c.l b).hi) = pH c i b := by rw [Cl] <;> unfold pH at b1 <;> first | rfl | omega
 have k1 : (i : Int) < c.eye.length := by rw [hc.e3]; omega
 have k2 : (b : Int) < row.length := by omega
 have k3 : (b : Int) < c.lamp.length := by omega
 simp (maxSteps := 2000000) only [go_sem, reduceIte, Nat.reduceEqDiff, Nat.reduceAdd, Nat.reduceLeDiff, Nat.reduceBEq, Dy, Dz, Cc, Ce, csV, csC, hr, rowR, rgD, g1, g2, w, k1, k2, k3, nn]
end Go.Proofs.YtfgdbeijjbijnaaGreatDoor.Me
set_option linter.unusedSimpArgs false
set_option linter.unusedVariables false
set_option maxRecDepth 100000
namespace Go.Proofs.YtfgdbeijjbijnaaGreatDoor.Me
open Go Go.Abs Go.Proofs
def aB5 : List (Nat × List Nat) := [(0, [0]), (1, [0, 4]), (2, [2]), (3, [2])]
theorem RN : lookK aB5 0 = some [0] ∧ lookK aB5 1 = some [0, 4] ∧ lookK aB5 2 = some [2] ∧ lookK aB5 3 = some [2] := ⟨rfl, rfl, rfl, rfl⟩
def KW : List (Nat × List Nat) := [(0, [0, 1]), (1, [0, 1, 5]), (2, [1, 5]), (3, [5, 14, 15, 16]), (4, [5, 14, 15, 16, 17]), (5, [5, 6, 7, 14, 15, 16]), (6, [5, 14, 15, 16]), (7, [5, 14, 15, 16]), (8, [4])]
theorem RO : lookK KW 0 = some [0, 1] ∧ lookK KW 1 = some [0, 1, 5] ∧ lookK KW 2 = some [1, 5] ∧ lookK KW 3 = some [5, 14, 15, 16] ∧ lookK KW 4 = some [5, 14, 15, 16, 17] ∧ lookK KW 5 = some [5, 6, 7, 14, 15, 16] ∧ lookK KW 6 = some [5, 14, 15, 16] ∧ lookK KW 7 = some [5, 14, 15, 16] ∧ lookK KW 8 = some [4] := ⟨rfl, rfl, rfl, rfl, rfl, rfl, rfl, rfl, rfl⟩
def lessL (a b : List Int) : List Int := (List.range a.length).map (fun k => gI a k - gI b k)
theorem lessL_len (a b : List Int) : (lessL a b).length = a.length := by simp [lessL]
theorem aEr {a b : List Int} {k : Nat} (h : k < a.length) : gI (lessL a b) k = gI a k - gI b k := by
 apply Iw; simp [lessL, h]
theorem aB6 (l : List Int) : AH l.length (gI l) = (l.map iD).flatten.map .d := by
 refine List.ext_getElem? fun j => ?_
 have e : ((l.map iD).flatten.map C.d) = l.map (fun x => C.d (.int .i64 x)) := by
  induction l with
  | nil => rfl
  | cons a l ih => simp only [List.map_cons, List.flatten_cons, List.map_append]; rw [ih]; rfl
 rw [e]
 by_cases h : j < l.length
 ·rw [CM _ h, List.getElem?_map, ET h]; rfl
 ·rw [List.getElem?_eq_none (by rw [BI]; omega), List.getElem?_eq_none (by simp; omega)]
theorem I0 {α : Type} : ∀ (ys zs xs : List α), xs.length = zs.length + ys.length → xs.take zs.length = zs → setMany xs zs.length ys = zs ++ ys
 | [], zs, xs, h1, h2 => by simp only [setMany, List.append_nil]; rw [← h2, List.take_of_length_le (by simp at h1; omega)]
 | y :: ys, zs, xs, h1, h2 => by
  have h3 := I0 ys (zs ++ [y]) (xs.set zs.length y) (by simp at h1 ⊢; omega) (by
   rw [List.length_append, List.length_singleton, List.take_add_one, List.take_set_of_le (Nat.le_refl _), h2, List.getElem?_set_self (by simp at h1; omega)]; rfl)
  simp only [setMany]
  rw [List.length_append, List.length_singleton] at h3
  rw [h3]; simp
theorem PK {α : Type} (ys xs : List α) (h : xs.length = ys.length) : setMany xs 0 ys = ys := by
 have := I0 ys [] xs (by simpa using h) rfl
 simpa using this
theorem PL (n : Nat) : (List.replicate n [C.d (.int .i64 0)]).flatten = AH n (fun _ => 0) := Tn n
theorem aB7 (H : List AB) (l : List Int) : DI H 1 l.length (.d (.sl (l.map iD))) = some (AH l.length (gI l)) := by
 have d3 : (l.map iD).all (fun r => r.length == 1) = true := by simp [iD]
 have d4 : l.length ≤ (l.map iD).length := by simp
 rw [aB6]
 simp only [DI, CW, d3, d4, and_self, if_true]
 rw [List.take_of_length_le (by simp)]
theorem aB8 (n : Nat) (f g : Nat → Int) : setMany (AH n f) 0 (AH n g) = AH n g := PK _ _ (by rw [BI, BI])
def Ew (a b : List Int) (i : Nat) : Nat → Int := fun k => if k < i then gI a k - gI b k else gI a k
theorem RQ (a b : List Int) : Ew a b 0 = gI a := by funext k; simp [Ew]
theorem aB9 (a b : List Int) (i : Nat) : Ew a b i i = gI a i := by simp [Ew]
theorem Uh {a b : List Int} {i : Nat} {v : Int} (h : v = gI a i - gI b i) : upd (Ew a b i) i v = Ew a b (i + 1) := by
 funext k
 by_cases e : k = i
 ·subst e; rw [Ao, h]; simp [Ew]
 ·rw [AJ _ _ e]
  simp only [Ew]
  have : k < i + 1 ↔ k < i := by omega
  simp only [this]
theorem Ui (a b : List Int) : (List.range a.length).map (fun k => iD (Ew a b a.length k)) = (lessL a b).map iD := by
 rw [lessL, List.map_map]
 refine List.map_congr_left fun k hk => ?_
 simp at hk
 simp [Ew, hk]
set_option maxHeartbeats 4000000 in
theorem aCa (a b : List Int) (hab : b.length = a.length) (ha : EU a) (hb : EU b) : AF Tryz.prog 58 [ints a, ints b] (ints (lessL a b)) := by
 refine pure_fzE (bad := []) (kp := KW) (X := tx) (nt := 30) (rs := [.tmp 4]) Tryz.func58 rfl rfl rfl rfl mo (by kernel_rfl) rfl rfl (fun hf => ?_)
 have hn8 := ha.n8
 simp (maxSteps := 2000000) only [go_sem, reduceIte, Nat.reduceEqDiff, Nat.reduceAdd, Nat.reduceLT, RN, RO, ints, nn, Int.toNat_natCast, PL, Nat.min_self, List.length_map, BI, Nat.le_refl, aB7, aB8]
 refine ⟨by rw [Bool.and_eq_true, Bool.and_eq_true]; exact ⟨⟨decide_eq_true (Int.le_refl _), decide_eq_true (by show (8 : Int) * _ ≤ _; omega)⟩, decide_eq_true (by show (_ : Int) ≤ 140737488355328; omega)⟩, by simp, ?_⟩
 refine goE_loop (bad := []) (kp := KW) (fun i : Nat => { slots := [(5, .c (.ms 0 0 a.length a.length)), (14, ints b), (15, I a.length), (16, I i)], heap := [.cells (AH a.length (Ew a b i))], marks := [] }) (fun i => i ≤ a.length) (fun i => a.length - i) 0 mo (by kernel_rfl) ?_ (Nat.zero_le _) ?_
 ·refine ent_weaken [] (by simp only [RQ, List.append_nil]) rfl (Nat.zero_le _) (by simp [AB.low, Ba]) rfl ?_
  simp (maxSteps := 2000000) only [go_sem, reduceIte, Nat.reduceEqDiff, Nat.reduceLT, RN, RO, ints, hab]
  all_goals first | exact .refl _ | exact ⟨.refl _, .refl _⟩ | exact ⟨.refl _, .refl _, .refl _⟩ | exact ⟨.refl _, _, rfl⟩ | exact ⟨_, rfl⟩ | exact ⟨.refl _, [], by simp⟩ | exact ⟨[], by simp⟩
 rintro i hi
 simp (maxSteps := 2000000) only [go_sem, reduceIte, Nat.reduceEqDiff, Nat.reduceAdd, RN, RO, ints]
 by_cases hlt : i < a.length
 ·have hlt' : (i : Int) < a.length := by omega
  have m1 : a.length - (i + 1) < a.length - i := by omega
  have g0 := ET (l := b) (b := i) (by omega)
  have g1 := CM (Ew a b i) hlt
  rw [aB9] at g1
  have c1 : (i : Int) < b.length := by omega
  have c3 : decide (i + 1 ≤ a.length) = true := by simp; omega
  have c4 := ha.g hlt
  have c5 := hb.g (b := i) (by omega)
  have w3 : wr .i64 ((i : Int) + 1) = ((i + 1 : Nat) : Int) := Az hlt (by omega)
  have w1 : wr .i64 (gI a i - gI b i) = gI a i - gI b i := by rw [Cl] <;> omega
  clear c4 c5
  simp (maxSteps := 2000000) only [go_sem, reduceIte, Nat.reduceEqDiff, Nat.reduceAdd, RN, RO, hlt', g0, g1, nn, iD, c1, c3, w1, w3, BI, Nat.mul_one, Nat.zero_add]
  refine ⟨i + 1, hlt, m1, ?_⟩
  refine ent_weaken [] (by simp only [Dx, Uh rfl, List.append_nil]) rfl (Nat.zero_le _) (by simp [AB.low, Ba]) rfl ?_
  simp (maxSteps := 2000000) only [go_sem, reduceIte, Nat.reduceEqDiff, Nat.reduceLT, RN, RO, ints, hab]
  all_goals first | exact .refl _ | exact ⟨.refl _, .refl _⟩ | exact ⟨.refl _, .refl _, .refl _⟩ | exact ⟨.refl _, _, rfl⟩ | exact ⟨_, rfl⟩ | exact ⟨.refl _, [], by simp⟩ | exact ⟨[], by simp⟩
 ·have hlt' : ¬ (i : Int) < a.length := by omega
  have e : i = a.length := by omega
  subst e
  simp (maxSteps := 2000000) only [go_sem, reduceIte, Nat.reduceEqDiff, Nat.reduceAdd, RN, RO, hlt']
  refine ⟨0, AH a.length (Ew a b a.length), Bo a.length (Ew a b a.length), _, rfl, Iu _, .v (.c (.ms 0 1 a.length a.length (by rw [BV]; omega) (Nat.le_refl _) (by unfold lim; omega))), ?_⟩
  rw [List.drop_zero, GW, Ui]
  exact .refl _
theorem Ek {α : Type} (f : Nat → α) (n : Nat) : (List.range (n + 1)).map f = (List.range n).map f ++ [f n] := by
 rw [List.range_succ, List.map_append]; rfl
set_option maxHeartbeats 1000000 in
theorem aEs (f : Nat → Int) (id : Nat) (H : List AB) (h1 : H[id]? = some (.cells (AH 3 f))) (hH : H.all (AB.low H.length) = true) : Ad Tryz.prog 50 [.c (.ms id 0 3 3)] H (one (ints [f 0, f 1, f 2]) H) := by
 have hlt := (List.getElem?_eq_some_iff.1 h1).1
 refine acall_atE (bad := []) (kp := aB5) (X := tx) (nt := 8) (rs := [.tmp 2]) Tryz.func50 rfl rfl rfl rfl mo (by kernel_rfl) rfl hH (fun hf => ?_)
 simp (maxSteps := 2000000) only [go_sem, reduceIte, Nat.reduceEqDiff, Nat.reduceAdd, Nat.reduceLT, Nat.reduceLeDiff, Nat.reduceBEq, Nat.reduceMul, Nat.reduceDiv, RN, RO, h1, TO, SY, Mx, Fl]
 exact ⟨.c (.own _ _), _, rfl⟩
def seeL (p : Nat → Nat → Int) (l : List Int) : List Int := [B2 p l 0, B2 p l 1, B2 p l 2]
end Go.Proofs.YtfgdbeijjbijnaaGreatDoor.Me
